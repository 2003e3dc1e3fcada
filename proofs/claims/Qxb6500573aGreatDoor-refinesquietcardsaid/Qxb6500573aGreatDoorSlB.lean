/- The judgements over code, and the rules of control. -/
import Derived.Test.Qxb6500573aGreatDoorSlA
namespace Go.Sl
open Go

def sem (n : Nat) (A : World) (F : Seg) (Q : Post) : Exit → Act → World → Prop :=
  fun e a w => ∃ ρ H, Fits n a.defers ρ a ∧ Own A w (List.flatten H ++ F) ∧ Q e a.defers ρ H
def semK (n : Nat) (A : World) (F : Seg) (K : Kont) : Act → World → Prop :=
  fun a w => ∃ ρ H, Fits n a.defers ρ a ∧ Own A w (List.flatten H ++ F) ∧ K a.defers ρ H

/-- From this frame and this heap, whatever else lies in memory, the code comes to 'Q'. -/
def SP (P : Program) (n : Nat) (c : Code) (Q : Post) (D : Defs) (ρ : Env) (H : Hp) : Prop :=
  ∀ A F a w, Fits n D ρ a → Own A w (List.flatten H ++ F) → c.wp P (sem n A F Q) a w

/-- One operation. -/
def SP1 (P : Program) (n : Nat) (o : Oper) (Q : Post) (K : Kont) (D : Defs) (ρ : Env) (H : Hp) : Prop :=
  ∀ A F a w, Fits n D ρ a → Own A w (List.flatten H ++ F) → o.wp P a w (semK n A F K) (sem n A F Q)

/-- The operations of a region that are left. -/
def SPL (P : Program) (n : Nat) (ops : Array Oper) (l : List Oper) (Q : Post) (D : Defs) (ρ : Env) (H : Hp) : Prop :=
  ∀ A F a w, Fits n D ρ a → Own A w (List.flatten H ++ F) → wpList P ops (sem n A F Q) l a w

section
variable {P : Program} {n : Nat} {Q : Post} {D : Defs} {ρ : Env} {H : Hp}

def thenP (K : Kont) (Q : Post) : Post
  | .normal, D, ρ, H => K D ρ H
  | e, D, ρ, H => Q e D ρ H
def inBlockP (id : Nat) (Q : Post) : Post
  | .exit id', D, ρ, H => if id' = id then Q .normal D ρ H else Q (.exit id') D ρ H
  | e, D, ρ, H => Q e D ρ H

theorem sem_then {A : World} {F : Seg} {K : Kont} {e : Exit} {a : Act} {w : World} {next : Act → World → Prop} (hK : ∀ a w, semK n A F K a w → next a w)
    (h : sem n A F (thenP K Q) e a w) : Exit.then next (sem n A F Q) e a w := by
  obtain ⟨ρ, H, h1, h2, h3⟩ := h
  cases e with
  | normal => exact hK _ _ ⟨ρ, H, h1, h2, h3⟩
  | _ => exact ⟨ρ, H, h1, h2, h3⟩

theorem SP_seq {x y : Code} (h : SP P n x (thenP (fun D ρ H => SP P n y Q D ρ H) Q) D ρ H) : SP P n (.seq x y) Q D ρ H :=
  fun A F a w hf ho => wp_seq (wp_mono (h A F a w hf ho) fun _ _ _ hq => sem_then (fun _ _ ⟨_, _, k1, k2, k3⟩ => k3 A F _ _ k1 k2) hq)

/-- The same with an assertion of one's own in the middle. -/
theorem SP_cut {x y : Code} (M : Kont) (h : SP P n x (thenP M Q) D ρ H) (k : ∀ D ρ H, M D ρ H → SP P n y Q D ρ H) : SP P n (.seq x y) Q D ρ H :=
  fun A F a w hf ho => wp_seq (wp_mono (h A F a w hf ho) fun _ _ _ hq => sem_then (fun _ _ ⟨_, _, k1, k2, k3⟩ => k _ _ _ k3 A F _ _ k1 k2) hq)

theorem SP_skip (h : Q .normal D ρ H) : SP P n .skip Q D ρ H :=
  fun _ _ a _ hf ho => wp_skip ⟨ρ, H, by rw [hf.defers]; exact hf, ho, by rw [hf.defers]; exact h⟩
theorem SP_ret (h : Q .ret D ρ H) : SP P n .ret Q D ρ H :=
  fun _ _ a _ hf ho => wp_ret ⟨ρ, H, by rw [hf.defers]; exact hf, ho, by rw [hf.defers]; exact h⟩
theorem SP_exit {id : Nat} (h : Q (.exit id) D ρ H) : SP P n (.exit id) Q D ρ H :=
  fun _ _ a _ hf ho => wp_exit ⟨ρ, H, by rw [hf.defers]; exact hf, ho, by rw [hf.defers]; exact h⟩

theorem SP_block {id : Nat} {c : Code} (h : SP P n c (inBlockP id Q) D ρ H) : SP P n (.block id c) Q D ρ H :=
  fun A F a w hf ho => wp_block (wp_mono (h A F a w hf ho) fun e a w hq => by
    obtain ⟨ρ, H, h1, h2, h3⟩ := hq
    cases e with
    | exit id' =>
      simp only [Exit.inBlock]
      by_cases e : id' = id
      · rw [if_pos e]; simp only [inBlockP, if_pos e] at h3; exact ⟨ρ, H, h1, h2, h3⟩
      · rw [if_neg e]; simp only [inBlockP, if_neg e] at h3; exact ⟨ρ, H, h1, h2, h3⟩
    | _ => exact ⟨ρ, H, h1, h2, h3⟩)

theorem thenP_n {K : Kont} (h : K D ρ H) : thenP K Q .normal D ρ H := h
theorem thenP_ret {K : Kont} (h : Q .ret D ρ H) : thenP K Q .ret D ρ H := h
theorem thenP_exit {K : Kont} {id : Nat} (h : Q (.exit id) D ρ H) : thenP K Q (.exit id) D ρ H := h
theorem thenP_panic {K : Kont} {c : List PanicEntry} (h : Q (.panic c) D ρ H) : thenP K Q (.panic c) D ρ H := h
theorem inBlockP_n {id : Nat} (h : Q .normal D ρ H) : inBlockP id Q .normal D ρ H := h
theorem inBlockP_ret {id : Nat} (h : Q .ret D ρ H) : inBlockP id Q .ret D ρ H := h
theorem inBlockP_panic {id : Nat} {c : List PanicEntry} (h : Q (.panic c) D ρ H) : inBlockP id Q (.panic c) D ρ H := h
theorem inBlockP_hit {id : Nat} (h : Q .normal D ρ H) : inBlockP id Q (.exit id) D ρ H := by simpa [inBlockP] using h
theorem inBlockP_miss {id id' : Nat} (e : Nat.beq id' id = false) (h : Q (.exit id') D ρ H) : inBlockP id Q (.exit id') D ρ H := by
  have : id' ≠ id := fun e' => by subst e'; simp at e
  simpa [inBlockP, this] using h

theorem SP_cond_t {c : Operand} {x y : Code} (hc : ev ρ c = some (.bool true)) (h : SP P n x Q D ρ H) : SP P n (.cond c x y) Q D ρ H :=
  fun A F a w hf ho => wp_cond_true (hf.ev hc) (h A F a w hf ho)
theorem SP_cond_f {c : Operand} {x y : Code} (hc : ev ρ c = some (.bool false)) (h : SP P n y Q D ρ H) : SP P n (.cond c x y) Q D ρ H :=
  fun A F a w hf ho => wp_cond_false (hf.ev hc) (h A F a w hf ho)
theorem SP_cond_b {c : Operand} {x y : Code} {b : Bool} (hc : ev ρ c = some (.bool b)) (h : b = true → SP P n x Q D ρ H) (k : b = false → SP P n y Q D ρ H) : SP P n (.cond c x y) Q D ρ H := by
  cases b
  · exact SP_cond_f hc (k rfl)
  · exact SP_cond_t hc (h rfl)
theorem SP_cond_d {c : Operand} {x y : Code} {p : Prop} [Decidable p] (hc : ev ρ c = some (.bool (decide p))) (h : p → SP P n x Q D ρ H) (k : ¬ p → SP P n y Q D ρ H) : SP P n (.cond c x y) Q D ρ H := by
  by_cases hp : p
  · exact SP_cond_t (by simpa [hp] using hc) (h hp)
  · exact SP_cond_f (by simpa [hp] using hc) (k hp)

/-- What is not needed may be forgotten: slots and segments. -/
theorem SP_weak {c : Code} {ρ' : Env} {H' rest : Hp} (hs : Sub ρ' ρ) (hh : Part H H' rest) (h : SP P n c Q D ρ' H') : SP P n c Q D ρ H :=
  fun A F a w hf ho => h A F a w (hf.sub hs) (hh.drop ho)
theorem SP_env {c : Code} {ρ' : Env} (hs : Sub ρ' ρ) (h : SP P n c Q D ρ' H) : SP P n c Q D ρ H :=
  fun A F a w hf ho => h A F a w (hf.sub hs) ho
theorem SP_heap {c : Code} {H' rest : Hp} (hh : Part H H' rest) (h : SP P n c Q D ρ H') : SP P n c Q D ρ H :=
  fun A F a w hf ho => h A F a w hf (hh.drop ho)

theorem SP_mono {c : Code} {Q' : Post} (h : SP P n c Q D ρ H) (hq : ∀ e D ρ H, Q e D ρ H → Q' e D ρ H) : SP P n c Q' D ρ H :=
  fun A F a w hf ho => wp_mono (h A F a w hf ho) fun _ _ _ ⟨ρ, H, h1, h2, h3⟩ => ⟨ρ, H, h1, h2, hq _ _ _ _ h3⟩

/-- A loop whose measure is a ghost. -/
theorem wp_loop_g {P : Program} {c : Code} {Q : Exit → Act → World → Prop} (I : Nat → Act → World → Prop)
    (round : ∀ m a w, I m a w → c.wp P (Exit.then (fun a' w' => ∃ m', m' < m ∧ I m' a' w') Q) a w) {m : Nat} {a : Act} {w : World} (h0 : I m a w) : (Code.loop c).wp P Q a w := by
  intro b k cs
  have key : ∀ m a w, I m a w →
      ∃ e a' w', Q e a' w' ∧ Arrives P (lone (b.at a (.code c :: .inLoop c :: k)) cs w) b k cs e a' w' := by
    intro m
    induction m using Nat.strongRecOn with
    | _ m ih =>
      intro a w hI
      obtain ⟨e, a₁, w₁, hq, harr⟩ := round m a w hI b (.inLoop c :: k) cs
      cases e with
      | normal =>
        obtain ⟨m', hlt, hI₁⟩ := hq
        obtain ⟨e₂, a₂, w₂, hq₂, harr₂⟩ := ih m' hlt a₁ w₁ hI₁
        exact ⟨e₂, a₂, w₂, hq₂, .of_steps (Steps.trans harr (.one step_inLoop)) harr₂⟩
      | exit id => exact ⟨_, a₁, w₁, hq, .pass (x := .inLoop c) rfl (fun _ _ => .inl (by simp)) harr⟩
      | goto l => exact ⟨_, a₁, w₁, hq, .pass (x := .inLoop c) rfl (fun _ _ => .inl (by simp)) harr⟩
      | ret => exact ⟨_, a₁, w₁, hq, .pass (x := .inLoop c) rfl (fun _ _ => .inl (by simp)) harr⟩
      | panic ch => exact ⟨_, a₁, w₁, hq, .pass (x := .inLoop c) rfl (fun _ _ => .inl (by simp)) harr⟩
      | outgrown => exact ⟨_, a₁, w₁, hq, .pass (x := .inLoop c) rfl (fun _ _ => .inl (by simp)) harr⟩
  obtain ⟨e, a', w', hq, harr⟩ := key _ a w h0
  exact ⟨e, a', w', hq, .of_steps (.one step_loop) harr⟩

/-- The end of a loop's round. -/
def Again {G : Type} (mu : G → Nat) (iρ : G → Env) (iH : G → Hp) (ok : G → Prop) (D : Defs) (m : Nat) : Kont :=
  fun D' ρ' H' => D' = D ∧ ∃ g' rest', ok g' ∧ mu g' < m ∧ Sub (iρ g') ρ' ∧ Part H' (iH g') rest'

/-- A loop: 'G' are the ghosts at its head. -/
theorem SP_loop {c : Code} {G : Type} (mu : G → Nat) (iρ : G → Env) (iH : G → Hp) (ok : G → Prop) (g : G) (h0 : ok g) (hs : Sub (iρ g) ρ) {rest : Hp} (hh : Part H (iH g) rest)
    (round : ∀ g, ok g → SP P n c (thenP (Again mu iρ iH ok D (mu g)) Q) D (iρ g) (iH g)) :
    SP P n (.loop c) Q D ρ H := by
  intro A F a w hf ho
  refine wp_loop_g (fun m a w => ∃ g, ok g ∧ mu g = m ∧ Fits n D (iρ g) a ∧ Own A w (List.flatten (iH g) ++ F)) ?_ ⟨g, h0, rfl, hf.sub hs, hh.drop ho⟩
  rintro m a w ⟨g, hok, rfl, hf, ho⟩
  refine wp_mono (round g hok A F a w hf ho) fun e a w hq => sem_then (fun a w hk => ?_) hq
  obtain ⟨ρ, H, h1, h2, h3, g', rest', h4, h5, h6, h7⟩ := hk
  exact ⟨mu g', h5, g', h4, rfl, h3 ▸ h1.sub h6, h7.drop h2⟩

theorem Again.intro {G : Type} {mu : G → Nat} {iρ : G → Env} {iH : G → Hp} {ok : G → Prop} {m : Nat} (g : G) (h : ok g) (hm : mu g < m) (hs : Sub (iρ g) ρ) {rest : Hp} (hh : Part H (iH g) rest) :
    Again mu iρ iH ok D m D ρ H := ⟨rfl, g, rest, h, hm, hs, hh⟩

/-! ### Regions in the order of the text -/

theorem SP_region {id : Nat} {l : List Oper} (h : SPL P n l.toArray l Q D ρ H) : SP P n (.region id l.toArray false) Q D ρ H :=
  fun A F a w hf ho => wp_region_lit (h A F a w hf ho)

theorem SPL_nil {ops : Array Oper} (h : Q .normal D ρ H) : SPL P n ops [] Q D ρ H :=
  fun _ _ _ _ hf ho => ⟨ρ, H, by rw [hf.defers]; exact hf, ho, by rw [hf.defers]; exact h⟩

theorem SPL_one {ops : Array Oper} {o : Oper} {rest : List Oper} (hg : o.guard = none) (h : SP1 P n o Q (fun D ρ H => SPL P n ops rest Q D ρ H) D ρ H) : SPL P n ops (o :: rest) Q D ρ H :=
  fun A F a w hf ho => by
    have h1 := h A F a w hf ho
    unfold wpList
    rw [if_pos (by simp [Region.wanted, hg])]
    exact .inl (Oper.wp_mono (fun a w hk => by obtain ⟨ρ, H, k1, k2, k3⟩ := hk; exact k3 A F a w k1 k2) h1)

/-- What an operation yields, by its kind and its type alone. -/
def runs (P : Program) (op : Op) (ty : TypeId) (e : Operand → Value) (w : World) : Result Next :=
  (execOp e { dst := none, op := op, type := ty, pos := "", after := #[], guard := none }).run P w

/-- An operation that only looks: in every world that holds H's blocks it yields v. -/
def Yo (P : Program) (n : Nat) (op : Op) (ty : TypeId) (ρ : Env) (H : Hp) (v : Value) : Prop :=
  ∀ D a A h w, Fits n D ρ a → Own A w h → (∀ p, p ∈ List.flatten H → p ∈ h) → runs P op ty a.eval w = .ok (.value v) w

theorem SP1_y {op : Op} {ty : TypeId} {v : Value} {d : Nat} {pos : String} {af : Array Edge} {g : Option (Nat × Bool)} {K : Kont} (hy : Yo P n op ty ρ H v) (hd : Nat.ble (d + 1) n = true)
    (k : K D ((d, v) :: ρ) H) : SP1 P n { dst := some d, op := op, type := ty, pos := pos, after := af, guard := g } Q K D ρ H :=
  fun A F a w hf ho => by
    have h1 : (execOp a.eval { dst := some d, op := op, type := ty, pos := pos, after := af, guard := g }).run P w = .ok (.value v) w :=
      hy D a A _ w hf ho (fun p hp => List.mem_append_left _ hp)
    unfold Oper.wp
    rw [h1]
    exact ⟨_, _, by rw [show (a.put (some d) v).defers = D from hf.defers]; exact hf.put hd v, ho, by rw [show (a.put (some d) v).defers = D from hf.defers]; exact k⟩

/-- The commonest step: an operation that only looks, no guard. -/
theorem SPL_y {ops : Array Oper} {op : Op} {ty : TypeId} {v : Value} {d : Nat} {pos : String} {af : Array Edge} {rest : List Oper} (hy : Yo P n op ty ρ H v) (hd : Nat.ble (d + 1) n = true)
    (k : SPL P n ops rest Q D ((d, v) :: ρ) H) : SPL P n ops ({ dst := some d, op := op, type := ty, pos := pos, after := af, guard := none } :: rest) Q D ρ H :=
  SPL_one rfl (SP1_y hy hd k)

/-- A guard that says yes is struck. -/
theorem SPL_gy {ops : Array Oper} {op : Op} {ty : TypeId} {b : Bool} {d : Option Nat} {pos : String} {af : Array Edge} {rest : List Oper} {j t : Nat}
    (hj : (ops[j]?).bind (·.dst) = some t) (ht : look ρ t = some (.bool b))
    (k : SPL P n ops ({ dst := d, op := op, type := ty, pos := pos, after := af, guard := none } :: rest) Q D ρ H) :
    SPL P n ops ({ dst := d, op := op, type := ty, pos := pos, after := af, guard := some (j, b) } :: rest) Q D ρ H :=
  fun A F a w hf ho => by
    have h1 := k A F a w hf ho
    unfold wpList at h1 ⊢
    rw [if_pos (by simp [Region.wanted])] at h1
    rw [if_pos (by simp [Region.wanted, yielded, hj, hf.get t _ ht])]
    exact h1
/-- A guard that says no: the operation is passed over. -/
theorem SPL_gn {ops : Array Oper} {op : Op} {ty : TypeId} {b c : Bool} {d : Nat} {pos : String} {af : Array Edge} {rest : List Oper} {j t : Nat}
    (hj : (ops[j]?).bind (·.dst) = some t) (ht : look ρ t = some (.bool c)) (hc : (c == b) = false) (hd : Nat.ble (d + 1) n = true)
    (k : SPL P n ops rest Q D ((d, undef) :: ρ) H) :
    SPL P n ops ({ dst := some d, op := op, type := ty, pos := pos, after := af, guard := some (j, b) } :: rest) Q D ρ H :=
  fun A F a w hf ho => by
    unfold wpList
    rw [if_neg (by simp [Region.wanted, yielded, hj, hf.get t _ ht]; simpa using hc)]
    exact k A F _ w (hf.put hd undef) ho
/-- A guard that was itself passed over (its slot holds nothing): passed over. -/
theorem SPL_gu {ops : Array Oper} {op : Op} {ty : TypeId} {b : Bool} {d : Nat} {pos : String} {af : Array Edge} {rest : List Oper} {j t : Nat}
    (hj : (ops[j]?).bind (·.dst) = some t) (ht : look ρ t = some undef) (hd : Nat.ble (d + 1) n = true)
    (k : SPL P n ops rest Q D ((d, undef) :: ρ) H) :
    SPL P n ops ({ dst := some d, op := op, type := ty, pos := pos, after := af, guard := some (j, b) } :: rest) Q D ρ H :=
  fun A F a w hf ho => by
    unfold wpList
    rw [if_neg (by simp [Region.wanted, yielded, hj, hf.get t _ ht, undef])]
    exact k A F _ w (hf.put hd undef) ho

/-! ### Calls -/

/-- A function's contract: whatever else lies in memory, the call ends as R says and touches nothing else. -/
def Spec (P : Program) (f : FuncId) (args : List Value) (H : Hp) (R : Ending → Hp → Prop) : Prop :=
  ∀ A F w, Own A w (List.flatten H ++ F) → Calls P f args.toArray w fun e w' => ∃ H', R e H' ∧ Own A w' (List.flatten H' ++ F)

theorem Spec.mono {f : FuncId} {args : List Value} {R R' : Ending → Hp → Prop} (h : Spec P f args H R) (hr : ∀ e H, R e H → R' e H) : Spec P f args H R' :=
  fun A F w ho => (h A F w ho).mono fun _ _ ⟨H', h1, h2⟩ => ⟨H', hr _ _ h1, h2⟩

/-- The ending is a return: of whom. -/
def Ret (R : Value → Hp → Prop) : Ending → Hp → Prop
  | .returned v, H => R v H
  | _, _ => False
/-- A return, or a panic with this chain. -/
def RetP (R : Value → Hp → Prop) (S : List PanicEntry → Hp → Prop) : Ending → Hp → Prop
  | .returned v, H => R v H
  | .panicked c, H => S c H
  | .outgrown, _ => False

def evs (ρ : Env) : List Operand → Option (List Value)
  | [] => some []
  | x :: l => match ev ρ x, evs ρ l with
    | some v, some vs => some (v :: vs)
    | _, _ => none
theorem Fits.evs {n : Nat} {D : Defs} {ρ : Env} {a : Act} (f : Fits n D ρ a) : ∀ {xs : List Operand} {vs : List Value}, evs ρ xs = some vs → xs.map a.eval = vs
  | [], vs, h => by simp [Sl.evs] at h; simp [h]
  | x :: xs, vs, h => by
    simp only [Sl.evs] at h
    split at h
    · rename_i v us h1 h2
      simp at h; subst h
      simp [f.ev h1, f.evs h2]
    · simp at h

theorem SP1_enter {o : Oper} {f : FuncId} {args : List Value} {pre rest : Hp} {R : Ending → Hp → Prop} {d : Nat} {K : Kont} (spec : Spec P f args pre R) (hd : o.dst = some d) (hn : Nat.ble (d + 1) n = true)
    (hp : Part H pre rest) (hrun : ∀ a w, Fits n D ρ a → (execOp a.eval o).run P w = .ok (.enter f args.toArray) w)
    (hr : ∀ v post, R (.returned v) post → K D ((d, v) :: ρ) (post ++ rest)) (hpc : ∀ c post, R (.panicked c) post → Q (.panic c) D ρ (post ++ rest)) (ho : ∀ post, ¬ R .outgrown post) :
    SP1 P n o Q K D ρ H :=
  fun A F a w hf hown => by
    unfold Oper.wp
    rw [hrun a w hf, Oper.upon_enter]
    refine (spec A (rest.flatten ++ F) w (hp.own hown)).mono fun e w' ⟨H', h1, h2⟩ => ?_
    have hdf : (a.put o.dst undef).defers = D := by rw [hd]; exact hf.defers
    cases e with
    | returned v =>
      have hdf : (a.put o.dst v).defers = D := by rw [hd]; exact hf.defers
      exact ⟨_, _, by rw [hdf, hd]; exact hf.put hn v, Part.back h2, by rw [hdf]; exact hr v _ h1⟩
    | panicked c => exact ⟨_, _, by rw [hf.defers]; exact hf, Part.back h2, by rw [hf.defers]; exact hpc c _ h1⟩
    | outgrown => exact absurd h1 (ho _)

end
end Go.Sl
