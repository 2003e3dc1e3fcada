/- A range over a function: the rules. -/
import Derived.Test.Qxb6500573aGreatDoorSlRg
namespace Go.Sl
open Go
set_option linter.unusedSimpArgs false
set_option linter.unusedSectionVars false
set_option linter.unusedVariables false
def lpSeg (l : Nat) (r : Loop) : Seg := [(l, .loop r)]
def dfSeg (r : Nat) : Seg := [(r, .deferred (some []))]
/-- The frame of a round. -/
theorem fits_round {n : Nat} {ρ : Env} {a : Act} {p q : Nat} {v u : Value} (hf : Fits n [] ρ a) (hp : Nat.ble (p + 1) n = true) (hq : Nat.ble (q + 1) n = true) : Fits n [] ((q, u) :: (p, v) :: ρ) ⟨((#[p, q] : Array Nat).zip (List.toArray [v, u])).foldl (fun t (p, v) => t.setIfInBounds p v) a.tmps, []⟩ := by
  have h := (hf.put hp v).put hq u
  refine ⟨?_, rfl, ?_⟩
  · have := h.size
    simpa [Act.put] using this
  · intro i x hx
    have := h.get i x hx
    simpa [Act.put] using this
theorem own_putLoop {A w : World} {l : Nat} {r : Loop} {x : Obj} {h : Seg} (o : Own A w ((l, x) :: h)) (y : Obj) : Own A (w.putObj l y) ((l, y) :: h) :=
  o.put rfl rfl rfl (World.putObj_heap_same (o.lt List.mem_cons_self)) fun k hk => World.putObj_heap_other hk
section
variable {P : Program} {n k : Nat}
theorem round_spec {l fn : Nat} {tmps : Array Value} {as body : Code} {ρ : Env} {H : Hp} {r0 : Loop} {Kb : Hp → Prop} (hst : r0.state = .ready) (hfit : Fits n [] ρ ⟨tmps, []⟩)
    (h : SPr (Fence.wide.inRound l) k P n as (fun e D ρ1 H1 => e = .normal ∧ SPr (Fence.wide.inRound l) k P n body (fun e D ρ2 H2 => e = .ret ∧ ∃ H3 rest, Part H2 H3 rest ∧ Kb H3) D ρ1 H1) [] ρ H)
    {A w : World} {Fr : Seg} (ho : Own A w (lpSeg l r0 ++ (H.flatten ++ Fr))) :
    RoundIn Fence.wide k P l fn tmps as body w (fun e w' => ∃ H2, e = .returned (.bool false) ∧ Kb H2 ∧ Own A w' (lpSeg l { r0 with state := .done, pending := some .ret } ++ (H2.flatten ++ Fr))) := by
  refine roundIn_of_wpIn trivial ?_
  have hperm : ∀ {x : Nat × Obj} {a b : Seg}, (x :: (a ++ b)).Perm (a ++ (x :: b)) := fun {x a b} => List.perm_middle.symm
  have ho0 : Own A w ((l, .loop r0) :: (H.flatten ++ Fr)) := ho
  have ho1 : Own A w (H.flatten ++ ((l, .loop r0) :: Fr)) := ho0.perm hperm
  refine wpIn_mono (h A ((l, .loop r0) :: Fr) ⟨tmps, []⟩ w hfit ho1) ?_
  rintro e a1 w1 ⟨ρ1, H1, f1, o1, rfl, hb⟩
  have o1' : Own A w1 ((l, .loop r0) :: (H1.flatten ++ Fr)) := o1.perm hperm.symm
  have hl := o1'.has _ List.mem_cons_self
  refine ⟨w1.putObj l (.loop { r0 with state := .busy }), run_beginRound hl hst, ?_⟩
  have o2 := own_putLoop (r := r0) o1' (.loop { r0 with state := .busy })
  refine wpIn_mono (hb A ((l, .loop { r0 with state := .busy }) :: Fr) a1 _ f1 (o2.perm hperm)) ?_
  rintro e a2 w2 ⟨ρ2, H4, f2, o4, rfl, H2, rest, hpt, hk⟩
  have o3 := hpt.drop o4
  have o3' : Own A w2 ((l, .loop { r0 with state := .busy }) :: (H2.flatten ++ Fr)) := o3.perm hperm.symm
  have hl2 := o3'.has _ List.mem_cons_self
  exact ⟨_, _, run_endRound (some .ret) hl2, H2, rfl, hk, own_putLoop (r := r0) o3' _⟩
end
section
variable {P : Program} {n : Nat} {Q : Post} {D : Defs} {ρ : Env} {H : Hp} {ops : Array Oper}
def SPLi (P : Program) (n : Nat) (ops : Array Oper) (l : List Oper) (Q : Post) (D : Defs) (ρ : Env) (H : Hp) : Prop :=
  ∀ A F a w, Fits n D ρ a → Own A w (List.flatten H ++ F) → wpListIn Fence.wide 0 P ops (sem n A F Q) l a w
theorem SP_regionI {id : Nat} {l : List Oper} (h : SPLi P n l.toArray l Q D ρ H) : SP P n (.region id l.toArray false) Q D ρ H :=
  fun A F a w hf ho => (wpIn_wide (n := 0)).1 (wpIn_region_lit (h A F a w hf ho))
theorem SPLi_nil (h : Q .normal D ρ H) : SPLi P n ops [] Q D ρ H :=
  fun _ _ _ _ hf ho => ⟨ρ, H, by rw [hf.defers]; exact hf, ho, by rw [hf.defers]; exact h⟩
theorem SPLi_t {o : Oper} {rest : List Oper} (hg : o.guard = none) (ht : tame o.op = true) (h : SP1 P n o Q (fun D ρ H => SPLi P n ops rest Q D ρ H) D ρ H) : SPLi P n ops (o :: rest) Q D ρ H :=
  fun A F a w hf ho => by
    have h1 := h A F a w hf ho
    unfold wpListIn
    rw [if_pos (by simp [Region.wanted, hg])]
    exact tame_in ht (fun _ => trivial) (Oper.wp_mono (fun a w hk => by obtain ⟨ρ, H, k1, k2, k3⟩ := hk; exact k3 A F a w k1 k2) h1)
theorem SPLi_y {op : Op} {ty : TypeId} {v : Value} {d : Nat} {pos : String} {af : Array Edge} {rest : List Oper} (ht : tame op = true) (hy : Yo P n op ty ρ H v) (hd : Nat.ble (d + 1) n = true)
    (k : SPLi P n ops rest Q D ((d, v) :: ρ) H) : SPLi P n ops ({ dst := some d, op := op, type := ty, pos := pos, after := af, guard := none } :: rest) Q D ρ H :=
  SPLi_t rfl ht (SP1_y hy hd k)
/-- A call of yield whose round ends the loop. -/
theorem SPLi_yield {x : Operand} {xs : List Operand} {at_ : Array TypeId} {args : List Value} {l d : Nat} {ty : TypeId} {pos : String} {af : Array Edge} {rest : List Oper} {r0 : Loop} {H' : Hp} {Kb : Hp → Prop}
    (hx : ev ρ x = some (.func (.yield l) #[] #[])) (ha : evs ρ xs = some args) (hsz : args.length = r0.params.size) (hd : Nat.ble (d + 1) n = true) (hp : Pick (lpSeg l r0) H H')
    (hr : ∀ {A w : World} {Fr : Seg}, Own A w (lpSeg l r0 ++ (H'.flatten ++ Fr)) → RoundIn Fence.wide (0 - 1) P l r0.fn ((r0.params.zip args.toArray).foldl (fun t (p, v) => t.setIfInBounds p v) r0.tmps) r0.assign r0.body w (fun e w' => ∃ H2, e = .returned (.bool false) ∧ Kb H2 ∧ Own A w' (lpSeg l { r0 with state := .done, pending := some .ret } ++ (H2.flatten ++ Fr))))
    (kk : ∀ H2, Kb H2 → SPLi P n ops rest Q D ((d, .bool false) :: ρ) (lpSeg l { r0 with state := .done, pending := some .ret } :: H2)) :
    SPLi P n ops ({ dst := some d, op := .call { callee := .value x, args := xs.toArray, argTypes := at_ }, type := ty, pos := pos, after := af, guard := none } :: rest) Q D ρ H :=
  fun A F a w hf ho => by
    unfold wpListIn
    rw [if_pos (by simp [Region.wanted])]
    have ho2 : Own A w (lpSeg l r0 ++ (H'.flatten ++ F)) := by
      rw [← List.append_assoc]; exact ho.perm (List.Perm.append_right F hp)
    have hl := ho2.has (l, .loop r0) (List.mem_append_left _ (by simp [lpSeg]))
    refine ⟨fun _ _ => trivial, ?_⟩
    rw [Oper.semAt_eq _ _ _ (fun c e => by cases e)]
    have hev := hf.evs ha
    have hrun : (execOp a.eval { dst := some d, op := .call { callee := .value x, args := xs.toArray, argTypes := at_ }, type := ty, pos := pos, after := af, guard := none }).run P w = .ok (.round l r0.fn ((r0.params.zip args.toArray).foldl (fun t (p, v) => t.setIfInBounds p v) r0.tmps) r0.assign r0.body) w := by
      have hy := run_yield (P := P) (args := args.toArray) hl (by simpa using hsz)
      simp [execOp, resolve, hf.ev hx, Deferred.ofValue, hev, invoke, hy]
    rw [hrun, Oper.uponIn_round]
    refine ⟨fun h => by simp [Fence.wide] at h, (hr ho2).mono ?_⟩
    rintro e w' ⟨H2, rfl, hk, ho3⟩
    refine kk H2 hk A F _ w' ?_ ?_
    · exact hf.put hd _
    · simpa [List.append_assoc] using ho3
/-- The mark of a range over a function. -/
abbrev mark (r : Nat) : Deferred := { target := .collected r, args := #[] }
def recOf (fn : FuncId) (tmps : Array Value) (ps : Array Tmp) (as body : Code) (r : Nat) : Loop := { state := .ready, pending := none, fn, tmps, params := ps, assign := as, body, defers := r }
def recOut (b : Bool) (r : Loop) : Loop := if b then { r with state := .done, pending := some .ret } else r
/-- A range over a function that is stopped by a return or runs to its end. -/
theorem SP_range {g : Operand} {ps : Array Tmp} {as body : Code} {gf : Nat} {lb : List Value} {W : Bool → Hp → Prop} (hg : ev ρ g = some (.func (.func gf) #[] lb.toArray)) (eg : ∀ args w, (callFunc gf args).run P w = .ok (.enter gf args) w)
    (hS : ∀ (l r fn : Nat) (a : Act) (r0 : Loop), Fits n D ρ a → r0 = recOf fn a.tmps ps as body r → Spec P gf (.func (.yield l) #[] #[] :: lb) (lpSeg l r0 :: H) (Ret fun v Hx => ∃ b H2, W b H2 ∧ Hx = lpSeg l (recOut b r0) :: H2))
    (h1 : ∀ r H2, W true H2 → Q .ret (mark r :: D) ρ (dfSeg r :: H2)) (h0 : ∀ r H2, W false H2 → Q .normal (mark r :: D) ρ (dfSeg r :: H2)) : SP P n (.rangeFunc g ps as body) Q D ρ H := fun A F a w hf ho => by
  refine (wpIn_wide (n := 0)).1 (wpIn_rangeFunc fun fn _ => ?_)
  have he := run_enterLoop_outer (P := P) (w := w) fn a.tmps ps as body
  have hev := hf.ev hg
  have o1 := (ho.alloc (.deferred (some []))).alloc (.loop (recOf fn a.tmps ps as body w.heap.size))
  have hsz : (w.alloc (.deferred (some []))).heap.size = w.heap.size + 1 := by simp
  rw [hsz] at o1
  obtain ⟨W1, hW1⟩ : ∃ W1, W1 = (w.alloc (.deferred (some []))).alloc (.loop (recOf fn a.tmps ps as body w.heap.size)) := ⟨_, rfl⟩
  have he : (Instr.enterLoop fn a.tmps ps as body Fence.wide.round).run P w = .ok (w.heap.size + 1, [mark w.heap.size]) W1 := by rw [hW1]; exact he
  rw [← hW1] at o1
  refine ⟨w.heap.size + 1, [mark w.heap.size], W1, { target := .fn (.func gf) lb.toArray, args := #[.func (.yield (w.heap.size + 1)) #[] #[]] }, W1, gf, (.func (.yield (w.heap.size + 1)) #[] #[] :: lb).toArray, W1, he, ?_, fun _ _ => trivial, ?_, fun h => by simp [Fence.wide] at h, ?_⟩
  · have hc : a.eval (.const (.func (.yield (w.heap.size + 1)) #[] #[])) = .func (.yield (w.heap.size + 1)) #[] #[] := rfl
    simp [resolve, rangeCall, hev, hc, Deferred.ofValue]
  · simp [invoke, eg]
  · refine callsIn_wide.2 ((hS (w.heap.size + 1) w.heap.size fn a _ hf rfl A (dfSeg w.heap.size ++ F) _ ?_).mono ?_)
    · refine o1.perm ?_
      show ((w.heap.size + 1, _) :: (w.heap.size, _) :: (H.flatten ++ F)).Perm _
      simp only [lpSeg, dfSeg, List.flatten_cons, List.cons_append, List.nil_append]
      exact List.Perm.cons _ List.perm_middle.symm
    · rintro e w' ⟨Hx, hR, ho'⟩
      cases e with
      | panicked c => exact hR.elim
      | outgrown => exact hR.elim
      | returned v =>
        obtain ⟨b, H2, hW, rfl⟩ := hR
        have hl := ho'.has (w.heap.size + 1, .loop (recOut b (recOf fn a.tmps ps as body w.heap.size))) (by simp [lpSeg])
        have ho2 : Own A w' ((w.heap.size + 1, .loop (recOut b (recOf fn a.tmps ps as body w.heap.size))) :: (H2.flatten ++ (dfSeg w.heap.size ++ F))) := by simpa [lpSeg] using ho'
        have hb : (recOut b (recOf fn a.tmps ps as body w.heap.size)).state ≠ .busy := by cases b <;> simp [recOut, recOf]
        refine ⟨_, _, run_endLoop hl hb, ?_⟩
        have ho3 := (own_putLoop (r := recOf fn a.tmps ps as body w.heap.size) ho2 (.loop { recOut b (recOf fn a.tmps ps as body w.heap.size) with state := .exhausted }))
        have ho4 : Own A (w'.putObj (w.heap.size + 1) (.loop { recOut b (recOf fn a.tmps ps as body w.heap.size) with state := .exhausted })) (List.flatten (dfSeg w.heap.size :: H2) ++ F) := by
          have := Own.right (h := [(w.heap.size + 1, _)]) ho3
          refine this.perm ?_
          simp only [dfSeg, List.flatten_cons, List.cons_append, List.nil_append]
          exact List.perm_middle
        have hfit : Fits n (mark w.heap.size :: D) ρ { a with defers := [mark w.heap.size] ++ a.defers } := ⟨hf.size, by show [mark w.heap.size] ++ a.defers = _; rw [hf.defers]; rfl, hf.get⟩
        have hdd : [mark w.heap.size] ++ a.defers = mark w.heap.size :: D := by rw [hf.defers]; rfl
        rw [hdd] at hfit
        cases b with
        | true =>
          refine wpIn_ret ⟨ρ, _, ?_, ho4, ?_⟩
          · show Fits n ([mark w.heap.size] ++ a.defers) ρ _
            rw [hdd]; exact hfit
          · show Q .ret ([mark w.heap.size] ++ a.defers) ρ _
            rw [hdd]; exact h1 _ _ hW
        | false =>
          refine ⟨ρ, _, ?_, ho4, ?_⟩
          · show Fits n ([mark w.heap.size] ++ a.defers) ρ _
            rw [hdd]; exact hfit
          · show Q .normal ([mark w.heap.size] ++ a.defers) ρ _
            rw [hdd]; exact h0 _ _ hW
/-- A body that may end with a mark. -/
def bodyPM (P : Program) (fn : Func) (R : Value → Hp → Prop) : Post
  | .normal, D, ρ, H | .ret, D, ρ, H => (D = [] ∧ ∃ v H' rest, Res P fn ρ H v ∧ Part H H' rest ∧ R v H') ∨ ∃ r H1, D = [mark r] ∧ Pick (dfSeg r) H H1 ∧ ∃ v H' rest, Res P fn ρ H1 v ∧ Part H1 H' rest ∧ R v H'
  | _, _, _, _ => False
theorem bodyPM_leaves {fn : Func} {R : Value → Hp → Prop} {A : World} {F : Seg} {a : Act} {w : World} (h1 : Fits n a.defers ρ a) (h2 : Own A w (H.flatten ++ F)) (h3 : bodyPM P fn R .ret a.defers ρ H) :
    LeavesInM Fence.wide 0 P fn a.tmps (fun e w' => ∃ H', Ret R e H' ∧ Own A w' (H'.flatten ++ F)) a.defers .returning w := by
  rcases h3 with ⟨hd, v, H', rest, hr, hp, hR⟩ | ⟨r, H1, hd, hk, v, H', rest, hr, hp, hR⟩
  · rw [hd] at h1 ⊢
    exact ⟨v, hr n _ a A _ w h1 h2 (fun p hp => List.mem_append_left _ hp), H', hR, hp.drop h2⟩
  · rw [hd] at h1 ⊢
    have ho2 : Own A w (dfSeg r ++ (H1.flatten ++ F)) := by
      rw [← List.append_assoc]; exact h2.perm (List.Perm.append_right F hk)
    have hl := ho2.has (r, .deferred (some [])) (by simp [dfSeg])
    have ho3 := own_putLoop (r := recOf 0 #[] #[] .skip .skip 0) (show Own A w ((r, .deferred (some [])) :: (H1.flatten ++ F)) from ho2) (.deferred none)
    have ho4 : Own A (w.putObj r (.deferred none)) (H1.flatten ++ F) := Own.right (h := [(r, _)]) ho3
    refine ⟨by simp, .inl ⟨r, _, rfl, run_takeDeferred hl, ?_⟩⟩
    exact ⟨v, hr n _ a A _ _ h1 ho4 (fun p hp => List.mem_append_left _ hp), H', hR, hp.drop ho4⟩
theorem Spec_enterM {f : FuncId} {fn : Func} {c : Code} {args : List Value} {R : Value → Hp → Prop} (hf : P.funcs[f]? = some fn) (hb : fn.body = some c) (hn : fn.ntmps = n) (hle : Nat.ble args.length n = true)
    (h : SP P n c (bodyPM P fn R) [] (enterEnv 0 args) H) : Spec P f args H (Ret R) := by
  intro A F w ho
  have hle' : args.length ≤ n := Nat.le_of_ble_eq_true hle
  refine callsIn_wide.1 (callsIn_of_wp_marks (n := 0) hf hb trivial ((wpIn_wide (n := 0)).2 (wp_mono (h A F _ w ⟨?_, rfl, ?_⟩ ho) ?_)))
  · simp [hn]; omega
  · intro i v hv
    obtain ⟨_, h2⟩ := look_enterEnv args 0 i v hv
    simp only [Nat.sub_zero] at h2
    have hlt := (List.getElem?_eq_some_iff.1 h2).1
    rw [Array.getElem?_append_left (by simpa using hlt)]
    simpa using h2
  · intro e a w' ⟨ρ, H, h1, h2, h3⟩
    cases e with
    | normal => exact bodyPM_leaves h1 h2 h3
    | ret => exact bodyPM_leaves h1 h2 h3
    | panic c => exact h3.elim
    | exit id => exact h3.elim
    | goto l => exact h3.elim
    | outgrown => exact h3.elim
end
end Go.Sl
