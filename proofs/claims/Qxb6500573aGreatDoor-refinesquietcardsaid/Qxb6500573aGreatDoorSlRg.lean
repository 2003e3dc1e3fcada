/- A range over a function: the round, the call, the mark. -/
import Derived.Test.Qxb6500573aGreatDoorSlTd
import Derived.Test.Qxb6500573aGreatDoorSlO
import Derived.RangeFuncRecord
import Derived.OrdersIn
import Derived.TacticsIn
namespace Go.Sl
open Go
set_option linter.unusedVariables false
/-- Operations that yield a value or nothing. -/
def tame : Op → Bool
  | .alloc _ => true
  | .store .. => true
  | .load .. => true
  | .fieldAddr .. => true
  | .move _ => true
  | .assign _ => true
  | .unOp .. => true
  | _ => false
section
variable {P : Program} {w w' : World} {r : Next}
theorem run_vv {s : Sem Value} (h : (do pure (Next.value (← s)) : Sem Next).run P w = .ok r w') : ∃ v, r = .value v := by
  simp only [Sem.run_bind] at h
  cases hs : s.run P w with
  | ok v w1 =>
    rw [hs] at h
    simp at h
    exact ⟨v, h.1.symm⟩
  | halt x w1 => rw [hs] at h; simp [Result.andThen] at h
theorem run_uu {s : Sem Unit} (h : (do s; pure Next.skip : Sem Next).run P w = .ok r w') : r = .skip := by
  simp only [Sem.run_bind] at h
  cases hs : s.run P w with
  | ok v w1 =>
    rw [hs] at h
    simp at h
    exact h.1.symm
  | halt x w1 => rw [hs] at h; simp [Result.andThen] at h
theorem tame_out {o : Oper} (h : tame o.op = true) {ρ : Operand → Value} (hr : (execOp ρ o).run P w = .ok r w') : (∃ v, r = .value v) ∨ r = .skip := by
  obtain ⟨dst, op, ty, pos, af, g⟩ := o
  cases op <;> simp only [tame] at h <;> first | (exact Bool.noConfusion h) | skip
  · simp [execOp] at hr; exact .inl ⟨_, hr.1.symm⟩
  · simp [execOp] at hr; exact .inl ⟨_, hr.1.symm⟩
  · exact .inl (run_vv hr)
  · exact .inl (run_vv hr)
  · exact .inr (run_uu hr)
  · exact .inl (run_vv hr)
  · exact .inl (run_vv hr)
theorem tame_nd {o : Oper} (h : tame o.op = true) : ∀ c, o.op ≠ .defer c := fun c e => by rw [e] at h; cases h
end
section
variable {P : Program} {F : Fence} {n k : Nat}
theorem tame_in {o : Oper} (h : tame o.op = true) (hF : ∀ f, F.fn f) {a : Act} {w : World} {next : Act → World → Prop} {Q : Exit → Act → World → Prop} (hw : o.wp P a w next Q) : o.wpIn F k P a w next Q := by
  refine ⟨fun f _ => hF f, ?_⟩
  rw [Oper.semAt_eq _ _ _ (tame_nd h)]
  unfold Oper.wp at hw
  cases hr : (execOp a.eval o).run P w with
  | ok r w' =>
    rw [hr] at hw
    rcases tame_out h hr with ⟨v, rfl⟩ | rfl
    · exact hw
    · exact hw
  | halt x w' =>
    rw [hr] at hw
    cases x <;> exact hw
theorem list_in {ops : Array Oper} {Q : Exit → Act → World → Prop} (hF : ∀ f, F.fn f) (hQ : ¬ LetsOut Q) : ∀ (l : List Oper) (a : Act) (w : World), (∀ o, o ∈ l → tame o.op = true) → wpList P ops Q l a w → wpListIn F k P ops Q l a w
  | [], _, _, _, h => h
  | o :: l, a, w, ht, h => by
    unfold wpList at h
    unfold wpListIn
    split
    · rename_i hw
      rw [if_pos hw] at h
      rcases h with h | h
      · refine tame_in (ht o List.mem_cons_self) hF (Oper.wp_mono (fun a w hk => list_in hF hQ l a w (fun p hp => ht p (List.mem_cons_of_mem _ hp)) hk) h)
      · exact absurd h.2 hQ
    · rename_i hw
      rw [if_neg hw] at h
      exact ⟨fun f _ => hF f, list_in hF hQ l _ w (fun p hp => ht p (List.mem_cons_of_mem _ hp)) h⟩
theorem any_in {ops : Array Oper} {md : Region.Mode} {Q : Exit → Act → World → Prop} (hF : ∀ f, F.fn f) (hQ : ¬ LetsOut Q) (ht : ∀ (i : Nat) (o : Oper), ops[i]? = some o → tame o.op = true) : ∀ (fuel : Nat) (l : Array Bool) (a : Act) (w : World), wpAny P md ops Q fuel l a w → wpAnyIn F k P md ops Q fuel l a w
  | 0, _, _, _, h => h
  | fuel + 1, l, a, w, h => by
    refine ⟨h.1, fun i hi => ?_⟩
    have h1 := h.2 i hi
    unfold wpOp at h1
    unfold wpOpIn
    cases ho : ops[i]? with
    | none => rw [ho] at h1; exact any_in hF hQ ht fuel _ a w h1
    | some o =>
      rw [ho] at h1
      dsimp only at h1 ⊢
      split
      · rename_i hw
        rw [if_pos hw] at h1
        rcases h1 with h1 | h1
        · exact tame_in (ht i o ho) hF (Oper.wp_mono (fun a w hk => any_in hF hQ ht fuel _ a w hk) h1)
        · exact absurd h1.2 hQ
      · rename_i hw
        rw [if_neg hw] at h1
        exact ⟨fun f _ => hF f, any_in hF hQ ht fuel _ _ w h1⟩
end
section
variable {P : Program} {F : Fence} {n k : Nat} {Q : Post} {D : Defs} {ρ : Env} {H : Hp}
/-- No way out but those that are named. -/
def Shut (Q : Post) : Prop := ∀ D ρ H, ¬ Q .outgrown D ρ H
theorem shut_sem {A : World} {Fr : Seg} (h : Shut Q) : ¬ LetsOut (sem n A Fr Q) := by
  rintro ⟨a, w, ρ, H, _, _, h3⟩
  exact h _ _ _ h3
/-- The same code in a fenced frame. -/
def SPr (F : Fence) (k : Nat) (P : Program) (n : Nat) (c : Code) (Q : Post) (D : Defs) (ρ : Env) (H : Hp) : Prop :=
  ∀ A Fr a w, Fits n D ρ a → Own A w (List.flatten H ++ Fr) → c.wpIn F k P (sem n A Fr Q) a w
theorem SPr_region {id : Nat} {l : List Oper} (hF : ∀ f, F.fn f) (hs : Shut Q) (ht : l.all (fun o => tame o.op) = true) (h : SPL P n l.toArray l Q D ρ H) : SPr F k P n (.region id l.toArray false) Q D ρ H :=
  fun A Fr a w hf ho => wpIn_region_lit (list_in hF (shut_sem hs) l a w (fun o hm => List.all_eq_true.1 ht o hm) (h A Fr a w hf ho))
theorem closed0 (ops : Array Oper) : Closed .any ops (Array.replicate ops.size false) := by
  refine ⟨by simp, ?_⟩
  intro j o _ hl
  by_cases hj : j < ops.size
  · simp [hj] at hl
  · simp [hj] at hl
theorem SPr_draw {id : Nat} {l : List Oper} {Hs : Hp} (hF : ∀ f, F.fn f) (hs : Shut Q) (ht : l.all (fun o => tame o.op) = true) (s : Nat) (ord : List (Nat × Nat)) {rest : Hp} (hm : P.follows .mixedOrders = true)
    (hB : (Region.noSelect l.toArray && (ord.length == l.toArray.size) && ordOk .any l.toArray s ord (Array.replicate l.toArray.size false)) = true) (hb : Blind Q) (hp : Part H Hs rest)
    (h : SPO P n l.toArray Q Hs ord D ρ H) : SPr F k P n (.region id l.toArray true) Q D ρ H := fun A Fr a w hf ho => by
  simp only [Bool.and_eq_true, beq_iff_eq] at hB
  obtain ⟨⟨h1, h2⟩, h3⟩ := hB
  refine wpIn_region_any hm (any_in hF (shut_sem hs) (fun i o hi => ?_) _ _ a _ (wpAny_of_T (s := s) (S := fun w => Own A w (List.flatten Hs)) _ _ _ _ ?_))
  · refine List.all_eq_true.1 ht o ?_
    rw [List.getElem?_toArray] at hi
    exact List.mem_of_getElem? hi
  · have hc := closed0 l.toArray
    have := wpAnyT_of_ord (P := P) (Q := sem n A Fr Q) (S := fun w => Own A w (List.flatten Hs)) h1 (blind_sem hb) ord (Array.replicate l.toArray.size false) a w.drew hc h3 (fun _ => (hp.drop ho.drew).left) (h A Fr a w.drew hf ho.drew)
    rw [h2] at this
    exact this
theorem SPr_seq {x y : Code} (h : SPr F k P n x (thenP (fun D ρ H => SPr F k P n y Q D ρ H) Q) D ρ H) : SPr F k P n (.seq x y) Q D ρ H :=
  fun A Fr a w hf ho => wpIn_seq (wpIn_mono (h A Fr a w hf ho) fun _ _ _ hq => sem_then (fun _ _ ⟨_, _, k1, k2, k3⟩ => k3 A Fr _ _ k1 k2) hq)
theorem SPr_ret (h : Q .ret D ρ H) : SPr F k P n .ret Q D ρ H :=
  fun _ _ a _ hf ho => wpIn_ret ⟨ρ, H, by rw [hf.defers]; exact hf, ho, by rw [hf.defers]; exact h⟩
theorem SPr_block {id : Nat} {c : Code} (h : SPr F k P n c (fun e D ρ H => e = .ret ∧ Q .ret D ρ H) D ρ H) : SPr F k P n (.block id c) Q D ρ H :=
  fun A Fr a w hf ho => wpIn_block (wpIn_mono (h A Fr a w hf ho) fun e a w hq => by
    obtain ⟨ρ1, H1, h1, h2, rfl, h4⟩ := hq
    exact ⟨ρ1, H1, h1, h2, h4⟩)
end
end Go.Sl
