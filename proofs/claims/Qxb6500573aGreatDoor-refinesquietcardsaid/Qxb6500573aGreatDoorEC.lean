/- Plain: one fuel more: steps, loops, threads. -/
import Derived.Test.Qxb6500573aGreatDoorEB
namespace Go.Wl
open Go Go.Sl Go.Proofs
set_option linter.unusedVariables false
/-- The fuel falls; what is printed stays, and more comes only where fuel is burnt. -/
structure MoB (th : Nat) (m m' : VM) : Prop where
  fuel : m'.vs.fuel ≤ m.vs.fuel
  nn : 0 ≤ m'.vs.fuel
  out : m.vs.out <+: m'.vs.out
  of : m'.vs.out = m.vs.out ∨ m'.vs.fuel < m.vs.fuel
  st : ∀ (u : Nat) (t : Th), u ≠ th → m.vs.threads[u]? = some t → ∃ t', m'.vs.threads[u]? = some t' ∧ t'.st = t.st
  nw : ∀ (u : Nat) (t' : Th), m.vs.threads.length ≤ u → m'.vs.threads[u]? = some t' → t'.st = 1
  nth : m.vs.threads.length ≤ m'.vs.threads.length
theorem Mo.toB {th : Nat} {m m' : VM} (h : Mo false th m m') (h0 : 0 ≤ m.vs.fuel) : MoB th m m' := ⟨by rw [h.fuel]; exact Int.le_refl _, by rw [h.fuel]; exact h0, h.out.1, .inl (h.out.2 rfl), h.st, h.nw, h.nth⟩
theorem MoB.refl (th : Nat) {m : VM} (h0 : 0 ≤ m.vs.fuel) : MoB th m m := (Mo.refl false th m).toB h0
theorem MoB.trans {th : Nat} {a b c : VM} (h1 : MoB th a b) (h2 : MoB th b c) (hth : th < a.vs.threads.length) : MoB th a c := by
  refine ⟨Int.le_trans h2.fuel h1.fuel, h2.nn, h1.out.trans h2.out, ?_, fun u t hu ht => ?_, fun u t' hu ht => ?_, Nat.le_trans h1.nth h2.nth⟩
  · rcases h1.of with q1 | q1
    · rcases h2.of with q2 | q2
      · exact .inl (q2.trans q1)
      · exact .inr (Int.lt_of_lt_of_le q2 h1.fuel)
    · exact .inr (Int.lt_of_le_of_lt h2.fuel q1)
  · obtain ⟨t1, q1, q2⟩ := h1.st u t hu ht
    obtain ⟨t2, q3, q4⟩ := h2.st u t1 hu q1
    exact ⟨t2, q3, q4.trans q2⟩
  · by_cases hb : u < b.vs.threads.length
    · have q1 := h1.nw u _ hu (List.getElem?_eq_getElem hb)
      obtain ⟨t2, q3, q4⟩ := h2.st u _ (by omega) (List.getElem?_eq_getElem hb)
      rw [ht] at q3
      injection q3 with q3
      rw [q3, q4, q1]
    · exact h2.nw u t' (by omega) ht
/-- A step, which may burn one fuel, and does so before all else that shows. -/
def Bs {α : Type} (th : Nat) (F : VM → Option (Out α)) : Prop := ∀ m, th < m.vs.threads.length → (0 ≤ m.vs.fuel ∧ m.vs.fuel ≤ 9223372036854775807) → ∀ o, F m = some o → MoB th m (mOf o) ∧
  ((∃ m', o = .trp 9 m' ∧ m'.vs.fuel = 0 ∧ m'.vs.out = m.vs.out) ∨ ((∀ m', o ≠ .trp 9 m') ∧ (m.vs.fuel < 9223372036854775807 → F (bump m) = some (bumpO o))))
section
variable {α β : Type} {th : Nat}
theorem Bs.of {F : VM → Option (Out α)} (h : NO false th F) : Bs th F := fun m hm hf o ho => by
  obtain ⟨h1, h2⟩ := h m hm
  obtain ⟨h3, h4⟩ := h2 o ho
  refine ⟨h3.toB hf.1, .inr ⟨fun m' q => h4 9 m' q rfl, fun _ => ?_⟩⟩
  rw [h1, ho]; rfl
theorem Bs.rd {G : VM → Option β} {F : β → VM → Option (Out α)} (hG : N0 G) (hF : ∀ a, Bs th (F a)) : Bs th (fun m => bind1 (G m) fun a => F a m) := fun m hm hf o ho => by
  obtain ⟨a, h1, h2⟩ := bnd1 ho
  have := hF a m hm hf o h2
  refine ⟨this.1, this.2.imp id fun q => ⟨q.1, fun hl => ?_⟩⟩
  dsimp only
  rw [hG m, h1, bind1_some]
  exact q.2 hl
theorem Bs.ite {c : VM → Prop} [∀ m, Decidable (c m)] {F G : VM → Option (Out α)} (hc : ∀ m, c (bump m) ↔ c m) (h1 : Bs th F) (h2 : Bs th G) : Bs th (fun m => if c m then F m else G m) := fun m hm hf o ho => by
  dsimp only at ho ⊢
  by_cases h : c m
  · rw [if_pos h] at ho
    rw [if_pos ((hc m).2 h)]
    exact h1 m hm hf o ho
  · rw [if_neg h] at ho
    rw [if_neg (fun q => h ((hc m).1 q))]
    exact h2 m hm hf o ho
theorem Bs.bind2 {G : VM → Option (β × VM)} {F : β → VM → Option (Out α)} (hG : N2 false th G) (hF : ∀ a, Bs th (F a)) : Bs th (fun m => bind2 (G m) fun a m => F a m) := fun m hm hf o ho => by
  obtain ⟨a, m1, h1, h2⟩ := bnd2 ho
  obtain ⟨g1, g2⟩ := hG m hm
  have hM := g2 a m1 h1
  obtain ⟨q1, q2⟩ := hF a m1 (by have := hM.nth; omega) (by rw [hM.fuel]; exact hf) o h2
  refine ⟨(hM.toB hf.1).trans q1 hm, ?_⟩
  rcases q2 with ⟨m', e1, e2, e3⟩ | ⟨e1, e2⟩
  · exact .inl ⟨m', e1, e2, e3.trans (hM.out.2 rfl)⟩
  · refine .inr ⟨e1, fun hl => ?_⟩
    dsimp only
    rw [g1, h1]
    exact e2 (by rw [hM.fuel]; exact hl)
theorem Bs.burn {F : VM → Option (Out α)} (hF : NO true th F) : Bs th (fun m => bindO (burnM m) fun _ m => F m) := fun m hm hf o ho => by
  dsimp only at ho ⊢
  unfold burnM at ho ⊢
  by_cases h0 : m.vs.fuel = 0
  · rw [if_pos h0] at ho
    have ho : some (Out.trp 9 m) = some o := ho
    injection ho with ho
    subst ho
    exact ⟨MoB.refl th hf.1, .inl ⟨m, rfl, h0, rfl⟩⟩
  · rw [if_neg h0, if_pos (by omega)] at ho
    have ho : F { m with vs := { m.vs with fuel := m.vs.fuel - 1 } } = some o := ho
    obtain ⟨g1, g2⟩ := hF { m with vs := { m.vs with fuel := m.vs.fuel - 1 } } hm
    obtain ⟨g3, g4⟩ := g2 o ho
    have hfu : (mOf o).vs.fuel = m.vs.fuel - 1 := g3.fuel
    refine ⟨⟨by omega, by omega, g3.out.1, .inr (by omega), g3.st, g3.nw, g3.nth⟩, .inr ⟨fun m' q => g4 9 m' q rfl, fun hl => ?_⟩⟩
    have e1 : (bump m).vs.fuel = m.vs.fuel + 1 := rfl
    rw [if_neg (by rw [e1]; omega), if_pos (by rw [e1]; omega)]
    show F { bump m with vs := { (bump m).vs with fuel := (bump m).vs.fuel - 1 } } = _
    have e2 : ({ bump m with vs := { (bump m).vs with fuel := (bump m).vs.fuel - 1 } } : VM) = bump { m with vs := { m.vs with fuel := m.vs.fuel - 1 } } := by
      unfold bump
      dsimp only
      congr 2
      omega
    rw [e2, g1, ho]
    rfl
theorem Bs.ev {F : VM → Option (Out β)} (hF : Bs th F) (a : α) : Bs th (fun m => bindO (F m) fun _ m => some (.ok a m)) := fun m hm hf o ho => by
  dsimp only at ho ⊢
  cases hq : F m with
  | none => rw [hq] at ho; cases ho
  | some p =>
    obtain ⟨q1, q2⟩ := hF m hm hf p hq
    rw [hq] at ho
    cases p with
    | ok b m1 =>
      have ho : some (Out.ok a m1) = some o := ho
      injection ho with ho
      subst ho
      refine ⟨q1, .inr ⟨fun m' q => (by cases q), fun hl => ?_⟩⟩
      rcases q2 with ⟨m', e1, _⟩ | ⟨_, e2⟩
      · cases e1
      · rw [e2 hl]; rfl
    | thr v m1 =>
      have ho : some (Out.thr v m1) = some o := ho
      injection ho with ho
      subst ho
      refine ⟨q1, .inr ⟨fun m' q => (by cases q), fun hl => ?_⟩⟩
      rcases q2 with ⟨m', e1, _⟩ | ⟨_, e2⟩
      · cases e1
      · rw [e2 hl]; rfl
    | trp e m1 =>
      have ho : some (Out.trp e m1) = some o := ho
      injection ho with ho
      subst ho
      refine ⟨q1, ?_⟩
      rcases q2 with ⟨m', e1, e2, e3⟩ | ⟨e1, e2⟩
      · injection e1 with e0 e1
        subst e0 e1
        exact .inl ⟨_, rfl, e2, e3⟩
      · refine .inr ⟨fun m' q => ?_, fun hl => by rw [e2 hl]; rfl⟩
        injection q with q1 q2
        subst q1
        exact e1 m1 rfl
theorem b_jump (i : Nat) (x : Int) : Bs th (jumpV th i x) := Bs.rd (fun _ => rfl) fun f => Bs.ite (fun _ => Iff.rfl) (Bs.burn (NO.bind1 (n_pc i x) (NO.ok (fun _ => _) fun _ => rfl))) (Bs.of (NO.bind1 (n_pc i x) (NO.ok (fun _ => _) fun _ => rfl)))
theorem b_sJmp (i : Nat) (x : Int) (f : Bool) : Bs th (sJmp th i x f) := Bs.rd (fun _ => rfl) fun t => Bs.ite (fun _ => Iff.rfl) (Bs.rd (N0.const _) fun v => Bs.ite (fun _ => Iff.rfl) (Bs.ev (b_jump i x) ev0) (Bs.of (NO.bind2 n_pop fun _ => NO.outE (n_next i)))) (Bs.of NO.none)
theorem b_vcall (i : Nat) (n : Int) : Bs th (vcallM th i n) := Bs.burn (NO.rd (fun _ => rfl) fun t => NO.ite (fun _ => Iff.rfl) (NO.rd (N0.const _) fun f => NO.bind1 (n_next i) (n_callF _ f _)) NO.none)
theorem n_ret (i : Nat) : N2 false th (retM th i) := N2.bind2 n_pop fun v => N2.bind2 n_pop fun w => N2.rd (fun _ => rfl) fun t => N2.ite (fun _ => Iff.rfl) (N2.of n_kill _)
    (N2.rd (fun _ => rfl) fun f => N2.bind1 (n_close _) (N2.rd (fun _ => rfl) fun f => N2.rd (fun _ => rfl) fun t => N2.ite (fun _ => Iff.rfl)
      (N2.bind1 (N1.bind1 (N1.upd (Upd1.setT (fun _ => { t with stack := t.stack.take f.ret.toNat }) fun _ => rfl)) (n_push _)) (N2.rd (fun _ => rfl) fun t => N2.ite (fun _ => Iff.rfl) (N2.upd (Upd1.setT (fun _ => _) fun _ => rfl) (fun _ => ev0) fun _ => rfl) N2.none)) N2.none))
theorem b_step (i : Nat) (p : Pr) (op x : Int) : Bs th (stepE th i p op x) :=
  Bs.ite (fun _ => Iff.rfl) (Bs.ev (b_jump i x) ev0) (Bs.ite (fun _ => Iff.rfl) (Bs.bind2 n_pop fun v => Bs.ite (fun _ => Iff.rfl) (Bs.of (NO.outE (n_next i))) (Bs.ev (b_jump i x) ev0))
    (Bs.ite (fun _ => Iff.rfl) (b_sJmp i x false) (Bs.ite (fun _ => Iff.rfl) (b_sJmp i x true) (Bs.ite (fun _ => Iff.rfl) (b_vcall i x) (Bs.ite (fun _ => Iff.rfl) (Bs.bind2 (n_ret i) fun e => Bs.of (NO.ok (fun _ => _) fun _ => rfl)) (Bs.of (NO.bind (n_plain i p op x) fun _ => NO.outE (n_next i))))))))
theorem b_vstep : Bs th (vstepL th) := Bs.rd (fun _ => rfl) fun t => Bs.ite (fun _ => Iff.rfl) (Bs.rd (fun _ => rfl) fun f => Bs.rd (fun _ => rfl) fun cl => Bs.ite (fun _ => Iff.rfl) (Bs.rd (fun _ => rfl) fun p => Bs.ite (fun _ => Iff.rfl) (Bs.ite (fun _ => Iff.rfl) (Bs.of (NO.trp (by decide)))
    (Bs.rd (fun _ => rfl) fun ins => Bs.ite (fun _ => Iff.rfl) (Bs.rd (fun _ => rfl) fun r => Bs.ite (fun _ => Iff.rfl) (Bs.ite (fun _ => Iff.rfl) (Bs.ite (fun _ => Iff.rfl) (Bs.of (NO.trp (by decide))) (Bs.ite (fun _ => Iff.rfl) (Bs.of (NO.trp (by decide))) (b_step _ p ins.1 ins.2))) (Bs.of NO.none)) (Bs.of (NO.trp (by decide)))) (Bs.of NO.none))) (Bs.of NO.none)) (Bs.of NO.none)) (Bs.of NO.none)
end
end Go.Wl
