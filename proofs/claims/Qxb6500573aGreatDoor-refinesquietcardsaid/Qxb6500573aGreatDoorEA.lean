/- Plain: what does not look at the fuel. -/
import Derived.Test.Qxb6500573aGreatDoorCB
namespace Go.Wl
open Go Go.Sl Go.Proofs
set_option linter.unusedVariables false
/-- One fuel more. -/
def bump (m : VM) : VM := { m with vs := { m.vs with fuel := m.vs.fuel + 1 } }
def bumpO {α : Type} : Out α → Out α
  | .ok a m => .ok a (bump m)
  | .thr v m => .thr v (bump m)
  | .trp e m => .trp e (bump m)
def mOf {α : Type} : Out α → VM
  | .ok _ m => m
  | .thr _ m => m
  | .trp _ m => m
/-- The fuel stays; what is printed stays; the other threads' states stay; new threads are fresh. -/
structure Mo (fl : Bool) (th : Nat) (m m' : VM) : Prop where
  fuel : m'.vs.fuel = m.vs.fuel
  out : (m.vs.out <+: m'.vs.out) ∧ (fl = false → m'.vs.out = m.vs.out)
  st : ∀ (u : Nat) (t : Th), u ≠ th → m.vs.threads[u]? = some t → ∃ t', m'.vs.threads[u]? = some t' ∧ t'.st = t.st
  nw : ∀ (u : Nat) (t' : Th), m.vs.threads.length ≤ u → m'.vs.threads[u]? = some t' → t'.st = 1
  nth : m.vs.threads.length ≤ m'.vs.threads.length
theorem Mo.refl (fl : Bool) (th : Nat) (m : VM) : Mo fl th m m := ⟨rfl, ⟨List.prefix_refl _, fun _ => rfl⟩, fun u t _ h => ⟨t, h, rfl⟩, fun u t' h h2 => absurd (List.getElem?_eq_some_iff.1 h2).1 (by omega), Nat.le_refl _⟩
theorem Mo.trans {fl : Bool} {th : Nat} {a b c : VM} (h1 : Mo fl th a b) (h2 : Mo fl th b c) (hth : th < a.vs.threads.length) : Mo fl th a c := by
  refine ⟨h2.fuel.trans h1.fuel, ⟨h1.out.1.trans h2.out.1, fun q => (h2.out.2 q).trans (h1.out.2 q)⟩, fun u t hu ht => ?_, fun u t' hu ht => ?_, Nat.le_trans h1.nth h2.nth⟩
  · obtain ⟨t1, q1, q2⟩ := h1.st u t hu ht
    obtain ⟨t2, q3, q4⟩ := h2.st u t1 hu q1
    exact ⟨t2, q3, q4.trans q2⟩
  · by_cases hb : u < b.vs.threads.length
    · have q1 := h1.nw u _ hu (List.getElem?_eq_getElem hb)
      obtain ⟨t2, q3, q4⟩ := h2.st u _ (by omega) (List.getElem?_eq_getElem hb)
      rw [ht] at q3
      injection q3 with q3
      rw [q3, q4, q1]
    · exact h2.nw u t' (by omega) ht
theorem Mo.set (fl : Bool) (th : Nat) (m : VM) (t : Th) : Mo fl th m (setTh m th t) := by
  refine ⟨rfl, ⟨List.prefix_refl _, fun _ => rfl⟩, fun u t' hu h => ⟨t', by rw [setTh_ne hu]; exact h, rfl⟩, fun u t' h h2 => ?_, by rw [setTh_len]; exact Nat.le_refl _⟩
  have := (List.getElem?_eq_some_iff.1 h2).1
  rw [setTh_len] at this
  omega
/-- Looks, and changes nothing. -/
def N0 {α : Type} (G : VM → Option α) : Prop := ∀ m, G (bump m) = G m
/-- The same with one fuel more. -/
def N1 (fl : Bool) (th : Nat) (G : VM → Option VM) : Prop := ∀ m, th < m.vs.threads.length → G (bump m) = (G m).map bump ∧ ∀ m', G m = some m' → Mo fl th m m'
def N2 {α : Type} (fl : Bool) (th : Nat) (G : VM → Option (α × VM)) : Prop := ∀ m, th < m.vs.threads.length → G (bump m) = (G m).map (fun p => (p.1, bump p.2)) ∧ ∀ a m', G m = some (a, m') → Mo fl th m m'
def NO {α : Type} (fl : Bool) (th : Nat) (G : VM → Option (Out α)) : Prop := ∀ m, th < m.vs.threads.length → G (bump m) = (G m).map bumpO ∧ ∀ o, G m = some o → Mo fl th m (mOf o) ∧ ∀ e m', o = .trp e m' → e ≠ 9
section
variable {α β : Type} {fl : Bool} {th : Nat}
theorem bump_nth (m : VM) : (bump m).vs.threads.length = m.vs.threads.length := rfl
theorem N0.bind1 {G : VM → Option α} {F : α → VM → Option β} (hG : N0 G) (hF : ∀ a, N0 (F a)) : N0 (fun m => bind1 (G m) fun a => F a m) := fun m => by
  dsimp only
  rw [hG m]
  cases G m with
  | none => rfl
  | some a => exact hF a m
theorem N0.ite {c : VM → Prop} [∀ m, Decidable (c m)] {F G : VM → Option α} (hc : ∀ m, c (bump m) ↔ c m) (h1 : N0 F) (h2 : N0 G) : N0 (fun m => if c m then F m else G m) := fun m => by
  dsimp only
  by_cases h : c m
  · rw [if_pos h, if_pos ((hc m).2 h), h1 m]
  · rw [if_neg h, if_neg (fun q => h ((hc m).1 q)), h2 m]
theorem N0.const (x : Option α) : N0 (fun _ => x) := fun _ => rfl
theorem N1.none : N1 fl th (fun _ => none) := fun m _ => ⟨rfl, fun _ h => by cases h⟩
theorem N1.some_ : N1 fl th (fun m => some m) := fun m _ => ⟨rfl, fun _ h => by injection h with h; subst h; exact Mo.refl _ _ _⟩
theorem N1.set (t : VM → Th) (ht : ∀ m, t (bump m) = t m) : N1 fl th (fun m => some (setTh m th (t m))) := fun m _ => ⟨by dsimp only; rw [ht]; rfl, fun m' h => by injection h with h; subst h; exact Mo.set _ _ _ _⟩
theorem N1.rd {G : VM → Option α} {F : α → VM → Option VM} (hG : N0 G) (hF : ∀ a, N1 fl th (F a)) : N1 fl th (fun m => bind1 (G m) fun a => F a m) := fun m hm => by
  dsimp only
  rw [hG m]
  cases G m with
  | none => exact ⟨rfl, fun _ h => by cases h⟩
  | some a => exact hF a m hm
theorem N1.bind1 {G F : VM → Option VM} (hG : N1 fl th G) (hF : N1 fl th F) : N1 fl th (fun m => bind1 (G m) fun m => F m) := fun m hm => by
  obtain ⟨g1, g2⟩ := hG m hm
  dsimp only
  rw [g1]
  cases hq : G m with
  | none => exact ⟨rfl, fun _ h => by cases h⟩
  | some m1 =>
    have hM := g2 m1 hq
    obtain ⟨f1, f2⟩ := hF m1 (by have := hM.nth; omega)
    exact ⟨f1, fun m' h => hM.trans (f2 m' h) hm⟩
theorem N1.bind2 {G : VM → Option (α × VM)} {F : α → VM → Option VM} (hG : N2 fl th G) (hF : ∀ a, N1 fl th (F a)) : N1 fl th (fun m => bind2 (G m) fun a m => F a m) := fun m hm => by
  obtain ⟨g1, g2⟩ := hG m hm
  dsimp only
  rw [g1]
  cases hq : G m with
  | none => exact ⟨rfl, fun _ h => by cases h⟩
  | some p =>
    have hM := g2 p.1 p.2 hq
    obtain ⟨f1, f2⟩ := hF p.1 p.2 (by have := hM.nth; omega)
    exact ⟨f1, fun m' h => hM.trans (f2 m' h) hm⟩
theorem N1.ite {c : VM → Prop} [∀ m, Decidable (c m)] {F G : VM → Option VM} (hc : ∀ m, c (bump m) ↔ c m) (h1 : N1 fl th F) (h2 : N1 fl th G) : N1 fl th (fun m => if c m then F m else G m) := fun m hm => by
  dsimp only
  by_cases h : c m
  · rw [if_pos h, if_pos ((hc m).2 h)]; exact h1 m hm
  · rw [if_neg h, if_neg (fun q => h ((hc m).1 q))]; exact h2 m hm
theorem N2.none : N2 fl th (fun _ => (none : Option (α × VM))) := fun m _ => ⟨rfl, fun _ _ h => by cases h⟩
theorem N2.ret (a : VM → α) (ha : ∀ m, a (bump m) = a m) : N2 fl th (fun m => some (a m, m)) := fun m _ => ⟨by dsimp only; rw [ha]; rfl, fun _ _ h => by injection h with h; injection h with h1 h2; subst h2; exact Mo.refl _ _ _⟩
theorem N2.of {G : VM → Option VM} (hG : N1 fl th G) (a : α) : N2 fl th (fun m => bind1 (G m) fun m => some (a, m)) := fun m hm => by
  obtain ⟨g1, g2⟩ := hG m hm
  dsimp only
  rw [g1]
  cases hq : G m with
  | none => exact ⟨rfl, fun _ _ h => by cases h⟩
  | some m1 => exact ⟨rfl, fun _ _ h => by
      have h : some (a, m1) = some _ := h
      injection h with h; injection h with h1 h2; subst h2; exact g2 m1 hq⟩
theorem N2.rd {γ : Type} {G : VM → Option γ} {F : γ → VM → Option (α × VM)} (hG : N0 G) (hF : ∀ a, N2 fl th (F a)) : N2 fl th (fun m => Go.Wl.bind1 (G m) fun a => F a m) := fun m hm => by
  dsimp only
  rw [hG m]
  cases G m with
  | none => exact ⟨rfl, fun _ _ h => by cases h⟩
  | some a => exact hF a m hm
theorem N2.bind1 {G : VM → Option VM} {F : VM → Option (α × VM)} (hG : N1 fl th G) (hF : N2 fl th F) : N2 fl th (fun m => Go.Wl.bind1 (G m) fun m => F m) := fun m hm => by
  obtain ⟨g1, g2⟩ := hG m hm
  dsimp only
  rw [g1]
  cases hq : G m with
  | none => exact ⟨rfl, fun _ _ h => by cases h⟩
  | some m1 =>
    have hM := g2 m1 hq
    obtain ⟨f1, f2⟩ := hF m1 (by have := hM.nth; omega)
    exact ⟨f1, fun a m' h => hM.trans (f2 a m' h) hm⟩
theorem N2.bind2 {γ : Type} {G : VM → Option (γ × VM)} {F : γ → VM → Option (α × VM)} (hG : N2 fl th G) (hF : ∀ a, N2 fl th (F a)) : N2 fl th (fun m => Go.Wl.bind2 (G m) fun a m => F a m) := fun m hm => by
  obtain ⟨g1, g2⟩ := hG m hm
  dsimp only
  rw [g1]
  cases hq : G m with
  | none => exact ⟨rfl, fun _ _ h => by cases h⟩
  | some p =>
    have hM := g2 p.1 p.2 hq
    obtain ⟨f1, f2⟩ := hF p.1 p.2 (by have := hM.nth; omega)
    exact ⟨f1, fun a m' h => hM.trans (f2 a m' h) hm⟩
theorem N2.ite {c : VM → Prop} [∀ m, Decidable (c m)] {F G : VM → Option (α × VM)} (hc : ∀ m, c (bump m) ↔ c m) (h1 : N2 fl th F) (h2 : N2 fl th G) : N2 fl th (fun m => if c m then F m else G m) := fun m hm => by
  dsimp only
  by_cases h : c m
  · rw [if_pos h, if_pos ((hc m).2 h)]; exact h1 m hm
  · rw [if_neg h, if_neg (fun q => h ((hc m).1 q))]; exact h2 m hm
theorem NO.none : NO fl th (fun _ => (none : Option (Out α))) := fun m _ => ⟨rfl, fun _ h => by cases h⟩
theorem NO.ok (a : VM → α) (ha : ∀ m, a (bump m) = a m) : NO fl th (fun m => some (.ok (a m) m)) := fun m _ => ⟨by dsimp only; rw [ha]; rfl, fun o h => by injection h with h; subst h; exact ⟨Mo.refl _ _ _, fun _ _ q => by cases q⟩⟩
theorem NO.thr (v : VM → V) (hv : ∀ m, v (bump m) = v m) : NO fl th (fun m => (some (.thr (v m) m) : Option (Out α))) := fun m _ => ⟨by dsimp only; rw [hv]; rfl, fun o h => by injection h with h; subst h; exact ⟨Mo.refl _ _ _, fun _ _ q => by cases q⟩⟩
theorem NO.trp {e : Int} (he : e ≠ 9) : NO fl th (fun m => (some (.trp e m) : Option (Out α))) := fun m _ => ⟨rfl, fun o h => by injection h with h; subst h; exact ⟨Mo.refl _ _ _, fun _ _ q => by injection q with q1 q2; subst q1; exact he⟩⟩
theorem NO.rd {G : VM → Option β} {F : β → VM → Option (Out α)} (hG : N0 G) (hF : ∀ a, NO fl th (F a)) : NO fl th (fun m => Go.Wl.bind1 (G m) fun a => F a m) := fun m hm => by
  dsimp only
  rw [hG m]
  cases G m with
  | none => exact ⟨rfl, fun _ h => by cases h⟩
  | some a => exact hF a m hm
theorem NO.rd2 {γ : Type} {G : VM → Option (β × γ)} {F : β → γ → VM → Option (Out α)} (hG : N0 G) (hF : ∀ a b, NO fl th (F a b)) : NO fl th (fun m => Go.Wl.bind2 (G m) fun a b => F a b m) := fun m hm => by
  dsimp only
  rw [hG m]
  cases G m with
  | none => exact ⟨rfl, fun _ h => by cases h⟩
  | some p => exact hF p.1 p.2 m hm
theorem NO.bind1 {G : VM → Option VM} {F : VM → Option (Out α)} (hG : N1 fl th G) (hF : NO fl th F) : NO fl th (fun m => Go.Wl.bind1 (G m) fun m => F m) := fun m hm => by
  obtain ⟨g1, g2⟩ := hG m hm
  dsimp only
  rw [g1]
  cases hq : G m with
  | none => exact ⟨rfl, fun _ h => by cases h⟩
  | some m1 =>
    have hM := g2 m1 hq
    obtain ⟨f1, f2⟩ := hF m1 (by have := hM.nth; omega)
    exact ⟨f1, fun o h => ⟨hM.trans (f2 o h).1 hm, (f2 o h).2⟩⟩
theorem NO.bind2 {G : VM → Option (β × VM)} {F : β → VM → Option (Out α)} (hG : N2 fl th G) (hF : ∀ a, NO fl th (F a)) : NO fl th (fun m => Go.Wl.bind2 (G m) fun a m => F a m) := fun m hm => by
  obtain ⟨g1, g2⟩ := hG m hm
  dsimp only
  rw [g1]
  cases hq : G m with
  | none => exact ⟨rfl, fun _ h => by cases h⟩
  | some p =>
    have hM := g2 p.1 p.2 hq
    obtain ⟨f1, f2⟩ := hF p.1 p.2 (by have := hM.nth; omega)
    exact ⟨f1, fun o h => ⟨hM.trans (f2 o h).1 hm, (f2 o h).2⟩⟩
theorem NO.bind {G : VM → Option (Out β)} {F : β → VM → Option (Out α)} (hG : NO fl th G) (hF : ∀ a, NO fl th (F a)) : NO fl th (fun m => bindO (G m) fun a m => F a m) := fun m hm => by
  obtain ⟨g1, g2⟩ := hG m hm
  dsimp only
  rw [g1]
  cases hq : G m with
  | none => exact ⟨rfl, fun _ h => by cases h⟩
  | some o =>
    have hM := g2 o hq
    cases o with
    | ok a m1 =>
      have hn := hM.1.nth
      obtain ⟨f1, f2⟩ := hF a m1 (by have hn' : _ ≤ m1.vs.threads.length := hn; omega)
      exact ⟨f1, fun o h => ⟨hM.1.trans (f2 o h).1 hm, (f2 o h).2⟩⟩
    | thr v m1 => exact ⟨rfl, fun o h => by
        have h : some (Out.thr v m1) = some o := h
        injection h with h; subst h; exact ⟨hM.1, fun _ _ q => by cases q⟩⟩
    | trp e m1 => exact ⟨rfl, fun o h => by
        have h : some (Out.trp e m1) = some o := h
        injection h with h; subst h; exact ⟨hM.1, fun e' m' q => by injection q with q1 q2; subst q1; exact hM.2 e m1 rfl⟩⟩
theorem NO.ite {c : VM → Prop} [∀ m, Decidable (c m)] {F G : VM → Option (Out α)} (hc : ∀ m, c (bump m) ↔ c m) (h1 : NO fl th F) (h2 : NO fl th G) : NO fl th (fun m => if c m then F m else G m) := fun m hm => by
  dsimp only
  by_cases h : c m
  · rw [if_pos h, if_pos ((hc m).2 h)]; exact h1 m hm
  · rw [if_neg h, if_neg (fun q => h ((hc m).1 q))]; exact h2 m hm
theorem NO.okU {G : VM → Option VM} (hG : N1 fl th G) (a : α) : NO fl th (fun m => Go.Wl.okU a (G m)) := NO.bind1 hG (NO.ok (fun _ => a) fun _ => rfl)
theorem NO.outE {G : VM → Option VM} (hG : N1 fl th G) : NO fl th (fun m => Go.Wl.outE (G m)) := NO.bind1 hG (NO.ok (fun _ => ev0) fun _ => rfl)
end
end Go.Wl
