/- Plain: the parser takes a token for every node. -/
import Derived.Test.Qxb6500573aGreatDoorJB
namespace Go.Wl
open Go Go.Sl Go.Proofs
set_option linter.unusedVariables false
def spare : T → Nat
  | .call _ _ _ => 1
  | _ => 0
section
variable (toks : List Tok)
/-- c tokens at least were taken. -/
def Adv (s s' : PS) (c : Nat) : Prop := s.i + c ≤ s'.i ∧ (s.i < toks.length → s'.i < toks.length)
variable {toks}
theorem Adv.refl (s : PS) : Adv toks s s 0 := ⟨Nat.le_refl _, id⟩
theorem Adv.trans {a b d : PS} {m n : Nat} (h1 : Adv toks a b m) (h2 : Adv toks b d n) : Adv toks a d (m + n) := ⟨by have := h1.1; have := h2.1; omega, fun h => h2.2 (h1.2 h)⟩
theorem Adv.le {a b : PS} {m n : Nat} (h : Adv toks a b m) (hn : n ≤ m) : Adv toks a b n := ⟨by have := h.1; omega, h.2⟩
theorem next_a {s s' : PS} (h : nextP toks s = some s') : Adv toks s s' 1 := by
  unfold nextP at h
  split at h
  · rename_i t ht
    injection h with h
    subst h
    exact ⟨Nat.le_refl _, fun _ => (List.getElem?_eq_some_iff.1 ht).1⟩
  · cases h
theorem accept_a {k : Int} {s s' : PS} {ok : Bool} (h : acceptP toks k s = some (ok, s')) : Adv toks s s' 0 := by
  unfold acceptP at h
  split at h
  · injection h with h; injection h with h1 h2; subst h2; exact Adv.refl _
  · obtain ⟨s1, h1, h⟩ := bnd1 h
    injection h with h; injection h with h2 h3; subst h3
    exact (next_a h1).le (by omega)
theorem accept_t {k : Int} {s s' : PS} (h : acceptP toks k s = some (true, s')) : Adv toks s s' 1 := by
  unfold acceptP at h
  split at h
  · injection h with h; injection h with h1 h2; cases h1
  · obtain ⟨s1, h1, h⟩ := bnd1 h
    injection h with h; injection h with h2 h3; subst h3
    exact next_a h1
theorem expect_t {k : Int} {s s' : PS} (h : expectP toks k s = some (true, s')) : Adv toks s s' 1 := by
  unfold expectP at h
  split at h
  · injection h with h; injection h with h1 h2; cases h1
  · obtain ⟨s1, h1, h⟩ := bnd1 h
    injection h with h; injection h with h2 h3; subst h3
    exact next_a h1
theorem comma_t {e : Bool} {s s' : PS} (h : commaP toks e s = some (true, s')) : Adv toks s s' 0 := by
  unfold commaP at h
  cases e with
  | true => rw [cond_true] at h; injection h with h; injection h with h2 h3; subst h3; exact Adv.refl _
  | false => rw [cond_false] at h; exact (expect_t h).le (by omega)
theorem name_t {x : Int} {s s' : PS} {nm : Int × List UInt8} (h : nameP toks x s = some (some nm, s')) : Adv toks s s' 1 := by
  unfold nameP at h
  split at h
  · injection h with h; injection h with h1 h2; cases h1
  · obtain ⟨_, h⟩ := grd h
    split at h
    · injection h with h; injection h with h1 h2; cases h1
    · obtain ⟨s1, h1, h⟩ := bnd1 h
      injection h with h; injection h with h2 h3; subst h3
      exact next_a h1
theorem fun_t {s s' : PS} (h : functionP toks s = some (true, s')) : Adv toks s s' 1 := by
  unfold functionP at h
  split at h
  · injection h with h; injection h with h1 h2; cases h1
  · obtain ⟨s1, h1, h⟩ := bnd1 h
    injection h with h; injection h with h2 h3; subst h3
    exact next_a h1
structure RcC (toks : List Tok) (rc : Rec) : Prop where
  bl : ∀ (room : Int) (s s' : PS) (l : List T), rc.block room s = some (some l, s') → Adv toks s s' (ctL l)
  ex : ∀ (room least : Int) (s s' : PS) (x : T), rc.expr room least s = some (x, s') → x.isNil = false → Adv toks s s' (x.ct + spare x)
  un : ∀ (room : Int) (s s' : PS) (x : T), rc.unary room s = some (x, s') → x.isNil = false → Adv toks s s' (x.ct + spare x)
  br : ∀ (room : Int) (s s' : PS) (x : T), rc.branch room s = some (x, s') → x.isNil = false → Adv toks s s' x.ct
theorem nn {x : T} (h : ¬ x.isNil = true) : x.isNil = false := by
  cases hx : x.isNil with
  | true => exact absurd hx h
  | false => rfl
theorem bad {α : Type} {s s' : PS} {x : T} {P : Prop} (h : some (T.nil, s) = some (x, s')) (hx : x.isNil = false) : P := by
  injection h with h; injection h with h1 h2; subst h1; cases hx
theorem badL {s s' : PS} {l : List T} {P : Prop} (h : some ((none : Option (List T)), s) = some (some l, s')) : P := by
  injection h with h; injection h with h1 h2; cases h1
theorem ns_nil {x : T} {P : Prop} (hx : x.isNil = true) (h : x.isNil = false) : P := by rw [hx] at h; cases h
section
variable {rc : Rec} (hr : RcC toks rc) {lf : Nat}
include hr
theorem list_a : ∀ (n : Nat) (room closing most : Int) (l : List T) (s s' : PS) (l' : List T), listL toks rc n room closing most l s = some (some l', s') → ∃ c, ctL l' = ctL l + c ∧ Adv toks s s' (c + 1)
  | 0, _, _, _, _, _, _, _, h => by cases h
  | n + 1, room, closing, most, l, s, s', l', h => by
    unfold listL at h
    split at h
    · obtain ⟨ok, s1, h1, h⟩ := bnd2 h
      cases ok with
      | false => exact badL h
      | true =>
        rw [cond_true] at h
        split at h
        · exact badL h
        · obtain ⟨x, s2, h2, h⟩ := bnd2 h
          split at h
          · exact badL h
          · rename_i hx
            split at h
            · obtain ⟨c, e1, e2⟩ := list_a n room closing most _ s2 s' l' h
              rw [ctL_snoc] at e1
              have a := ((comma_t h1).trans (hr.ex _ _ _ _ _ h2 (nn hx))).trans e2
              exact ⟨x.ct + c, by omega, a.le (by omega)⟩
            · cases h
    · obtain ⟨s1, h1, h⟩ := bnd1 h
      injection h with h; injection h with h2 h3; injection h2 with h2; subst h2 h3
      exact ⟨0, rfl, next_a h1⟩
omit hr in
theorem params_a : ∀ (n : Nat) (l : List T) (s s' : PS) (l' : List T), paramsL toks n l s = some (some l', s') → ∃ c, ctL l' = ctL l + c ∧ Adv toks s s' c
  | 0, _, _, _, _, h => by cases h
  | n + 1, l, s, s', l', h => by
    unfold paramsL at h
    split at h
    · obtain ⟨ok, s1, h1, h⟩ := bnd2 h
      cases ok with
      | false => exact badL h
      | true =>
        rw [cond_true] at h
        split at h
        · exact badL h
        · obtain ⟨x, s2, h2, h⟩ := bnd2 h
          cases x with
          | none => exact badL h
          | some x =>
            dsimp only at h
            split at h
            · obtain ⟨c, e1, e2⟩ := params_a n _ s2 s' l' h
              rw [ctL_snoc, show (T.name x.1 x.2).ct = 1 from rfl] at e1
              have a := ((comma_t h1).trans (name_t h2)).trans e2
              exact ⟨1 + c, by omega, a.le (by omega)⟩
            · cases h
    · injection h with h; injection h with h2 h3; injection h2 with h2; subst h2 h3
      exact ⟨0, rfl, Adv.refl _⟩
theorem literal_a {room at_ : Int} {s s' : PS} {x : T} (h : literalP toks rc lf room at_ s = some (x, s')) (hx : x.isNil = false) : Adv toks s s' (x.ct + 2) ∧ spare x = 0 := by
  unfold literalP at h
  obtain ⟨_, h⟩ := grd h
  obtain ⟨ok, s1, h1, h⟩ := bnd2 h
  cases ok with
  | false => exact bad (α := Unit) h hx
  | true =>
    rw [cond_true] at h
    obtain ⟨_, h⟩ := grd h
    obtain ⟨ps, s2, h2, h⟩ := bnd2 h
    cases ps with
    | none => exact bad (α := Unit) h hx
    | some ps =>
      dsimp only at h
      obtain ⟨s3, h3, h⟩ := bnd1 h
      obtain ⟨b, s4, h4, h⟩ := bnd2 h
      cases b with
      | none => exact bad (α := Unit) h hx
      | some b =>
        dsimp only at h
        obtain ⟨ok, s5, h5, h⟩ := bnd2 h
        cases ok with
        | false => exact bad (α := Unit) h hx
        | true =>
          rw [cond_true] at h
          injection h with h; injection h with e1 e2; subst e1 e2
          obtain ⟨c, e1, e2⟩ := params_a _ _ _ _ _ h2
          have a1 : Adv toks s s2 (1 + c) := (expect_t h1).trans e2
          have a0 := hr.bl _ _ _ _ h4
          have a0' : Adv toks s3 s4 (ctL b) := a0
          have a2 : Adv toks s2 s4 (1 + ctL b) := (next_a h3).trans a0'
          have a3 := (a1.trans a2).trans (expect_t h5)
          refine ⟨a3.le ?_, rfl⟩
          have e3 : ctL ([] : List T) = 0 := rfl
          show ctL ps + ctL b + 1 + 2 ≤ _
          omega
theorem prim_a {room : Int} {s s' : PS} {x : T} (h : primP toks rc lf room s = some (x, s')) (hx : x.isNil = false) : Adv toks s s' (x.ct + spare x) := by
  unfold primP at h
  obtain ⟨_, h⟩ := grd h
  split at h
  · obtain ⟨s1, h1, h⟩ := bnd1 h; injection h with h; injection h with e1 e2; subst e1 e2; exact next_a h1
  split at h
  · obtain ⟨s1, h1, h⟩ := bnd1 h; injection h with h; injection h with e1 e2; subst e1 e2; exact next_a h1
  split at h
  · obtain ⟨s1, h1, h⟩ := bnd1 h; injection h with h; injection h with e1 e2; subst e1 e2; exact next_a h1
  split at h
  · obtain ⟨s1, h1, h⟩ := bnd1 h; injection h with h; injection h with e1 e2; subst e1 e2; exact next_a h1
  split at h
  · obtain ⟨s1, h1, h⟩ := bnd1 h; injection h with h; injection h with e1 e2; subst e1 e2; exact next_a h1
  split at h
  · obtain ⟨s1, h1, h⟩ := bnd1 h; injection h with h; injection h with e1 e2; subst e1 e2; exact next_a h1
  split at h
  · obtain ⟨s1, h1, h⟩ := bnd1 h
    obtain ⟨y, s2, h2, h⟩ := bnd2 h
    split at h
    · exact bad (α := Unit) h hx
    · rename_i hy
      obtain ⟨ok, s3, h3, h⟩ := bnd2 h
      cases ok with
      | false => exact bad (α := Unit) h hx
      | true =>
        rw [cond_true] at h
        injection h with h; injection h with e1 e2; subst e1 e2
        exact (((next_a h1).trans (hr.ex _ _ _ _ _ h2 (nn hy))).trans (expect_t h3)).le (by omega)
  split at h
  · obtain ⟨ok, s1, h1, h⟩ := bnd2 h
    cases ok with
    | false => exact bad (α := Unit) h hx
    | true =>
      rw [cond_true] at h
      obtain ⟨a, e⟩ := literal_a hr h hx
      exact ((fun_t h1).trans a).le (by omega)
  split at h
  · obtain ⟨s1, h1, h⟩ := bnd1 h
    obtain ⟨l, s2, h2, h⟩ := bnd2 h
    cases l with
    | none => exact bad (α := Unit) h hx
    | some l =>
      dsimp only at h
      injection h with h; injection h with e1 e2; subst e1 e2
      obtain ⟨c, e1, e2⟩ := list_a hr _ _ _ _ _ _ _ _ h2
      have e3 : ctL ([] : List T) = 0 := rfl
      refine ((next_a h1).trans e2).le ?_
      show ctL l + 1 + 0 ≤ _
      omega
  · exact bad (α := Unit) h hx
theorem postL_a : ∀ (n : Nat) (room : Int) (x : T) (s s' : PS) (y : T), postL toks rc lf n room x s = some (y, s') → y.isNil = false → ∀ s0, Adv toks s0 s (x.ct + spare x) → Adv toks s0 s' (y.ct + spare y)
  | 0, _, _, _, _, _, h, _ => by cases h
  | n + 1, room, x, s, s', y, h, hy => by
    intro s0 h0
    unfold postL at h
    split at h
    · exact bad (α := Unit) h hy
    split at h
    · obtain ⟨s1, h1, h⟩ := bnd1 h
      obtain ⟨nm, s2, h2, h⟩ := bnd2 h
      cases nm with
      | none => exact bad (α := Unit) h hy
      | some nm =>
        dsimp only at h
        refine postL_a n room _ s2 s' y h hy s0 (((h0.trans (next_a h1)).trans (name_t h2)).le ?_)
        show x.ct + 1 + 1 + 0 ≤ _
        omega
    split at h
    · obtain ⟨s1, h1, h⟩ := bnd1 h
      obtain ⟨k, s2, h2, h⟩ := bnd2 h
      split at h
      · exact bad (α := Unit) h hy
      · rename_i hk
        obtain ⟨ok, s3, h3, h⟩ := bnd2 h
        cases ok with
        | false => exact bad (α := Unit) h hy
        | true =>
          rw [cond_true] at h
          refine postL_a n room _ s3 s' y h hy s0 ((((h0.trans (next_a h1)).trans (hr.ex _ _ _ _ _ h2 (nn hk))).trans (expect_t h3)).le ?_)
          show x.ct + k.ct + 1 + 0 ≤ _
          omega
    split at h
    · obtain ⟨s1, h1, h⟩ := bnd1 h
      obtain ⟨l, s2, h2, h⟩ := bnd2 h
      cases l with
      | none => exact bad (α := Unit) h hy
      | some l =>
        dsimp only at h
        obtain ⟨c, e1, e2⟩ := list_a hr _ _ _ _ _ _ _ _ h2
        have e3 : ctL ([] : List T) = 0 := rfl
        refine postL_a n room _ s2 s' y h hy s0 (((h0.trans (next_a h1)).trans e2).le ?_)
        show x.ct + ctL l + 1 + 1 ≤ _
        omega
    · injection h with h; injection h with e1 e2; subst e1 e2
      exact h0
theorem post_a {room : Int} {s s' : PS} {x : T} (h : postP toks rc lf room s = some (x, s')) (hx : x.isNil = false) : Adv toks s s' (x.ct + spare x) := by
  unfold postP at h
  obtain ⟨_, h⟩ := grd h
  split at h
  · exact bad (α := Unit) h hx
  · obtain ⟨y, s1, h1, h⟩ := bnd2 h
    by_cases hy : y.isNil = true
    · cases lf with
      | zero => cases h
      | succ lf =>
        unfold postL at h
        rw [if_pos hy] at h
        exact bad (α := Unit) h hx
    · exact postL_a hr _ _ _ _ _ _ h hx s (prim_a hr h1 (nn hy))
theorem unary_a {room : Int} {s s' : PS} {x : T} (h : unaryP toks rc lf room s = some (x, s')) (hx : x.isNil = false) : Adv toks s s' (x.ct + spare x) := by
  unfold unaryP at h
  obtain ⟨_, h⟩ := grd h
  split at h
  · exact bad (α := Unit) h hx
  · split at h
    · exact post_a hr h hx
    · obtain ⟨s1, h1, h⟩ := bnd1 h
      obtain ⟨y, s2, h2, h⟩ := bnd2 h
      split at h
      · exact bad (α := Unit) h hx
      · rename_i hy
        injection h with h; injection h with e1 e2; subst e1 e2
        refine ((next_a h1).trans (hr.un _ _ _ _ h2 (nn hy))).le ?_
        show y.ct + 1 + 0 ≤ _
        omega
theorem exprL_a : ∀ (n : Nat) (room least : Int) (x : T) (s s' : PS) (y : T), exprL toks rc n room least x s = some (y, s') → y.isNil = false → ∀ s0, Adv toks s0 s (x.ct + spare x) → Adv toks s0 s' (y.ct + spare y)
  | 0, _, _, _, _, _, _, h, _ => by cases h
  | n + 1, room, least, x, s, s', y, h, hy => by
    intro s0 h0
    unfold exprL at h
    split at h
    · exact bad (α := Unit) h hy
    split at h
    · injection h with h; injection h with e1 e2; subst e1 e2; exact h0
    split at h
    · injection h with h; injection h with e1 e2; subst e1 e2; exact h0
    split at h
    · cases h
    · rename_i b hb
      split at h
      · injection h with h; injection h with e1 e2; subst e1 e2; exact h0
      · obtain ⟨s1, h1, h⟩ := bnd1 h
        obtain ⟨z, s2, h2, h⟩ := bnd2 h
        split at h
        · exact bad (α := Unit) h hy
        · rename_i hz
          have a2 : Adv toks s1 s2 (z.ct + spare z) := by
            split at h2
            · exact hr.ex _ _ _ _ _ h2 (nn hz)
            · exact hr.ex _ _ _ _ _ h2 (nn hz)
          refine exprL_a n room least _ s2 s' y h hy s0 (((h0.trans (next_a h1)).trans a2).le ?_)
          show x.ct + z.ct + 1 + 0 ≤ _
          omega
theorem expr_a {room least : Int} {s s' : PS} {x : T} (h : exprP toks rc lf room least s = some (x, s')) (hx : x.isNil = false) : Adv toks s s' (x.ct + spare x) := by
  unfold exprP at h
  obtain ⟨_, h⟩ := grd h
  obtain ⟨y, s1, h1, h⟩ := bnd2 h
  by_cases hy : y.isNil = true
  · cases lf with
    | zero => cases h
    | succ lf =>
      unfold exprL at h
      rw [if_pos hy] at h
      exact bad (α := Unit) h hx
  · exact exprL_a hr _ _ _ _ _ _ _ h hx s (hr.un _ _ _ _ h1 (nn hy))
theorem results_a {room at_ : Int} {s s' : PS} {x : T} (h : resultsP toks rc room at_ s = some (x, s')) (hx : x.isNil = false) : ∃ c, x.ct = c + 1 ∧ Adv toks s s' c := by
  unfold resultsP at h
  obtain ⟨_, h⟩ := grd h
  cases he : endsP s with
  | true =>
    rw [he, cond_true] at h
    injection h with h; injection h with e1 e2; subst e1 e2
    exact ⟨0, rfl, Adv.refl _⟩
  | false =>
    rw [he, cond_false] at h
    obtain ⟨a, s1, h1, h⟩ := bnd2 h
    split at h
    · exact bad (α := Unit) h hx
    · rename_i ha
      obtain ⟨ok, s2, h2, h⟩ := bnd2 h
      have a1 := hr.ex _ _ _ _ _ h1 (nn ha)
      cases ok with
      | true =>
        rw [cond_true] at h
        obtain ⟨b, s3, h3, h⟩ := bnd2 h
        split at h
        · exact bad (α := Unit) h hx
        · rename_i hb
          injection h with h; injection h with e1 e2; subst e1 e2
          exact ⟨a.ct + b.ct, rfl, ((a1.trans (accept_a h2)).trans (hr.ex _ _ _ _ _ h3 (nn hb))).le (by omega)⟩
      | false =>
        rw [cond_false] at h
        injection h with h; injection h with e1 e2; subst e1 e2
        exact ⟨a.ct, rfl, (a1.trans (accept_a h2)).le (by omega)⟩
theorem body_a {room extra : Int} {s s' : PS} {l : List T} (h : bodyP_ toks rc room extra s = some (some l, s')) : Adv toks s s' (ctL l) := by
  unfold bodyP_ at h
  obtain ⟨_, h⟩ := grd h
  obtain ⟨ok, s1, h1, h⟩ := bnd2 h
  cases ok with
  | false => exact badL h
  | true =>
    rw [cond_true] at h
    obtain ⟨_, h⟩ := grd h
    obtain ⟨_, h⟩ := grd h
    obtain ⟨b, s2, h2, h⟩ := bnd2 h
    cases b with
    | none => exact badL h
    | some b =>
      dsimp only at h
      obtain ⟨ok, s3, h3, h⟩ := bnd2 h
      cases ok with
      | false => exact badL h
      | true =>
        rw [cond_true] at h
        obtain ⟨_, h⟩ := grd h
        obtain ⟨_, h⟩ := grd h
        injection h with h; injection h with e1 e2; injection e1 with e1; subst e1 e2
        have a0 := hr.bl _ _ _ _ h2
        have a2 : Adv toks s1 s2 (ctL b) := a0
        have a3 : Adv toks s s3 (1 + ctL b + 1) := ((expect_t h1).trans a2).trans (expect_t h3)
        exact a3.le (by omega)
theorem local_a {room : Int} {s s' : PS} {x : T} (h : localP toks rc lf room s = some (x, s')) (hx : x.isNil = false) : ∃ c, x.ct = c + 1 ∧ Adv toks s s' c := by
  unfold localP at h
  obtain ⟨_, h⟩ := grd h
  split at h
  · obtain ⟨ok, s1, h1, h⟩ := bnd2 h
    cases ok with
    | false => exact bad (α := Unit) h hx
    | true =>
      rw [cond_true] at h
      obtain ⟨nm, s2, h2, h⟩ := bnd2 h
      cases nm with
      | none => exact bad (α := Unit) h hx
      | some nm =>
        dsimp only at h
        obtain ⟨_, h⟩ := grd h
        obtain ⟨f, s3, h3, h⟩ := bnd2 h
        split at h
        · exact bad (α := Unit) h hx
        · rename_i hf
          injection h with h; injection h with e1 e2; subst e1 e2
          have a3 : Adv toks s2 s3 (f.ct + 2) := (literal_a hr h3 (nn hf)).1
          exact ⟨f.ct, rfl, (((fun_t h1).trans (name_t h2)).trans a3).le (by omega)⟩
  · obtain ⟨nm, s1, h1, h⟩ := bnd2 h
    cases nm with
    | none => exact bad (α := Unit) h hx
    | some nm =>
      dsimp only at h
      obtain ⟨ok, s2, h2, h⟩ := bnd2 h
      cases ok with
      | true =>
        rw [cond_true] at h
        obtain ⟨nm2, s3, h3, h⟩ := bnd2 h
        cases nm2 with
        | none => exact bad (α := Unit) h hx
        | some nm2 =>
          dsimp only at h
          obtain ⟨ok, s4, h4, h⟩ := bnd2 h
          cases ok with
          | false => exact bad (α := Unit) h hx
          | true =>
            rw [cond_true] at h
            obtain ⟨v, s5, h5, h⟩ := bnd2 h
            split at h
            · exact bad (α := Unit) h hx
            · rename_i hv
              cases hb : Nat.beq v.ty 302 with
              | false => rw [hb, cond_false] at h; exact bad (α := Unit) h hx
              | true =>
                rw [hb, cond_true] at h
                obtain ⟨_, h⟩ := grd h
                injection h with h; injection h with e1 e2; subst e1 e2
                have a5 : Adv toks s4 s5 (v.ct + spare v) := hr.ex _ _ _ _ _ h5 (nn hv)
                have a : Adv toks s s5 (1 + 1 + 1 + 1 + (v.ct + spare v)) := ((((name_t h1).trans (accept_t h2)).trans (name_t h3)).trans (expect_t h4)).trans a5
                refine ⟨2 + v.ct, ?_, a.le (by omega)⟩
                show (if ([T.name nm.1 nm.2, T.name nm2.1 nm2.2] : List T).length = 1 then 0 else 1 + (1 + 0)) + v.ct + 1 = _
                rw [if_neg (by simp)]
      | false =>
        rw [cond_false] at h
        obtain ⟨ok, s3, h3, h⟩ := bnd2 h
        cases ok with
        | true =>
          rw [cond_true] at h
          obtain ⟨v, s4, h4, h⟩ := bnd2 h
          split at h
          · exact bad (α := Unit) h hx
          · rename_i hv
            obtain ⟨_, h⟩ := grd h
            injection h with h; injection h with e1 e2; subst e1 e2
            have a4 : Adv toks s3 s4 (v.ct + spare v) := hr.ex _ _ _ _ _ h4 (nn hv)
            have a : Adv toks s s4 (1 + 0 + 1 + (v.ct + spare v)) := (((name_t h1).trans (accept_a h2)).trans (accept_t h3)).trans a4
            refine ⟨v.ct, ?_, a.le (by omega)⟩
            show (if ([T.name nm.1 nm.2] : List T).length = 1 then 0 else _) + v.ct + 1 = _
            rw [if_pos (by simp)]
            omega
        | false =>
          rw [cond_false] at h
          obtain ⟨_, h⟩ := grd h
          injection h with h; injection h with e1 e2; subst e1 e2
          have a : Adv toks s s3 (1 + 0 + 0) := ((name_t h1).trans (accept_a h2)).trans (accept_a h3)
          exact ⟨0, rfl, a.le (by omega)⟩
theorem branch_a {room : Int} {s s' : PS} {x : T} (h : branchP toks rc room s = some (x, s')) (hx : x.isNil = false) : Adv toks s s' x.ct := by
  unfold branchP at h
  obtain ⟨_, h⟩ := grd h
  obtain ⟨s1, h1, h⟩ := bnd1 h
  obtain ⟨c, s2, h2, h⟩ := bnd2 h
  split at h
  · exact bad (α := Unit) h hx
  · rename_i hc
    obtain ⟨ok, s3, h3, h⟩ := bnd2 h
    cases ok with
    | false => exact bad (α := Unit) h hx
    | true =>
      rw [cond_true] at h
      obtain ⟨th, s4, h4, h⟩ := bnd2 h
      cases th with
      | none => exact bad (α := Unit) h hx
      | some th =>
        dsimp only at h
        have a4 : Adv toks s s4 (1 + (c.ct + spare c) + 1 + ctL th) := (((next_a h1).trans (hr.ex _ _ _ _ _ h2 (nn hc))).trans (expect_t h3)).trans (hr.bl _ _ _ _ h4)
        split at h
        · obtain ⟨arm, s5, h5, h⟩ := bnd2 h
          split at h
          · exact bad (α := Unit) h hx
          · rename_i ha
            injection h with h; injection h with e1 e2; subst e1 e2
            refine (a4.trans (hr.br _ _ _ _ h5 (nn ha))).le ?_
            show c.ct + ctL th + (arm.ct + 0) + 1 ≤ _
            omega
        · obtain ⟨ok, s5, h5, h⟩ := bnd2 h
          cases ok with
          | true =>
            rw [cond_true] at h
            obtain ⟨el, s6, h6, h⟩ := bnd2 h
            cases el with
            | none => exact bad (α := Unit) h hx
            | some el =>
              dsimp only at h
              obtain ⟨ok, s7, h7, h⟩ := bnd2 h
              cases ok with
              | false => exact bad (α := Unit) h hx
              | true =>
                rw [cond_true] at h
                injection h with h; injection h with e1 e2; subst e1 e2
                refine (((a4.trans (accept_t h5)).trans (hr.bl _ _ _ _ h6)).trans (expect_t h7)).le ?_
                show c.ct + ctL th + ctL el + 1 ≤ _
                omega
          | false =>
            rw [cond_false] at h
            obtain ⟨ok, s7, h7, h⟩ := bnd2 h
            cases ok with
            | false => exact bad (α := Unit) h hx
            | true =>
              rw [cond_true] at h
              injection h with h; injection h with e1 e2; subst e1 e2
              refine ((a4.trans (accept_a h5)).trans (expect_t h7)).le ?_
              show c.ct + ctL th + 0 + 1 ≤ _
              omega
theorem loopFor_a {room : Int} {s s' : PS} {x : T} (h : loopForP toks rc room s = some (x, s')) (hx : x.isNil = false) : ∃ c, x.ct = c + 1 ∧ Adv toks s s' c := by
  unfold loopForP at h
  obtain ⟨_, h⟩ := grd h
  obtain ⟨nm, s1, h1, h⟩ := bnd2 h
  cases nm with
  | none => exact bad (α := Unit) h hx
  | some nm =>
    dsimp only at h
    obtain ⟨ok, s2, h2, h⟩ := bnd2 h
    cases ok with
    | true =>
      rw [cond_true] at h
      obtain ⟨nm2, s3, h3, h⟩ := bnd2 h
      cases nm2 with
      | none => exact bad (α := Unit) h hx
      | some nm2 =>
        dsimp only at h
        obtain ⟨ok, s4, h4, h⟩ := bnd2 h
        cases ok with
        | false => exact bad (α := Unit) h hx
        | true =>
          rw [cond_true] at h
          obtain ⟨v, s5, h5, h⟩ := bnd2 h
          split at h
          · exact bad (α := Unit) h hx
          · rename_i hv
            obtain ⟨b, s6, h6, h⟩ := bnd2 h
            cases b with
            | none => exact bad (α := Unit) h hx
            | some b =>
              dsimp only at h
              injection h with h; injection h with e1 e2; subst e1 e2
              have a := (((((name_t h1).trans (accept_t h2)).trans (name_t h3)).trans (expect_t h4)).trans (hr.ex _ _ _ _ _ h5 (nn hv))).trans (body_a hr h6)
              refine ⟨2 + v.ct + ctL b, ?_, a.le (by omega)⟩
              show 1 + (1 + 0) + v.ct + ctL b + 1 = _
              omega
    | false =>
      rw [cond_false] at h
      obtain ⟨ok, s3, h3, h⟩ := bnd2 h
      cases ok with
      | false => exact bad (α := Unit) h hx
      | true =>
        rw [cond_true] at h
        obtain ⟨f, s4, h4, h⟩ := bnd2 h
        split at h
        · exact bad (α := Unit) h hx
        · rename_i hf
          obtain ⟨ok, s5, h5, h⟩ := bnd2 h
          cases ok with
          | false => exact bad (α := Unit) h hx
          | true =>
            rw [cond_true] at h
            obtain ⟨g, s6, h6, h⟩ := bnd2 h
            split at h
            · exact bad (α := Unit) h hx
            · rename_i hg
              have a6 := (((((name_t h1).trans (accept_a h2)).trans (expect_t h3)).trans (hr.ex _ _ _ _ _ h4 (nn hf))).trans (expect_t h5)).trans (hr.ex _ _ _ _ _ h6 (nn hg))
              obtain ⟨ok, s7, h7, h⟩ := bnd2 h
              cases ok with
              | true =>
                rw [cond_true] at h
                obtain ⟨v, s8, h8, h⟩ := bnd2 h
                split at h
                · exact bad (α := Unit) h hx
                · rename_i hv
                  obtain ⟨b, s9, h9, h⟩ := bnd2 h
                  cases b with
                  | none => exact bad (α := Unit) h hx
                  | some b =>
                    dsimp only at h
                    injection h with h; injection h with e1 e2; subst e1 e2
                    have a := ((a6.trans (accept_t h7)).trans (hr.ex _ _ _ _ _ h8 (nn hv))).trans (body_a hr h9)
                    refine ⟨f.ct + g.ct + v.ct + ctL b, ?_, a.le (by omega)⟩
                    show f.ct + (g.ct + (v.ct + 0)) + ctL b + 1 = _
                    omega
              | false =>
                rw [cond_false] at h
                obtain ⟨b, s9, h9, h⟩ := bnd2 h
                cases b with
                | none => exact bad (α := Unit) h hx
                | some b =>
                  dsimp only at h
                  injection h with h; injection h with e1 e2; subst e1 e2
                  have a := (a6.trans (accept_a h7)).trans (body_a hr h9)
                  refine ⟨f.ct + g.ct + ctL b, ?_, a.le (by omega)⟩
                  show f.ct + (g.ct + 0) + ctL b + 1 = _
                  omega
theorem stmt_a {room : Int} {s s' : PS} {x : T} (h : stmtP toks rc lf room s = some (x, s')) (hx : x.isNil = false) : Adv toks s s' x.ct := by
  unfold stmtP at h
  obtain ⟨_, h⟩ := grd h
  split at h
  · obtain ⟨s1, h1, h⟩ := bnd1 h
    obtain ⟨c, e1, e2⟩ := local_a hr h hx
    exact ((next_a h1).trans e2).le (by omega)
  split at h
  · exact hr.br _ _ _ _ h hx
  split at h
  · obtain ⟨s1, h1, h⟩ := bnd1 h
    obtain ⟨c, e1, e2⟩ := loopFor_a hr h hx
    exact ((next_a h1).trans e2).le (by omega)
  split at h
  · obtain ⟨s1, h1, h⟩ := bnd1 h
    obtain ⟨c, s2, h2, h⟩ := bnd2 h
    split at h
    · exact bad (α := Unit) h hx
    · rename_i hc
      obtain ⟨b, s3, h3, h⟩ := bnd2 h
      cases b with
      | none => exact bad (α := Unit) h hx
      | some b =>
        dsimp only at h
        injection h with h; injection h with e1 e2; subst e1 e2
        refine (((next_a h1).trans (hr.ex _ _ _ _ _ h2 (nn hc))).trans (body_a hr h3)).le ?_
        show c.ct + ctL b + 1 ≤ _
        omega
  split at h
  · split at h
    · exact bad (α := Unit) h hx
    · obtain ⟨s1, h1, h⟩ := bnd1 h
      injection h with h; injection h with e1 e2; subst e1 e2
      exact next_a h1
  split at h
  · obtain ⟨s1, h1, h⟩ := bnd1 h
    obtain ⟨c, e1, e2⟩ := results_a hr h hx
    exact ((next_a h1).trans e2).le (by omega)
  · obtain ⟨y, s1, h1, h⟩ := bnd2 h
    split at h
    · exact bad (α := Unit) h hx
    · rename_i hy
      have a1 := post_a hr h1 (nn hy)
      split at h
      · cases hb : Nat.beq y.ty 302 with
        | false => rw [hb, cond_false] at h; exact bad (α := Unit) h hx
        | true =>
          rw [hb, cond_true] at h
          injection h with h; injection h with e1 e2; subst e1 e2
          cases y with
          | call a f l => exact a1
          | _ => cases hb
      · cases hb : (Nat.beq y.ty 307 || Nat.beq y.ty 308) with
        | false => rw [hb, cond_false] at h; exact bad (α := Unit) h hx
        | true =>
          rw [hb, cond_true] at h
          obtain ⟨s2, h2, h⟩ := bnd1 h
          obtain ⟨v, s3, h3, h⟩ := bnd2 h
          split at h
          · exact bad (α := Unit) h hx
          · rename_i hv
            injection h with h; injection h with e1 e2; subst e1 e2
            refine ((a1.trans (next_a h2)).trans (hr.ex _ _ _ _ _ h3 (nn hv))).le ?_
            show y.ct + v.ct + 1 ≤ _
            omega
theorem blockL_a : ∀ (n : Nat) (room alive : Int) (l : List T) (cl : Bool) (s s' : PS) (l' : List T), blockL toks rc lf n room alive l cl s = some (some l', s') → ∃ c, ctL l' = ctL l + c ∧ Adv toks s s' c
  | 0, _, _, _, _, _, _, _, h => by cases h
  | n + 1, room, alive, l, cl, s, s', l', h => by
    unfold blockL at h
    cases he : endsP s with
    | true =>
      rw [he, cond_true] at h
      injection h with h; injection h with e1 e2; injection e1 with e1; subst e1 e2
      exact ⟨0, rfl, Nat.le_refl _, id⟩
    | false =>
      rw [he, cond_false] at h
      cases cl with
      | true => exact badL h
      | false =>
        rw [cond_false] at h
        obtain ⟨x, s1, h1, h⟩ := bnd2 h
        split at h
        · exact badL h
        · rename_i hx
          split at h
          · obtain ⟨c, e1, e2⟩ := blockL_a n room alive _ _ s1 s' l' h
            rw [ctL_snoc] at e1
            exact ⟨x.ct + c, by omega, (stmt_a hr h1 (nn hx)).trans e2⟩
          · cases h
theorem block_a {room : Int} {s s' : PS} {l : List T} (h : blockP toks rc lf room s = some (some l, s')) : Adv toks s s' (ctL l) := by
  unfold blockP at h
  obtain ⟨_, h⟩ := grd h
  split at h
  · exact badL h
  · obtain ⟨c, e1, e2⟩ := blockL_a hr _ _ _ _ _ _ _ _ h
    have e3 : ctL ([] : List T) = 0 := rfl
    exact e2.le (by omega)
end
theorem recP_c : ∀ n, RcC toks (recP toks n)
  | 0 => ⟨(fun _ _ _ _ h => by cases h), (fun _ _ _ _ _ h => by cases h), (fun _ _ _ _ h => by cases h), (fun _ _ _ _ h => by cases h)⟩
  | n + 1 => ⟨fun _ _ _ _ h => block_a (recP_c n) h, fun _ _ _ _ _ h hx => expr_a (recP_c n) h hx, fun _ _ _ _ h hx => unary_a (recP_c n) h hx, fun _ _ _ _ h hx => branch_a (recP_c n) h hx⟩
end
/-- What a parse leaves. -/
theorem parse_syc {fuel : Nat} {src : List UInt8} {toks0 toks : List Tok} {nodes0 nodes : List Nd} {p : PR} (h : parseS fuel src toks0 nodes0 = some (p, toks, nodes)) (h0 : SyC toks0 nodes0) : SyC toks nodes := by
  unfold parseS at h
  split at h
  · injection h with h; injection h with h1 h2; injection h2 with h2 h3; subst h2 h3; exact h0
  · rename_i hs
    obtain ⟨tk, g1, h⟩ := bnd1 h
    obtain ⟨t1, t2⟩ := scan_all (by omega) g1
    obtain ⟨tt, g2, h⟩ := bnd1 h
    obtain ⟨r, ps, g3, h⟩ := bnd2 h
    have hlen : ctL (r.getD []) + 1 ≤ tk.length := by
      have hl := (List.getElem?_eq_some_iff.1 g2).1
      cases r with
      | none => exact hl
      | some l =>
        obtain ⟨a1, a2⟩ := (recP_c fuel).bl _ _ _ _ g3
        have := a2 hl
        dsimp only at a1
        show ctL l + 1 ≤ _
        omega
    unfold finS at h
    split at h
    · injection h with h; injection h with h1 h2; injection h2 with h2 h3; subst h2 h3
      exact ⟨t2, h0.nl, t1, h0.nd⟩
    · obtain ⟨root, ns, g4, h⟩ := bnd2 h
      have r1 := (recF_nd fuel).ch _ _ _ _ g4 nd0_I
      have e1 := r1.ln
      rw [List.length_singleton] at e1
      have key : SyC tk ns := ⟨t2, by omega, t1, r1.nd.2⟩
      split at h
      · split at h
        · injection h with h; injection h with h1 h2; injection h2 with h2 h3; subst h2 h3; exact key
        · injection h with h; injection h with h1 h2; injection h2 with h2 h3; subst h2 h3; exact key
      · cases h
end Go.Wl
