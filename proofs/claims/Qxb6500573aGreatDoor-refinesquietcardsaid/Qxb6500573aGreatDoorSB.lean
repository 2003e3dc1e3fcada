/- Plain: the shape of compiled code: what the laws of the compiler are to say beside its type. -/
import Derived.Test.Qxb6500573aGreatDoorSA
namespace Go.Wl
open Go Go.Sl Go.Proofs
set_option linter.unusedVariables false
/-- P is final: it holds at least what L' holds; the functions from lo on are done. -/
structure FinE (P L' : List Fs) (lo : Nat) : Prop where
  ext : ∀ (y : Nat) (g : Fs), L'[y]? = some g → ∃ h : Fs, P[y]? = some h ∧ g.consts <+: h.consts ∧ g.ups <+: h.ups
  dn : ∀ y : Nat, lo ≤ y → y < L'.length → P[y]? = L'[y]?
  sl : ∀ (y : Nat) (g h : Fs), L'[y]? = some g → P[y]? = some h → g.nslots ≤ h.nslots
/-- The functions around, as they stand. -/
def ScoL (L : List Fs) : List Nat → Sco → Prop
  | [], E => E = []
  | y :: ch, E => ∃ g E', L[y]? = some g ∧ E = (y, g.locals) :: E' ∧ ScoL L ch E'
theorem ScoL.mono {L L' : List Fs} : ∀ {ch : List Nat} {E : Sco}, (∀ y g, y ∈ ch → L[y]? = some g → ∃ g', L'[y]? = some g' ∧ g'.locals = g.locals) → ScoL L ch E → ScoL L' ch E
  | [], E, _, h => h
  | y :: ch, E, hm, h => by
    obtain ⟨g, E', h1, h2, h3⟩ := h
    obtain ⟨g', h4, h5⟩ := hm y g List.mem_cons_self h1
    exact ⟨g', E', h4, by rw [h5]; exact h2, ScoL.mono (fun y g hy => hm y g (List.mem_cons_of_mem _ hy)) h3⟩
section
variable {k : Nat} {ch : List Nat} {L L1 : List Fs} {f f1 : Fs}
theorem Stp.sco (h : Stp k ch L f L1 f1) {E : Sco} (hE : ScoL L ch E) : ScoL L1 ch E := ScoL.mono (fun y g hy hg => by
  obtain ⟨u, hu⟩ := h.up y g hy hg
  exact ⟨_, hu, rfl⟩) hE
/-- What is final behind a step was final ahead of it. -/
theorem FinE.back {P : List Fs} {lo : Nat} (hF : FinE P L1 lo) (h : Stp k ch L f L1 f1) (hk : L[k]? = some f) (hk1 : L1[k]? = some f1) (hlo : k < lo) : FinE P L lo := by
  refine ⟨fun y g hg => ?_, fun y h1 h2 => ?_, fun y g h' hg hh => ?_⟩
  · by_cases c : y = k
    · subst c
      rw [hk] at hg
      injection hg with hg
      subst hg
      obtain ⟨h', q1, q2, q3⟩ := hF.ext y f1 hk1
      exact ⟨h', q1, h.fx.ks.trans q2, h.fx.up.trans q3⟩
    · by_cases c2 : y ∈ ch
      · obtain ⟨u, hu⟩ := h.up y g c2 hg
        obtain ⟨h', q1, q2, q3⟩ := hF.ext y _ hu
        exact ⟨h', q1, q2, (List.prefix_append _ _).trans q3⟩
      · have := h.ag y c c2 (lt_of hg)
        rw [hg] at this
        exact hF.ext y g this
  · rw [hF.dn y h1 (by have := h.ln; omega), h.ag y (by omega) (fun q => by have := h.kl.2 y q; omega) h2]
  · by_cases c : y = k
    · subst c
      rw [hk] at hg
      injection hg with hg
      subst hg
      exact Int.le_trans h.fx.sl (hF.sl y f1 h' hk1 hh)
    · by_cases c2 : y ∈ ch
      · obtain ⟨u, hu⟩ := h.up y g c2 hg
        have := hF.sl y _ h' hu hh
        exact this
      · have := h.ag y c c2 (lt_of hg)
        rw [hg] at this
        exact hF.sl y g h' this hh
theorem FinE.lo {P : List Fs} {a b : Nat} (hF : FinE P L a) (h : a ≤ b) : FinE P L b := ⟨hF.ext, fun y h1 h2 => hF.dn y (by omega) h2, hF.sl⟩
end
/-- The code c lies in the final function k from o on. -/
def LiesAt (P : List Fs) (k o : Nat) (c : List In) : Prop := ∀ j i, c[j]? = some i → insP P k (o + j) = some i
theorem LiesAt.left {P : List Fs} {k o : Nat} {a b : List In} (h : LiesAt P k o (a ++ b)) : LiesAt P k o a := fun j i hj => h j i (by rw [List.getElem?_append_left (lt_of hj)]; exact hj)
theorem LiesAt.right {P : List Fs} {k o : Nat} {a b : List In} (h : LiesAt P k o (a ++ b)) : LiesAt P k (o + a.length) b := fun j i hj => by
  have := h (a.length + j) i (by rw [List.getElem?_append_right (by omega), show a.length + j - a.length = j by omega]; exact hj)
  rw [← Nat.add_assoc] at this
  exact this
theorem LiesAt.ins {P : List Fs} {k o : Nat} {c : List In} (h : LiesAt P k o c) {j pc : Nat} {i : In} (hj : c[j]? = some i) (e : pc = o + j) : insP P k pc = some i := by rw [e]; exact h j i hj
theorem LiesAt.atE {P : List Fs} {k o o' : Nat} {c : List In} (h : LiesAt P k o c) (e : o' = o) : LiesAt P k o' c := by rw [e]; exact h
theorem LiesAt.one {P : List Fs} {k o : Nat} {i : In} (h : LiesAt P k o [i]) : insP P k o = some i := h 0 i rfl
/-- From some fuel on. -/
def Evs (Q : Nat → Prop) : Prop := ∃ m0, ∀ m, m0 ≤ m → Q m
theorem Evs.and {A B : Nat → Prop} (h1 : Evs A) (h2 : Evs B) : Evs fun m => A m ∧ B m := by
  obtain ⟨a, h1⟩ := h1
  obtain ⟨b, h2⟩ := h2
  exact ⟨max a b, fun m hm => ⟨h1 m (by omega), h2 m (by omega)⟩⟩
theorem Evs.of {A B : Nat → Prop} (h : Evs A) (hab : ∀ m, A m → B m) : Evs B := by
  obtain ⟨a, h⟩ := h
  exact ⟨a, fun m hm => hab m (h m hm)⟩
theorem Evs.up {A B : Nat → Prop} (h : Evs A) (hab : ∀ m, A m → B (m + 1)) : Evs B := by
  obtain ⟨a, h⟩ := h
  refine ⟨a + 1, fun m hm => ?_⟩
  obtain ⟨j, rfl⟩ : ∃ j, m = j + 1 := ⟨m - 1, by omega⟩
  exact hab j (h j (by omega))
theorem Evs.all {A : Nat → Prop} (h : ∀ m, A m) : Evs A := ⟨0, fun m _ => h m⟩
/-- The expression's shape: one more clause of ExL. -/
def ShE (ns : List Nd) (k : Nat) (ch : List Nat) (L : List Fs) (f : Fs) (L' : List Fs) (c : List In) (r : Int) : Prop :=
  ∀ P E, FinE P L' L.length → ScoL L ch E → LiesAt P k f.code.length c → Evs fun m => (recS ns P m).expr k E f.locals f.code.length r (f.code.length + c.length)
def ShC (ns : List Nd) (k : Nat) (ch : List Nat) (L : List Fs) (f : Fs) (L' : List Fs) (c : List In) (r : Int) : Prop :=
  ∀ P E, FinE P L' L.length → ScoL L ch E → LiesAt P k f.code.length c → Evs fun m => clS ns P (recS ns P m) k E f.locals f.code.length r (f.code.length + c.length)
def ShA (ns : List Nd) (k : Nat) (ch : List Nat) (L : List Fs) (f : Fs) (L' : List Fs) (c : List In) (r : Int) (len : Nat) : Prop :=
  ∀ P E, FinE P L' L.length → ScoL L ch E → LiesAt P k f.code.length c → Evs fun m => ∃ e, argS ns (recS ns P m) e k E f.locals f.code.length r len (f.code.length + c.length)
/-- Two expressions. -/
def Sh2 (ns : List Nd) (k : Nat) (ch : List Nat) (L : List Fs) (f : Fs) (L' : List Fs) (c : List In) (r1 r2 : Int) : Prop :=
  ∀ P E, FinE P L' L.length → ScoL L ch E → LiesAt P k f.code.length c → Evs fun m => ∃ p1, (recS ns P m).expr k E f.locals f.code.length r1 p1 ∧ (recS ns P m).expr k E f.locals p1 r2 (f.code.length + c.length)
def ShT (ns : List Nd) (k : Nat) (ch : List Nat) (L : List Fs) (f : Fs) (L' : List Fs) (c : List In) (r i0 : Int) : Prop :=
  ∀ P E, FinE P L' L.length → ScoL L ch E → LiesAt P k f.code.length c → Evs fun m => ∃ e, itmS ns P (recS ns P m) e k E f.locals f.code.length r i0 (f.code.length + c.length)
theorem nd_nat (ns : List Nd) (m : Nat) : nd ns (m : Int) = ns[m]? := by
  unfold nd
  rw [if_pos (by omega), Int.toNat_natCast]
theorem LiesAt.rightE {P : List Fs} {k o o' : Nat} {a b : List In} (h : LiesAt P k o (a ++ b)) (e : o' = o + a.length) : LiesAt P k o' b := by
  rw [e]; exact h.right
end Go.Wl
