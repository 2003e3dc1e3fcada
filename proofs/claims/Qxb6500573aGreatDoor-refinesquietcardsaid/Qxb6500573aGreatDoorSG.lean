/- Plain: the interpreter and the machine: what is still to be done. -/
import Derived.Test.Qxb6500573aGreatDoorSE
import Derived.Test.Qxb6500573aGreatDoorSF
import Derived.Test.Qxb6500573aGreatDoorTW
namespace Go.Sm
open Go Go.Sl Go.Wl Go.Nm Go.Proofs
set_option linter.unusedVariables false
/-- Where a variable lives: in a thread's stack, or in a closed cell. -/
inductive Plc where
  | stk (u a : Nat)
  | cel (j : Nat)
def UpAt (m : VM) (idx : Nat) (pl : Plc) : Prop := ∃ (j : Nat) (ce : Ce), m.vs.upix[idx]? = some (j : Int) ∧ m.vs.cells[j]? = some ce ∧ ((0 ≤ ce.th ∧ pl = .stk ce.th.toNat ce.at_.toNat) ∨ (ce.th < 0 ∧ pl = .cel j))
/-- What the names that are no locals mean. -/
def VU (P : List Fs) (es : List EvM) (ρ : Nat → Option Plc) (m : VM) (x : Nat) (E : Sco) (up : Nat) (e : Option Nat) (name : Nm8) : Prop :=
  (∀ y : Int, upRel P E x name y → ∃ i pl, Fd es e name (some i) ∧ ρ i = some pl ∧ UpAt m (up + y.toNat) pl) ∧ (noUp E name → Fd es e name none)
/-- What the names mean where the locals L are alive. -/
structure VOk (P : List Fs) (es : List EvM) (ρ : Nat → Option Plc) (m : VM) (u B x : Nat) (E : Sco) (up : Nat) (L : List Nm8) (e : Option Nat) : Prop where
  rg : ∀ i, e = some i → i < es.length
  sl : ∀ name, name ≠ [] → ∀ s : Nat, slotL L name = (s : Int) → ∃ i, Fd es e name (some i) ∧ ρ i = some (.stk u (B + s))
  up : ∀ name, name ≠ [] → slotL L name < 0 → VU P es ρ m x E up e name
theorem slotAt_app (L l : List Nm8) (name : Nm8) : ∀ i, i ≤ L.length → slotAt (L ++ l) name i = slotAt L name i
  | 0, _ => rfl
  | i + 1, h => by
    unfold slotAt
    rw [slotAt_app L l name i (by omega), List.getD_eq_getElem?_getD, List.getElem?_append_left (by omega), ← List.getD_eq_getElem?_getD]
theorem slot_snoc (L : List Nm8) (nm name : Nm8) : slotL (L ++ [nm]) name = if nm = name then (L.length : Int) else slotL L name := by
  unfold slotL
  rw [List.length_append, List.length_singleton]
  have e : slotAt (L ++ [nm]) name (L.length + 1) = if (L ++ [nm]).getD L.length [] = name then (L.length : Int) else slotAt (L ++ [nm]) name L.length := rfl
  rw [e, slotAt_app L [nm] name L.length (Nat.le_refl _), List.getD_eq_getElem?_getD, List.getElem?_append_right (Nat.le_refl _), Nat.sub_self]
  rfl
theorem slot_at {L : List Nm8} {name : Nm8} {s : Nat} (h : slotL L name = (s : Int)) : L[s]? = some name := by
  rcases slotAt_ok L name L.length (Nat.le_refl _) with e | ⟨j, e, hj⟩
  · unfold slotL at h; omega
  · unfold slotL at h
    rw [e] at h
    have : j = s := by omega
    rw [← this]
    exact hj
theorem slot_cases (L : List Nm8) (name : Nm8) : slotL L name < 0 ∨ ∃ s : Nat, slotL L name = (s : Int) := by
  by_cases h : slotL L name < 0
  · exact .inl h
  · exact .inr ⟨(slotL L name).toNat, by omega⟩
section
variable {P : List Fs} {es : List EvM} {ρ : Nat → Option Plc} {m : VM} {u B x : Nat} {E : Sco} {up : Nat} {L : List Nm8} {e : Option Nat}
theorem VOk.hid (h : VOk P es ρ m u B x E up L e) : VOk P es ρ m u B x E up (L ++ [[]]) e := by
  refine ⟨h.rg, fun name hn s hs => ?_, fun name hn hs => ?_⟩
  · rw [slot_snoc, if_neg (fun q => hn q.symm)] at hs
    exact h.sl name hn s hs
  · rw [slot_snoc, if_neg (fun q => hn q.symm)] at hs
    exact h.up name hn hs
/-- A new variable. -/
theorem VOk.snoc (h : VOk P es ρ m u B x E up L e) {ρ' : Nat → Option Plc} {nm : Nm8} {v : V} (h1 : ρ' es.length = some (.stk u (B + L.length))) (h2 : ∀ i, i < es.length → ρ' i = ρ i) : VOk P (es ++ [⟨nm, v, e⟩]) ρ' m u B x E up (L ++ [nm]) (some es.length) := by
  refine ⟨fun i hi => by injection hi with hi; subst hi; simp, fun name hn s hs => ?_, fun name hn hs => ?_⟩
  · rw [slot_snoc] at hs
    by_cases c : nm = name
    · rw [if_pos c] at hs
      subst c
      exact ⟨es.length, .newHit, by rw [h1, show L.length = s from by omega]⟩
    · rw [if_neg c] at hs
      obtain ⟨i, q1, q2⟩ := h.sl name hn s hs
      exact ⟨i, q1.new c, by rw [h2 i q1.lt.1]; exact q2⟩
  · rw [slot_snoc] at hs
    by_cases c : nm = name
    · rw [if_pos c] at hs; omega
    · rw [if_neg c] at hs
      obtain ⟨q1, q2⟩ := h.up name hn hs
      refine ⟨fun y hy => ?_, fun hy => (q2 hy).new c⟩
      obtain ⟨i, pl, w1, w2, w3⟩ := q1 y hy
      exact ⟨i, pl, w1.new c, by rw [h2 i w1.lt.1]; exact w2, w3⟩
end
/-- How many locals are hidden. -/
def hidN : List Nm8 → Nat
  | [] => 0
  | nm :: L => (if nm = [] then 1 else 0) + hidN L
/-- Their values. -/
def hidV (S : List V) : Nat → List Nm8 → List V
  | _, [] => []
  | o, nm :: L => (if nm = [] then [S.getD o V.nil] else []) ++ hidV S (o + 1) L
theorem hidN_app (a b : List Nm8) : hidN (a ++ b) = hidN a + hidN b := by
  induction a with
  | nil => simp [hidN]
  | cons x a ih => simp only [List.cons_append, hidN, ih]; omega
theorem hidV_app (S : List V) : ∀ (a b : List Nm8) (o : Nat), hidV S o (a ++ b) = hidV S o a ++ hidV S (o + a.length) b
  | [], b, o => by simp [hidV]
  | x :: a, b, o => by
    simp only [List.cons_append, hidV, hidV_app S a b (o + 1), List.length_cons, List.append_assoc]
    congr 3
    omega
theorem hidV_len (S : List V) : ∀ (L : List Nm8) (o : Nat), (hidV S o L).length = hidN L
  | [], o => rfl
  | nm :: L, o => by
    simp only [hidV, hidN, List.length_append, hidV_len S L (o + 1)]
    split <;> simp
theorem hidN_le : ∀ L : List Nm8, hidN L ≤ L.length
  | [] => Nat.le_refl _
  | nm :: L => by
    have := hidN_le L
    simp only [hidN, List.length_cons]
    split <;> omega
theorem hidV_congr {S S' : List V} : ∀ (L : List Nm8) (o : Nat), (∀ k : Nat, L[k]? = some [] → S[o + k]? = S'[o + k]?) → hidV S o L = hidV S' o L
  | [], o, h => rfl
  | nm :: L, o, h => by
    simp only [hidV]
    have h1 := hidV_congr (S := S) (S' := S') L (o + 1) (fun k hk => by have := h (k + 1) hk; rw [show o + 1 + k = o + (k + 1) from by omega]; exact this)
    rw [h1]
    by_cases c : nm = []
    · rw [if_pos c, if_pos c]
      have := h 0 (by rw [c]; rfl)
      rw [Nat.add_zero] at this
      rw [List.getD_eq_getElem?_getD, List.getD_eq_getElem?_getD, this]
    · rw [if_neg c, if_neg c]
/-- A while loop. -/
structure WhD (ns : List Nd) (P : List Fs) (x : Nat) (E : Sco) (L : List Nm8) (d : Nd) (top p1 p2 p3 lo m1 m2 : Nat) (L1 : List Nm8) : Prop where
  h1 : Sp ns P .ex lo m1 x E L top d.a p1
  i1 : insP P x p1 = some (22, ((p3 + 1 : Nat) : Int))
  h2 : Sp ns P (.sts (some (L.length, p3 + 1)) L1) m1 m2 x E L (p1 + 1) d.b p2
  v2 : levS P x L.length L1 p2 p3
  i2 : insP P x p3 = some (21, (top : Int))
/-- A counting loop. -/
structure FoD (ns : List Nd) (P : List Fs) (x : Nat) (E : Sco) (L : List Nm8) (d : Nd) (p3 p4 p5 m3 m4 : Nat) (L1 : List Nm8) : Prop where
  hs : d.s ≠ []
  hr : RndI P x L.length p3 p4
  hb : Sp ns P (.sts (some (L.length, p4 + 6)) L1) m3 m4 x E (L ++ [[], [], [], d.s]) (p3 + 6) d.b p5
  hv : levS P x (L.length + 4) L1 p5 p4
/-- A loop over a table. -/
structure InD (ns : List Nd) (P : List Fs) (x : Nat) (E : Sco) (L : List Nm8) (d dk dv : Nd) (p1 p4 p5 m2 m3 : Nat) (L1 : List Nm8) : Prop where
  hdk : nd ns d.a = some dk
  hdv : nd ns dk.next = some dv
  hs : dk.s ≠ [] ∧ dv.s ≠ []
  hr : WlkI P x L.length p1 p4
  hb : Sp ns P (.sts (some (L.length, p4 + 2)) L1) m2 m3 x E (L ++ [[], [], dk.s, dv.s]) (p1 + 5) d.c p5
  hv : levS P x (L.length + 4) L1 p5 p4
/-- The tasks T of one call (the top first) are what the code from pc on does, where the locals L are alive; w falls with every step that the machine does not take. -/
inductive Kt (ns : List Nd) (P : List Fs) (x : Nat) (E : Sco) (HB : Nat) (VO : List Nm8 → Option Nat → Prop) (hs : Nat) (prot : Int) : List Nat → Brk → List Nm8 → Nat → Nat → List Nat → List TkM → Nat → Prop
  | ret {iv : List Nat} {L : List Nm8} {pc : Nat} (i0 : insP P x pc = some (2, 0)) (i1 : insP P x (pc + 1) = some (2, 0)) (i2 : insP P x (pc + 2) = some (27, 0)) : Kt ns P x E HB VO hs prot iv none L pc 0 [] [⟨3, prot, (hs : Int), none⟩] 1
  | hid {iv : List Nat} {br : Brk} {L : List Nm8} {pc : Nat} {T : List TkM} {w : Nat} (i : insP P x pc = some (6, (L.length : Int))) (hb : ∀ b o, br = some (b, o) → b ≤ L.length) (k : Kt ns P x E HB VO hs prot iv br (L ++ [[]]) (pc + 1) 0 [] T w) : Kt ns P x E HB VO hs prot iv br L pc 1 [] T w
  | jmp {iv : List Nat} {no : Nat} {tb : List Nat} {br : Brk} {L : List Nm8} {pc q : Nat} {T : List TkM} {w : Nat} (i : insP P x pc = some (21, (q : Int))) (hq : pc < q) (k : Kt ns P x E HB VO hs prot iv br L q no tb T w) : Kt ns P x E HB VO hs prot iv br L pc no tb T w
  | eval {iv : List Nat} {no : Nat} {tb : List Nat} {br : Brk} {L : List Nm8} {pc lo hi q : Nat} {n : Int} {e : Option Nat} {T : List TkM} {w : Nat} (h : Sp ns P .ex lo hi x E L pc n q) (ve : VO L e) (hb : T.length + 7 * (hi - lo) ≤ HB) (ht : ∀ p, p ∈ tb → p < no) (k : Kt ns P x E HB VO hs prot iv br L q (no + 1) tb T w) : Kt ns P x E HB VO hs prot iv br L pc no tb (⟨2, n, 0, e⟩ :: T) (w + (6 * (hi - lo) + 1))
  | one {iv : List Nat} {no : Nat} {tb : List Nat} {br : Brk} {L : List Nm8} {pc : Nat} {c : Int} {e : Option Nat} {T : List TkM} {w : Nat} (i : insP P x pc = some (1, c)) (hc : kP P x c ⟨2, 4607182418800017408, []⟩) (hb : T.length + 1 ≤ HB) (ht : ∀ p, p ∈ tb → p < no) (k : Kt ns P x E HB VO hs prot iv br L (pc + 1) (no + 1) tb T w) : Kt ns P x E HB VO hs prot iv br L pc no tb (⟨2, 0, 1, e⟩ :: T) (w + 1)
  | pop {iv : List Nat} {no : Nat} {tb : List Nat} {br : Brk} {L : List Nm8} {pc : Nat} {T : List TkM} {w : Nat} (i : insP P x pc = some (25, 0)) (hb : T.length + 1 ≤ HB) (ht : ∀ p, p ∈ tb → p < no) (k : Kt ns P x E HB VO hs prot iv br L (pc + 1) no tb T w) : Kt ns P x E HB VO hs prot iv br L pc (no + 1) tb (⟨5, 0, 0, none⟩ :: T) (w + 1)
  | idx {iv : List Nat} {no : Nat} {tb : List Nat} {br : Brk} {L : List Nm8} {pc : Nat} {T : List TkM} {w : Nat} (i : insP P x pc = some (11, 0)) (hb : T.length + 1 ≤ HB) (ht : ∀ p, p ∈ tb → p < no) (k : Kt ns P x E HB VO hs prot iv br L (pc + 1) (no + 1) tb T w) : Kt ns P x E HB VO hs prot iv br L pc (no + 2) tb (⟨28, 0, 0, none⟩ :: T) (w + 1)
  | bin {iv : List Nat} {no : Nat} {tb : List Nat} {br : Brk} {L : List Nm8} {pc : Nat} {n : Int} {d : Nd} {T : List TkM} {w : Nat} (hd : nd ns n = some d) (ho : (1 ≤ d.n ∧ d.n ≤ 6) ∨ (11 ≤ d.n ∧ d.n ≤ 16) ∨ d.n = 20) (i : insP P x pc = some (binaryM d.n)) (hb : T.length + 1 ≤ HB) (ht : ∀ p, p ∈ tb → p < no) (k : Kt ns P x E HB VO hs prot iv br L (pc + 1) (no + 1) tb T w) : Kt ns P x E HB VO hs prot iv br L pc (no + 2) tb (⟨24, n, 0, none⟩ :: T) (w + 1)
  | una {iv : List Nat} {no : Nat} {tb : List Nat} {br : Brk} {L : List Nm8} {pc : Nat} {n : Int} {d : Nd} {T : List TkM} {w : Nat} (hd : nd ns n = some d) (ho : d.n = 1 ∨ d.n = 2 ∨ d.n = 3) (i : insP P x pc = some (unaryM d.n)) (hb : T.length + 1 ≤ HB) (ht : ∀ p, p ∈ tb → p < no) (k : Kt ns P x E HB VO hs prot iv br L (pc + 1) (no + 1) tb T w) : Kt ns P x E HB VO hs prot iv br L pc (no + 1) tb (⟨25, n, 0, none⟩ :: T) (w + 1)
  | log {iv : List Nat} {no : Nat} {tb : List Nat} {br : Brk} {L : List Nm8} {pc lo hi q : Nat} {n op kk : Int} {d : Nd} {e : Option Nat} {T : List TkM} {w : Nat} (hd : nd ns n = some d) (hk : (kk = 26 ∧ op = 23) ∨ (kk = 27 ∧ op = 24)) (i : insP P x pc = some (op, (q : Int))) (h : Sp ns P .ex lo hi x E L (pc + 1) d.b q) (ve : VO L e) (hb : T.length + 7 * (hi - lo) ≤ HB) (ht : ∀ p, p ∈ tb → p < no) (k : Kt ns P x E HB VO hs prot iv br L q (no + 1) tb T w) : Kt ns P x E HB VO hs prot iv br L pc (no + 1) tb (⟨kk, n, 0, e⟩ :: T) (w + 1)
  | item {iv : List Nat} {no : Nat} {tb tb' : List Nat} {br : Brk} {L : List Nm8} {pc lo hi q : Nat} {n j : Int} {d : Nd} {e : Option Nat} {T : List TkM} {w : Nat} (hd : nd ns n = some d) (i : insP P x pc = some (13, j)) (h : Sp ns P (.it j) lo hi x E L (pc + 1) d.next q) (ve : VO L e) (hb : T.length + 7 * (hi - lo) + 1 ≤ HB) (ht : ∀ p, p ∈ tb' → p < no + 1) (h0 : no ∈ tb') (hsb : ∀ p, p ∈ tb → p ∈ tb') (k : Kt ns P x E HB VO hs prot iv br L q (no + 1) tb T w) : Kt ns P x E HB VO hs prot iv br L pc (no + 2) tb' (⟨23, n, j, e⟩ :: T) (w + 1)
  | call {iv : List Nat} {no : Nat} {tb : List Nat} {br : Brk} {L : List Nm8} {pc j : Nat} {n : Int} {d : Nd} {e : Option Nat} {T : List TkM} {w : Nat} (hd : nd ns n = some d) (hj : j ≤ 3) (i : insP P x pc = some (26, (j : Int))) (hb : T.length + 1 ≤ HB) (ht : ∀ p, p ∈ tb → p < no) (k : Kt ns P x E HB VO hs prot iv br L (pc + 1) (no + 2) tb T w) : Kt ns P x E HB VO hs prot iv br L pc (no + j + 1) tb (⟨22, n, (j : Int), e⟩ :: T) (w + 1)
  | bind {iv : List Nat} {br : Brk} {L L1 Lb : List Nm8} {pc lo hi p1 p2 : Nat} {n : Int} {d : Nd} {e : Option Nat} {T : List TkM} {w : Nat} (hd : nd ns n = some d) (hs' : d.s ≠ []) (i : insP P x pc = some (6, (L.length : Int))) (h : Sp ns P (.sts br L1) lo hi x E (L ++ [d.s]) (pc + 1) d.next p1) (lb : Lb <+: L) (hz : hidN L = hidN Lb) (v : levS P x Lb.length L1 p1 p2) (ve : VO L e) (hb : T.length + 7 * (hi - lo) ≤ HB) (k : Kt ns P x E HB VO hs prot iv br Lb p2 0 [] T w) : Kt ns P x E HB VO hs prot iv br L pc 1 [] (⟨6, n, 0, e⟩ :: T) (w + 1)
  | bind2 {iv : List Nat} {br : Brk} {L L1 Lb : List Nm8} {pc lo hi p1 p2 : Nat} {n : Int} {d a b : Nd} {e : Option Nat} {T : List TkM} {w : Nat} (hd : nd ns n = some d) (ha : nd ns d.a = some a) (hb' : nd ns a.next = some b) (hs' : a.s ≠ [] ∧ b.s ≠ []) (i0 : insP P x pc = some (6, (L.length : Int) + 1)) (i1 : insP P x (pc + 1) = some (6, (L.length : Int))) (h : Sp ns P (.sts br L1) lo hi x E (L ++ [a.s, b.s]) (pc + 2) d.next p1) (lb : Lb <+: L) (hz : hidN L = hidN Lb) (v : levS P x Lb.length L1 p1 p2) (ve : VO L e) (hb : T.length + 7 * (hi - lo) ≤ HB) (k : Kt ns P x E HB VO hs prot iv br Lb p2 0 [] T w) : Kt ns P x E HB VO hs prot iv br L pc 2 [] (⟨7, n, 0, e⟩ :: T) (w + 1)
  | stN {iv : List Nat} {no : Nat} {tb : List Nat} {br : Brk} {L : List Nm8} {pc : Nat} {n : Int} {d : Nd} {e : Option Nat} {T : List TkM} {w : Nat} (hd : nd ns n = some d) (hn : nameOk d.s) (v : VarS P x E L d.s 6 8 10 pc) (ve : VO L e) (hb : T.length + 1 ≤ HB) (ht : ∀ p, p ∈ tb → p < no) (k : Kt ns P x E HB VO hs prot iv br L (pc + 1) no tb T w) : Kt ns P x E HB VO hs prot iv br L pc (no + 1) tb (⟨9, n, 0, e⟩ :: T) (w + 1)
  | stI {iv : List Nat} {no : Nat} {tb : List Nat} {br : Brk} {L : List Nm8} {pc : Nat} {e : Option Nat} {T : List TkM} {w : Nat} (i : insP P x pc = some (12, 0)) (hb : T.length + 1 ≤ HB) (ht : ∀ p, p ∈ tb → p < no) (k : Kt ns P x E HB VO hs prot iv br L (pc + 1) no tb T w) : Kt ns P x E HB VO hs prot iv br L pc (no + 3) tb (⟨10, 0, 0, e⟩ :: T) (w + 1)
  | cond {iv : List Nat} {br : Brk} {L L1 L2 : List Nm8} {pc m1 m2 m3 p2 p3 p4 p5 : Nat} {n : Int} {d : Nd} {e : Option Nat} {T : List TkM} {w : Nat} (hd : nd ns n = some d) (i1 : insP P x pc = some (22, ((p3 + 1 : Nat) : Int))) (h2 : Sp ns P (.sts br L1) m1 m2 x E L (pc + 1) d.b p2) (v2 : levS P x L.length L1 p2 p3) (i2 : insP P x p3 = some (21, (p5 : Int))) (h3 : Sp ns P (.sts br L2) m2 m3 x E L (p3 + 1) d.c p4) (v3 : levS P x L.length L2 p4 p5) (ve : VO L e) (hb : T.length + 7 * (m3 - m1) ≤ HB) (k : Kt ns P x E HB VO hs prot iv br L p5 0 [] T w) : Kt ns P x E HB VO hs prot iv br L pc 1 [] (⟨11, n, 0, e⟩ :: T) (w + 1)
  | block {iv : List Nat} {br : Brk} {L L1 Lb : List Nm8} {pc lo hi p1 p2 : Nat} {n : Int} {e : Option Nat} {T : List TkM} {w : Nat} (h : Sp ns P (.sts br L1) lo hi x E L pc n p1) (lb : Lb <+: L) (hz : hidN L = hidN Lb) (v : levS P x Lb.length L1 p1 p2) (ve : VO L e) (hb : T.length + 7 * (hi - lo) ≤ HB) (k : Kt ns P x E HB VO hs prot iv br Lb p2 0 [] T w) : Kt ns P x E HB VO hs prot iv br L pc 0 [] (⟨1, n, 0, e⟩ :: T) (w + (6 * (hi - lo) + 1))
  | loopW {iv : List Nat} {br : Brk} {L : List Nm8} {pc : Nat} {h : Int} {T : List TkM} {w : Nat} (hh : h = ((hs + hidN L : Nat) : Int)) (hb : T.length + 1 ≤ HB) (hiv : ∀ q, q ∈ iv → q + 2 ≤ hidN L) (k : Kt ns P x E HB VO hs prot iv br L pc 0 [] T w) : Kt ns P x E HB VO hs prot iv (some (L.length, pc)) L pc 0 [] (⟨4, 0, h, none⟩ :: T) (w + 1)
  | cls {iv : List Nat} {br : Brk} {L : List Nm8} {pc : Nat} {T : List TkM} {w : Nat} (i : insP P x pc = some (29, (L.length : Int))) (k : Kt ns P x E HB VO hs prot iv br L (pc + 1) 0 [] T w) : Kt ns P x E HB VO hs prot iv br L pc 0 [] T w
  | whl {iv : List Nat} {L L1 : List Nm8} {pc p1 p2 p3 lo m1 m2 : Nat} {n : Int} {d : Nd} {e : Option Nat} {T : List TkM} {w : Nat} (hd : nd ns n = some d) (D : WhD ns P x E L d pc p1 p2 p3 lo m1 m2 L1) (ve : VO L e) (hb : T.length + 7 * (m2 - lo) + 1 ≤ HB) (hl : lo ≤ m1 ∧ m1 ≤ m2) (k : Kt ns P x E HB VO hs prot iv (some (L.length, p3 + 1)) L (p3 + 1) 0 [] T w) : Kt ns P x E HB VO hs prot iv (some (L.length, p3 + 1)) L pc 0 [] (⟨12, n, 0, e⟩ :: T) (w + (6 * (m1 - lo) + 3))
  | whlT {iv : List Nat} {L L1 : List Nm8} {top p1 p2 p3 lo m1 m2 : Nat} {n : Int} {d : Nd} {e : Option Nat} {T : List TkM} {w : Nat} (hd : nd ns n = some d) (D : WhD ns P x E L d top p1 p2 p3 lo m1 m2 L1) (ve : VO L e) (hb : T.length + 7 * (m2 - lo) + 1 ≤ HB) (hl : lo ≤ m1 ∧ m1 ≤ m2) (k : Kt ns P x E HB VO hs prot iv (some (L.length, p3 + 1)) L (p3 + 1) 0 [] T w) : Kt ns P x E HB VO hs prot iv (some (L.length, p3 + 1)) L p1 1 [] (⟨13, n, 0, e⟩ :: T) (w + 1)
  | whlB {iv : List Nat} {L L1 : List Nm8} {top p1 p2 p3 lo m1 m2 : Nat} {n : Int} {d : Nd} {e : Option Nat} {T : List TkM} {w : Nat} (hd : nd ns n = some d) (D : WhD ns P x E L d top p1 p2 p3 lo m1 m2 L1) (ve : VO L e) (hb : T.length + 7 * (m2 - lo) + 1 ≤ HB) (hl : lo ≤ m1 ∧ m1 ≤ m2) (k : Kt ns P x E HB VO hs prot iv (some (L.length, p3 + 1)) L (p3 + 1) 0 [] T w) : Kt ns P x E HB VO hs prot iv (some (L.length, p3 + 1)) L p3 0 [] (⟨14, n, 0, e⟩ :: T) (w + 1)
  | forI {iv : List Nat} {L L1 : List Nm8} {p3 p4 p5 m3 m4 : Nat} {n : Int} {d : Nd} {e : Option Nat} {T : List TkM} {w : Nat} (hd : nd ns n = some d) (D : FoD ns P x E L d p3 p4 p5 m3 m4 L1) (ve : VO L e) (hb : T.length + 7 * (m4 - m3) + 1 ≤ HB) (hiv : ∀ q, q ∈ iv → q + 2 ≤ hidN L) (k : Kt ns P x E HB VO hs prot iv (some (L.length, p4 + 6)) L (p4 + 6) 0 [] T w) : Kt ns P x E HB VO hs prot iv (some (L.length, p4 + 6)) (L ++ [[], [], []]) (p3 + 1) 0 [] (⟨15, n, 0, e⟩ :: T) (w + 1)
  | forT {iv : List Nat} {L L1 : List Nm8} {p3 p4 p5 m3 m4 : Nat} {n : Int} {d : Nd} {e : Option Nat} {T : List TkM} {w : Nat} (hd : nd ns n = some d) (D : FoD ns P x E L d p3 p4 p5 m3 m4 L1) (ve : VO L e) (hb : T.length + 7 * (m4 - m3) + 1 ≤ HB) (hiv : ∀ q, q ∈ iv → q + 2 ≤ hidN L) (k : Kt ns P x E HB VO hs prot iv (some (L.length, p4 + 6)) L (p4 + 6) 0 [] T w) : Kt ns P x E HB VO hs prot iv (some (L.length, p4 + 6)) (L ++ [[], [], []]) (p3 + 2) 0 [] (⟨16, n, 0, e⟩ :: T) (w + 1)
  | forB {iv : List Nat} {L L1 : List Nm8} {p3 p4 p5 m3 m4 : Nat} {n : Int} {d : Nd} {e : Option Nat} {T : List TkM} {w : Nat} (hd : nd ns n = some d) (D : FoD ns P x E L d p3 p4 p5 m3 m4 L1) (ve : VO L e) (hb : T.length + 7 * (m4 - m3) + 1 ≤ HB) (hiv : ∀ q, q ∈ iv → q + 2 ≤ hidN L) (k : Kt ns P x E HB VO hs prot iv (some (L.length, p4 + 6)) L (p4 + 6) 0 [] T w) : Kt ns P x E HB VO hs prot iv (some (L.length, p4 + 6)) (L ++ [[], [], [], d.s]) p4 0 [] (⟨17, n, 0, e⟩ :: T) (w + 1)
  | inI {iv : List Nat} {L L1 : List Nm8} {p1 p4 p5 m2 m3 : Nat} {n : Int} {d dk dv : Nd} {e : Option Nat} {T : List TkM} {w : Nat} (hd : nd ns n = some d) (D : InD ns P x E L d dk dv p1 p4 p5 m2 m3 L1) (ve : VO L e) (hb : T.length + 7 * (m3 - m2) + 1 ≤ HB) (hiv : ∀ q, q ∈ iv → q + 2 ≤ hidN L) (k : Kt ns P x E HB VO hs prot iv (some (L.length, p4 + 2)) L (p4 + 2) 0 [] T w) : Kt ns P x E HB VO hs prot iv (some (L.length, p4 + 2)) (L ++ [[]]) (p1 + 1) 0 [] (⟨18, n, 0, e⟩ :: T) (w + 1)
  | inT {iv : List Nat} {L L1 : List Nm8} {p1 p4 p5 m2 m3 : Nat} {n : Int} {d dk dv : Nd} {e : Option Nat} {T : List TkM} {w : Nat} (hd : nd ns n = some d) (D : InD ns P x E L d dk dv p1 p4 p5 m2 m3 L1) (ve : VO L e) (hb : T.length + 7 * (m3 - m2) + 1 ≤ HB) (hiv : ∀ q, q ∈ iv → q + 2 ≤ hidN L) (k : Kt ns P x E HB VO hs prot iv (some (L.length, p4 + 2)) L (p4 + 2) 0 [] T w) : Kt ns P x E HB VO hs prot (hidN L :: iv) (some (L.length, p4 + 2)) (L ++ [[], []]) (p1 + 3) 0 [] (⟨19, n, 0, e⟩ :: T) (w + 1)
  | inB {iv : List Nat} {L L1 : List Nm8} {p1 p4 p5 m2 m3 : Nat} {n : Int} {d dk dv : Nd} {e : Option Nat} {T : List TkM} {w : Nat} (hd : nd ns n = some d) (D : InD ns P x E L d dk dv p1 p4 p5 m2 m3 L1) (ve : VO L e) (hb : T.length + 7 * (m3 - m2) + 1 ≤ HB) (hiv : ∀ q, q ∈ iv → q + 2 ≤ hidN L) (k : Kt ns P x E HB VO hs prot iv (some (L.length, p4 + 2)) L (p4 + 2) 0 [] T w) : Kt ns P x E HB VO hs prot (hidN L :: iv) (some (L.length, p4 + 2)) (L ++ [[], [], dk.s, dv.s]) p4 0 [] (⟨20, n, 0, e⟩ :: T) (w + 1)
  | rtn {iv : List Nat} {no : Nat} {tb : List Nat} {br : Brk} {L : List Nm8} {pc : Nat} {T : List TkM} {w : Nat} (i : insP P x pc = some (27, 0)) (hb : T.length + 1 ≤ HB) (ht : ∀ p, p ∈ tb → p < no) (k : Kt ns P x E HB VO hs prot iv br L (pc + 1) no tb T w) : Kt ns P x E HB VO hs prot iv br L pc (no + 2) tb (⟨21, 0, 0, none⟩ :: T) (w + 1)
/-- The locals that bear a name lie below b. -/
def Nl (L : List Nm8) (b : Nat) : Prop := ∀ (s : Nat) nm, L[s]? = some nm → nm ≠ [] → s < b
theorem Nl.pre {L L' : List Nm8} {b : Nat} (h : Nl L b) (hp : L' <+: L) : Nl L' b := fun s nm hs hn => h s nm (pfx_at hp hs) hn
theorem Nl.hid {L : List Nm8} {b : Nat} (h : Nl L b) : Nl (L ++ [[]]) b := fun s nm hs hn => by
  by_cases c : s < L.length
  · rw [List.getElem?_append_left c] at hs; exact h s nm hs hn
  · rw [List.getElem?_append_right (by omega)] at hs
    have h1 := (List.getElem?_eq_some_iff.1 hs).1
    rw [List.length_singleton] at h1
    rw [show s - L.length = 0 from by omega] at hs
    injection hs with hs
    exact absurd hs.symm hn
theorem Nl.self (L : List Nm8) : Nl L L.length := fun s nm hs _ => (List.getElem?_eq_some_iff.1 hs).1
section
variable {ns : List Nd} {P : List Fs} {x : Nat} {E : Sco} {HB : Nat} {VO VO' : List Nm8 → Option Nat → Prop} {hs : Nat} {prot : Int}
/-- What the names mean may change as long as nothing is lost. -/
theorem Kt.mono {b : Nat} (hv : ∀ L e, Nl L b → VO L e → VO' L e) {iv : List Nat} {br : Brk} {L : List Nm8} {pc no : Nat} {tb : List Nat} {T : List TkM} {w : Nat} (h : Kt ns P x E HB VO hs prot iv br L pc no tb T w) : Nl L b → Kt ns P x E HB VO' hs prot iv br L pc no tb T w := by
  induction h with
  | ret i0 i1 i2 => intro _; exact .ret i0 i1 i2
  | hid i hb k ih => intro hl; exact .hid i hb (ih hl.hid)
  | jmp i hq k ih => intro hl; exact .jmp i hq (ih hl)
  | eval h ve hb ht k ih => intro hl; exact .eval h (hv _ _ hl ve) hb ht (ih hl)
  | one i hc hb ht k ih => intro hl; exact .one i hc hb ht (ih hl)
  | pop i hb ht k ih => intro hl; exact .pop i hb ht (ih hl)
  | idx i hb ht k ih => intro hl; exact .idx i hb ht (ih hl)
  | bin hd ho i hb ht k ih => intro hl; exact .bin hd ho i hb ht (ih hl)
  | una hd ho i hb ht k ih => intro hl; exact .una hd ho i hb ht (ih hl)
  | log hd hk i h ve hb ht k ih => intro hl; exact .log hd hk i h (hv _ _ hl ve) hb ht (ih hl)
  | item hd i h ve hb ht h0 hsb k ih => intro hl; exact .item hd i h (hv _ _ hl ve) hb ht h0 hsb (ih hl)
  | call hd hj i hb ht k ih => intro hl; exact .call hd hj i hb ht (ih hl)
  | bind hd hs' i h lb hz v ve hb k ih => intro hl; exact .bind hd hs' i h lb hz v (hv _ _ hl ve) hb (ih (hl.pre lb))
  | bind2 hd ha hb' hs' i0 i1 h lb hz v ve hb k ih => intro hl; exact .bind2 hd ha hb' hs' i0 i1 h lb hz v (hv _ _ hl ve) hb (ih (hl.pre lb))
  | stN hd hn v ve hb ht k ih => intro hl; exact .stN hd hn v (hv _ _ hl ve) hb ht (ih hl)
  | stI i hb ht k ih => intro hl; exact .stI i hb ht (ih hl)
  | cond hd i1 h2 v2 i2 h3 v3 ve hb k ih => intro hl; exact .cond hd i1 h2 v2 i2 h3 v3 (hv _ _ hl ve) hb (ih hl)
  | block h lb hz v ve hb k ih => intro hl; exact .block h lb hz v (hv _ _ hl ve) hb (ih (hl.pre lb))
  | loopW hh hb hiv k ih => intro hl; exact .loopW hh hb hiv (ih hl)
  | cls i k ih => intro hl; exact .cls i (ih hl)
  | whl hd D ve hb hl' k ih => intro hl; exact .whl hd D (hv _ _ hl ve) hb hl' (ih hl)
  | whlT hd D ve hb hl' k ih => intro hl; exact .whlT hd D (hv _ _ hl ve) hb hl' (ih hl)
  | whlB hd D ve hb hl' k ih => intro hl; exact .whlB hd D (hv _ _ hl ve) hb hl' (ih hl)
  | forI hd D ve hb hiv k ih => intro hl; have h1 := hl.pre (List.prefix_append _ _); exact .forI hd D (hv _ _ h1 ve) hb hiv (ih h1)
  | forT hd D ve hb hiv k ih => intro hl; have h1 := hl.pre (List.prefix_append _ _); exact .forT hd D (hv _ _ h1 ve) hb hiv (ih h1)
  | forB hd D ve hb hiv k ih => intro hl; have h1 := hl.pre (List.prefix_append _ _); exact .forB hd D (hv _ _ h1 ve) hb hiv (ih h1)
  | inI hd D ve hb hiv k ih => intro hl; have h1 := hl.pre (List.prefix_append _ _); exact .inI hd D (hv _ _ h1 ve) hb hiv (ih h1)
  | inT hd D ve hb hiv k ih => intro hl; have h1 := hl.pre (List.prefix_append _ _); exact .inT hd D (hv _ _ h1 ve) hb hiv (ih h1)
  | inB hd D ve hb hiv k ih => intro hl; have h1 := hl.pre (List.prefix_append _ _); exact .inB hd D (hv _ _ h1 ve) hb hiv (ih h1)
  | rtn i hb ht k ih => intro hl; exact .rtn i hb ht (ih hl)
/-- The tasks are few; the last is the call's foot. -/
theorem Kt.len {iv : List Nat} {br : Brk} {L : List Nm8} {pc no : Nat} {tb : List Nat} {T : List TkM} {w : Nat} (h : Kt ns P x E HB VO hs prot iv br L pc no tb T w) : ∃ T0, T = T0 ++ [⟨3, prot, (hs : Int), none⟩] ∧ ∀ q, q ∈ T0 → q.k ≠ 3 := by
  induction h with
  | ret i0 i1 i2 => exact ⟨[], rfl, fun q hq => by cases hq⟩
  | hid i hb k ih => exact ih
  | jmp i hq k ih => exact ih
  | cls i k ih => exact ih
  | log hd hk i h ve hb ht k ih =>
    obtain ⟨T0, rfl, h2⟩ := ih
    refine ⟨_ :: T0, rfl, fun q hq => ?_⟩
    rcases List.mem_cons.1 hq with rfl | hq
    · dsimp only; omega
    · exact h2 q hq
  | eval _ _ _ _ _ ih | one _ _ _ _ _ ih | pop _ _ _ _ ih | idx _ _ _ _ ih | bin _ _ _ _ _ _ ih | una _ _ _ _ _ _ ih | item _ _ _ _ _ _ _ _ _ ih | call _ _ _ _ _ _ ih | bind _ _ _ _ _ _ _ _ _ _ ih | bind2 _ _ _ _ _ _ _ _ _ _ _ _ _ ih | stN _ _ _ _ _ _ _ ih | stI _ _ _ _ ih | cond _ _ _ _ _ _ _ _ _ _ ih | block _ _ _ _ _ _ _ ih | loopW _ _ _ _ ih | whl _ _ _ _ _ _ ih | whlT _ _ _ _ _ _ ih | whlB _ _ _ _ _ _ ih | forI _ _ _ _ _ _ ih | forT _ _ _ _ _ _ ih | forB _ _ _ _ _ _ ih | inI _ _ _ _ _ _ ih | inT _ _ _ _ _ _ ih | inB _ _ _ _ _ _ ih | rtn _ _ _ _ ih =>
    obtain ⟨T0, rfl, h2⟩ := ih
    refine ⟨_ :: T0, rfl, fun q hq => ?_⟩
    rcases List.mem_cons.1 hq with rfl | hq
    · intro q; cases q
    · exact h2 q hq
theorem Kt.small {iv : List Nat} {br : Brk} {L : List Nm8} {pc no : Nat} {tb : List Nat} {T : List TkM} {w : Nat} (h : Kt ns P x E HB VO hs prot iv br L pc no tb T w) : T.length ≤ HB + 1 := by
  induction h with
  | ret i0 i1 i2 => simp
  | hid i hb k ih => exact ih
  | jmp i hq k ih => exact ih
  | cls i k ih => exact ih
  | _ => rw [List.length_cons]; omega
/-- Where a break goes. -/
theorem Kt.brk {iv : List Nat} {br : Brk} {L : List Nm8} {pc no : Nat} {tb : List Nat} {T : List TkM} {w : Nat} (h : Kt ns P x E HB VO hs prot iv br L pc no tb T w) : ∀ b o, br = some (b, o) → ∃ (q : TkM) (T' : List TkM) (L0 : List Nm8) (iv' : List Nat) (br' : Brk) (pc' w' : Nat), brkP T = some (q, T') ∧ q.x = ((hs + hidN L0 : Nat) : Int) ∧ L0.length = b ∧ L0 <+: L ∧ Kt ns P x E HB VO hs prot iv' br' L0 pc' 0 [] T' w' ∧ pc' = o ∧ (∀ q, q ∈ iv' → q ∈ iv ∧ q + 2 ≤ hidN L0) := by
  have key : ∀ {iv iv2 : List Nat} {L L' : List Nm8} {q : TkM} {T : List TkM} {b o : Nat}, (∀ q, q ∈ iv2 → q ∈ iv) → q.k ≠ 4 → L' <+: L → (∃ (q : TkM) (T' : List TkM) (L0 : List Nm8) (iv' : List Nat) (br' : Brk) (pc' w' : Nat), brkP T = some (q, T') ∧ q.x = ((hs + hidN L0 : Nat) : Int) ∧ L0.length = b ∧ L0 <+: L' ∧ Kt ns P x E HB VO hs prot iv' br' L0 pc' 0 [] T' w' ∧ pc' = o ∧ (∀ q, q ∈ iv' → q ∈ iv2 ∧ q + 2 ≤ hidN L0)) →
      ∃ (q' : TkM) (T' : List TkM) (L0 : List Nm8) (iv' : List Nat) (br' : Brk) (pc' w' : Nat), brkP (q :: T) = some (q', T') ∧ q'.x = ((hs + hidN L0 : Nat) : Int) ∧ L0.length = b ∧ L0 <+: L ∧ Kt ns P x E HB VO hs prot iv' br' L0 pc' 0 [] T' w' ∧ pc' = o ∧ (∀ q, q ∈ iv' → q ∈ iv ∧ q + 2 ≤ hidN L0) := by
    intro iv iv2 L L' q T b o hiv hq hp ⟨q', T', L0, iv', br', pc', w', h1, h2, h3, h4, h5, h6, h7⟩
    exact ⟨q', T', L0, iv', br', pc', w', by unfold brkP; rw [if_neg hq]; exact h1, h2, h3, h4.trans hp, h5, h6, fun q hq => ⟨hiv q (h7 q hq).1, (h7 q hq).2⟩⟩
  induction h with
  | ret i0 i1 i2 => intro b o e; cases e
  | @hid iv br L pc T w i hb k ih =>
    intro b o e
    obtain ⟨q', T', L0, iv', br', pc', w', h1, h2, h3, h4, h5⟩ := ih b o e
    refine ⟨q', T', L0, iv', br', pc', w', h1, h2, h3, ?_, h5⟩
    exact List.prefix_of_prefix_length_le h4 (List.prefix_append _ _) (by have := hb b o e; omega)
  | jmp i hq k ih => exact ih
  | eval h ve hb ht k ih => intro b o e; exact key (fun _ h => h) (by intro w; cases w) (List.prefix_refl _) (ih b o e)
  | one i hc hb ht k ih => intro b o e; exact key (fun _ h => h) (by intro w; cases w) (List.prefix_refl _) (ih b o e)
  | pop i hb ht k ih => intro b o e; exact key (fun _ h => h) (by intro w; cases w) (List.prefix_refl _) (ih b o e)
  | idx i hb ht k ih => intro b o e; exact key (fun _ h => h) (by intro w; cases w) (List.prefix_refl _) (ih b o e)
  | bin hd ho i hb ht k ih => intro b o e; exact key (fun _ h => h) (by intro w; cases w) (List.prefix_refl _) (ih b o e)
  | una hd ho i hb ht k ih => intro b o e; exact key (fun _ h => h) (by intro w; cases w) (List.prefix_refl _) (ih b o e)
  | log hd hk i h ve hb ht k ih => intro b o e; exact key (fun _ h => h) (by dsimp only; omega) (List.prefix_refl _) (ih b o e)
  | item hd i h ve hb ht h0 hsb k ih => intro b o e; exact key (fun _ h => h) (by intro w; cases w) (List.prefix_refl _) (ih b o e)
  | call hd hj i hb ht k ih => intro b o e; exact key (fun _ h => h) (by intro w; cases w) (List.prefix_refl _) (ih b o e)
  | bind hd hs' i h lb hz v ve hb k ih => intro b o e; exact key (fun _ h => h) (by intro w; cases w) lb (ih b o e)
  | bind2 hd ha hb' hs' i0 i1 h lb hz v ve hb k ih => intro b o e; exact key (fun _ h => h) (by intro w; cases w) lb (ih b o e)
  | stN hd hn v ve hb ht k ih => intro b o e; exact key (fun _ h => h) (by intro w; cases w) (List.prefix_refl _) (ih b o e)
  | stI i hb ht k ih => intro b o e; exact key (fun _ h => h) (by intro w; cases w) (List.prefix_refl _) (ih b o e)
  | cond hd i1 h2 v2 i2 h3 v3 ve hb k ih => intro b o e; exact key (fun _ h => h) (by intro w; cases w) (List.prefix_refl _) (ih b o e)
  | block h lb hz v ve hb k ih => intro b o e; exact key (fun _ h => h) (by intro w; cases w) lb (ih b o e)
  | @loopW iv br L pc h T w hh hb hiv k ih =>
    intro b o e
    injection e with e
    injection e with e1 e2
    subst e1 e2
    exact ⟨_, T, L, iv, br, pc, w, by unfold brkP; rw [if_pos rfl], hh, rfl, List.prefix_refl _, k, rfl, fun q hq => ⟨hq, hiv q hq⟩⟩
  | cls i k ih => exact ih
  | whl hd D ve hb hl' k ih => intro b o e; exact key (fun _ h => h) (by intro w; cases w) (List.prefix_refl _) (ih b o e)
  | whlT hd D ve hb hl' k ih => intro b o e; exact key (fun _ h => h) (by intro w; cases w) (List.prefix_refl _) (ih b o e)
  | whlB hd D ve hb hl' k ih => intro b o e; exact key (fun _ h => h) (by intro w; cases w) (List.prefix_refl _) (ih b o e)
  | forI hd D ve hb hiv k ih => intro b o e; exact key (fun _ h => h) (by intro w; cases w) (List.prefix_append _ _) (ih b o e)
  | forT hd D ve hb hiv k ih => intro b o e; exact key (fun _ h => h) (by intro w; cases w) (List.prefix_append _ _) (ih b o e)
  | forB hd D ve hb hiv k ih => intro b o e; exact key (fun _ h => h) (by intro w; cases w) (List.prefix_append _ _) (ih b o e)
  | inI hd D ve hb hiv k ih => intro b o e; exact key (fun _ h => h) (by intro w; cases w) (List.prefix_append _ _) (ih b o e)
  | inT hd D ve hb hiv k ih => intro b o e; exact key (fun _ h => List.mem_cons_of_mem _ h) (by intro w; cases w) (List.prefix_append _ _) (ih b o e)
  | inB hd D ve hb hiv k ih => intro b o e; exact key (fun _ h => List.mem_cons_of_mem _ h) (by intro w; cases w) (List.prefix_append _ _) (ih b o e)
  | rtn i hb ht k ih => intro b o e; exact key (fun _ h => h) (by intro w; cases w) (List.prefix_refl _) (ih b o e)
end
end Go.Sm
