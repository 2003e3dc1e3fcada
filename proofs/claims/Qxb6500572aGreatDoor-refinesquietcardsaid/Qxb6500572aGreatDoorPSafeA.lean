/- Flow typing of flat code; good states. -/
import Derived.Test.Qxb6500572aGreatDoorPVmB
import Derived.Test.Qxb6500572aGreatDoorPShow
import Derived.Test.Qxb6500572aGreatDoorPCall
namespace Go.Wl
open Go Go.Sl
set_option linter.unusedVariables false
abbrev Typ := Nat → Option (List UInt8)
def JT (T : Typ) (τ : List UInt8) (c : Flat) : Prop :=
  0 ≤ c.cut ∧ 0 ≤ c.keep ∧ c.cut + c.keep ≤ τ.length ∧ 0 ≤ c.imm ∧ T c.imm.toNat = some (τ.take c.cut.toNat ++ τ.drop (τ.length - c.keep.toNat))
structure IOk (P : Prog) (u : Fun) (T : Typ) (pc : Nat) (c : Flat) (τ : List UInt8) : Prop where
  i3 : c.op = 3 → ∃ τ', τ = τ' ++ [105] ∧ 0 ≤ c.imm ∧ T (pc + 1) = some τ' ∧ T c.imm.toNat = some τ'
  i4 : c.op = 4 → (pc : Int) < c.imm ∧ T c.imm.toNat = some τ
  i5 : c.op = 5 ∨ c.op = 9 → ∃ τ', τ = τ' ++ u.results
  i6 : c.op = 6 → JT T τ c
  i7 : c.op = 7 → ∃ τ', τ = τ' ++ [105] ∧ T (pc + 1) = some τ' ∧ JT T τ' c
  i8 : c.op = 8 → ∃ τ', τ = τ' ++ [105] ∧ 0 ≤ c.imm ∧ c.imm ≤ 1000 ∧ ∀ k : Nat, (k : Int) ≤ c.imm → ∃ e, u.code[pc + 1 + k]? = some e ∧ e.op = 6 ∧ JT T τ' e
  i10 : c.op = 10 → ∃ f τ', 0 ≤ c.imm ∧ P.funs[c.imm.toNat]? = some f ∧ τ = τ' ++ f.params ∧ T (pc + 1) = some (τ' ++ f.results)
  i11 : c.op = 11 → ∃ τ' t, τ = τ' ++ [t] ∧ T (pc + 1) = some τ'
  i12 : c.op = 12 → ∃ τ' t, τ = τ' ++ [t, t, 105] ∧ T (pc + 1) = some (τ' ++ [t])
  i13 : c.op = 13 → ∃ t, 0 ≤ c.imm ∧ (u.params ++ u.locals)[c.imm.toNat]? = some t ∧ T (pc + 1) = some (τ ++ [t])
  i14 : c.op = 14 → ∃ t τ', 0 ≤ c.imm ∧ (u.params ++ u.locals)[c.imm.toNat]? = some t ∧ τ = τ' ++ [t] ∧ T (pc + 1) = some τ'
  ip : ¬ (c.op = 0 ∨ (3 ≤ c.op ∧ c.op ≤ 14)) → ∃ i o τ', sigs c.op = some (i, o) ∧ τ = τ' ++ i ∧ T (pc + 1) = some (τ' ++ o) ∧ (c.op = 18 → i64ok c.imm)
def ty2 (l : List UInt8) : Prop := ∀ t, t ∈ l → t = 105 ∨ t = 108
structure Flow (P : Prog) (u : Fun) (T : Typ) : Prop where
  t0 : T 0 = some []
  ok : ∀ pc τ, T pc = some τ → ∃ c, u.code[pc]? = some c ∧ IOk P u T pc c τ ∧ τ.length ≤ 24 ∧ ty2 τ
structure MemOk (m : Mem) : Prop where
  len : (m.bytes.length : Int) ≤ 8 * m.max
  max : m.max ≤ 4
structure ProgOk (P : Prog) : Prop where
  nimp : 0 ≤ P.nimp ∧ P.nimp ≤ 2
  b : ProgB P
  nf : P.funs.length ≤ 6
  f : ∀ u, u ∈ P.funs → u.params.length ≤ 3 ∧ u.results.length ≤ 1 ∧ u.locals.length ≤ 4 ∧ ty2 u.params ∧ ty2 u.results ∧ ty2 u.locals
  fl : ∀ (k : Nat) u, P.nimp ≤ (k : Int) → P.funs[k]? = some u → ∃ T, Flow P u T
/-- The frames, the top first; 'r': what the call under way will give. -/
def Below (P : Prog) : List Fr → List W → List UInt8 → Prop
  | [], st, _ => st = []
  | fr :: rest, st, r => ∃ (k pc : Nat) (u : Fun) (T : Typ) (τ : List UInt8) (below locs ops : List W), fr.f = k ∧ fr.pc = pc ∧ P.nimp ≤ (k : Int) ∧ P.funs[k]? = some u ∧ Flow P u T ∧ T pc = some (τ ++ r) ∧ st = below ++ locs ++ ops ∧
      locs.map W.t = u.params ++ u.locals ∧ ops.map W.t = τ ∧ fr.base = below.length ∧ fr.floor = below.length + locs.length ∧ fr.res = u.results ∧ Below P rest below u.results
structure TF (P : Prog) (m : VM) (k pc : Nat) (u : Fun) (T : Typ) (τ : List UInt8) (below locs ops : List W) (top : Fr) (rest : List Fr) : Prop where
  fr : m.i.fr = rest.reverse ++ [top]
  f : top.f = k
  pcv : top.pc = pc
  dn : P.nimp ≤ (k : Int)
  fu : P.funs[k]? = some u
  fl : Flow P u T
  tp : T pc = some τ
  st : m.i.st = below ++ locs ++ ops
  lt : locs.map W.t = u.params ++ u.locals
  ot : ops.map W.t = τ
  base : top.base = below.length
  floor : top.floor = below.length + locs.length
  res : top.res = u.results
  bl : Below P rest below u.results
def GoodF (P : Prog) (m : VM) : Prop := ∃ k pc u T τ below locs ops top rest, TF P m k pc u T τ below locs ops top rest
variable {P : Prog} {m m' : VM} {k pc : Nat} {u : Fun} {T : Typ} {τ : List UInt8} {below locs ops : List W} {top : Fr} {rest : List Fr}
theorem TF.topv (h : TF P m k pc u T τ below locs ops top rest) : m.i.top = top := by
  unfold Inst.top; rw [h.fr]
  rw [List.getD_eq_getElem?_getD, List.getElem?_append_right (by simp)]
  simp
theorem TF.setTop (h : TF P m k pc u T τ below locs ops top rest) (f : Fr) : (m.i.setTop f).fr = rest.reverse ++ [f] := by
  unfold Inst.setTop; rw [h.fr]
  simp only [List.length_append, List.length_cons, List.length_nil, Nat.add_sub_cancel]
  rw [List.set_append_right _ _ (Nat.le_refl _)]
  simp
theorem TF.go (h : TF P m k pc u T τ below locs ops top rest) {pc' : Nat} {τ' : List UInt8} {locs' ops' : List W} (hfr : m'.i.fr = rest.reverse ++ [{ top with pc := (pc' : Int) }]) (hst : m'.i.st = below ++ locs' ++ ops') (hl : locs'.map W.t = locs.map W.t) (ht : T pc' = some τ') (ho : ops'.map W.t = τ') : GoodF P m' :=
  ⟨k, pc', u, T, τ', below, locs', ops', { top with pc := (pc' : Int) }, rest, hfr, h.f, rfl, h.dn, h.fu, h.fl, ht, hst, by rw [hl, h.lt], ho, h.base, by rw [show locs'.length = locs.length by simpa using congrArg List.length hl]; exact h.floor, h.res, h.bl⟩
theorem TF.instr (h : TF P m k pc u T τ below locs ops top rest) (hP : m.P = P) : ∃ c, u.code[pc]? = some c ∧ m.at = c ∧ IOk P u T pc c τ := by
  obtain ⟨c, hc, hi, _, _⟩ := h.fl.ok pc τ h.tp
  refine ⟨c, hc, ?_, hi⟩
  unfold VM.at Prog.at
  have hk := (List.getElem?_eq_some_iff.1 h.fu).1
  have hpc := (List.getElem?_eq_some_iff.1 hc).1
  rw [h.topv, h.f, h.pcv, hP, if_neg (by omega), Int.toNat_natCast, h.fu]
  dsimp only
  rw [if_neg (by omega), Int.toNat_natCast, List.getD_eq_getElem?_getD, hc]; rfl
theorem TF.stl (h : TF P m k pc u T τ below locs ops top rest) : m.i.st.length = below.length + locs.length + ops.length := by rw [h.st]; simp; omega
theorem TF.topn (h : TF P m k pc u T τ below locs ops top rest) {n : Nat} (hn : n ≤ ops.length) : Top m n := by
  unfold Top; rw [h.topv, h.floor, h.stl]; omega
/-- How a typed list ends. -/
theorem map_snoc {l : List W} {a : List UInt8} {t : UInt8} (h : l.map W.t = a ++ [t]) : ∃ l' y, l = l' ++ [y] ∧ l'.map W.t = a ∧ y.t = t := by
  obtain ⟨l1, l2, rfl, h1, h2⟩ := List.map_eq_append_iff.1 h
  match l2, h2 with
  | [y], h2 => exact ⟨l1, y, rfl, h1, by simpa using h2⟩
theorem t105 {y : W} (h : y.t = 105) : y.w = false := by
  cases hw : y.w with
  | false => rfl
  | true => unfold W.t at h; rw [hw] at h; simp at h
theorem t108 {y : W} (h : y.t = 108) : y.w = true := by
  cases hw : y.w with
  | true => rfl
  | false => unfold W.t at h; rw [hw] at h; simp at h
theorem wOf_t {a b : W} (h : a.t = b.t) : a.w = b.w := by
  cases ha : a.w <;> cases hb : b.w <;> first | rfl | (unfold W.t at h; rw [ha, hb] at h; simp at h)
theorem lst_app {A : List W} {y : W} : lst (A ++ [y]) = y := by unfold lst; simp
theorem drop_app {A : List W} {y : W} : (A ++ [y]).dropLast = A := by simp
end Go.Wl
