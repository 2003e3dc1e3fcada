/- Plain: the two parsers: the tree laid flat. -/
import Derived.Test.Qxb6500573aGreatDoorZG
namespace Go.Zm
open Go Go.Sl Go.Wl Go.Nm Go.Proofs
set_option linter.unusedVariables false
/-- The kind of the node that a tree becomes. -/
def kdT : T → Int
  | .nil => 0 | .lit _ k => k | .num _ _ => 15 | .str _ _ => 16 | .name _ _ => 17 | .index _ _ _ => 18 | .call _ _ _ => 19 | .func _ _ _ _ => 20 | .table _ _ => 21 | .bin _ k _ _ _ => k | .un _ _ _ => 23
  | .loc l _ => if l.length = 1 then 1 else 2 | .locFn _ _ _ => 3 | .asg _ _ _ => 4 | .callS _ => 5 | .ife _ _ _ _ => 6 | .whl _ _ _ => 7 | .forN _ _ _ _ => 8 | .forIn _ _ _ => 9 | .ret _ _ _ => 10 | .brk _ => 11
def kd3 (t : T) : Prop := (kdT t = 19 ↔ t.ty = 302) ∧ (kdT t = 17 ↔ t.ty = 307) ∧ (kdT t = 18 ↔ t.ty = 308)
def LE (t : T) (ns : List Nd) (x : Int) (ns' : List Nd) : Prop := ∃ F0, ∀ F, F0 ≤ F → exprF (recF F) t ns = some (x, ns')
def LS (t : T) (ns : List Nd) (x : Int) (ns' : List Nd) : Prop := ∃ F0, ∀ F, F0 ≤ F → stmtF (recF F) t ns = some (x, ns')
/-- A chain laid: its first and last member. -/
def chG (fc : RecF) : List T → Int → Int → List Nd → Option ((Int × Int) × List Nd)
  | [], f, l, ns => some ((f, l), ns)
  | t :: r, f, l, ns => bind2 (layF fc t ns) fun x ns => if l = 0 then chG fc r x x ns else if h : 0 ≤ l ∧ l.toNat < ns.length then chG fc r f x (ns.set l.toNat { ns[l.toNat] with next := x }) else none
theorem chainL_eq (fc : RecF) : ∀ (r : List T) (f l : Int) (ns : List Nd), chainL fc r f l ns = bind2 (chG fc r f l ns) fun q ns => some (q.1, ns)
  | [], f, l, ns => rfl
  | t :: r, f, l, ns => by
    unfold chainL chG
    cases layF fc t ns with
    | none => rfl
    | some q =>
      show (if _ then _ else _) = bind2 (if _ then _ else _) _
      split
      · exact chainL_eq fc r _ _ _
      · split
        · exact chainL_eq fc r _ _ _
        · rfl
theorem chG_snoc (fc : RecF) (t : T) : ∀ (r : List T) (f l : Int) (ns : List Nd), chG fc (r ++ [t]) f l ns = bind2 (chG fc r f l ns) fun q ns => chG fc [t] q.1 q.2 ns
  | [], f, l, ns => rfl
  | u :: r, f, l, ns => by
    rw [List.cons_append]
    conv => lhs; unfold chG
    conv => rhs; unfold chG
    cases layF fc u ns with
    | none => rfl
    | some q =>
      show (if _ then _ else _) = bind2 (if _ then _ else _) _
      split
      · exact chG_snoc fc t r _ _ _
      · split
        · exact chG_snoc fc t r _ _ _
        · rfl
def LC (r : List T) (ns : List Nd) (f l : Int) (ns' : List Nd) : Prop := ∃ F0, ∀ F, F0 ≤ F → chG (recF F) r 0 0 ns = some ((f, l), ns')
theorem LC.nil (ns : List Nd) : LC [] ns 0 0 ns := ⟨0, fun _ _ => rfl⟩
theorem isStmt_e {fc : RecF} {t : T} {ns : List Nd} {q : Int × List Nd} (h : exprF fc t ns = some q) : t.isStmt = false := by cases t <;> first | rfl | cases h
theorem isStmt_s {fc : RecF} {t : T} {ns : List Nd} {q : Int × List Nd} (h : stmtF fc t ns = some q) : t.isStmt = true := by cases t <;> first | rfl | cases h
/-- Either kind. -/
def LY (t : T) (ns : List Nd) (x : Int) (ns' : List Nd) : Prop := ∃ F0, ∀ F, F0 ≤ F → layF (recF F) t ns = some (x, ns')
theorem LE.y {t : T} {ns ns' : List Nd} {x : Int} (h : LE t ns x ns') : LY t ns x ns' := by
  obtain ⟨F0, h⟩ := h
  exact ⟨F0, fun F hF => by unfold layF; rw [isStmt_e (h F hF)]; exact h F hF⟩
theorem LS.y {t : T} {ns ns' : List Nd} {x : Int} (h : LS t ns x ns') : LY t ns x ns' := by
  obtain ⟨F0, h⟩ := h
  exact ⟨F0, fun F hF => by unfold layF; rw [isStmt_s (h F hF)]; exact h F hF⟩
theorem bind2_some' {α β γ : Type} (a : α) (b : β) (f : α → β → Option γ) : bind2 (some (a, b)) f = f a b := rfl
theorem LC.one {r : List T} {ns ns1 ns2 : List Nd} {t : T} {x : Int} (h : LC r ns 0 0 ns1) (ht : LY t ns1 x ns2) : LC (r ++ [t]) ns x x ns2 := by
  obtain ⟨F0, h⟩ := h
  obtain ⟨F1, ht⟩ := ht
  refine ⟨max F0 F1, fun F hF => ?_⟩
  rw [chG_snoc, h F (by omega)]
  rw [bind2_some', chG, ht F (by omega), bind2_some', if_pos rfl]
  rfl
theorem LC.more {r : List T} {ns ns1 ns2 : List Nd} {t : T} {f x : Int} {l : Nat} (h : LC r ns f l ns1) (ht : LY t ns1 x ns2) (hl : l ≠ 0) (hl2 : l < ns2.length) : LC (r ++ [t]) ns f x (ns2.set l { ns2[l] with next := x }) := by
  obtain ⟨F0, h⟩ := h
  obtain ⟨F1, ht⟩ := ht
  refine ⟨max F0 F1, fun F hF => ?_⟩
  rw [chG_snoc, h F (by omega)]
  rw [bind2_some', chG, ht F (by omega), bind2_some', if_neg (by dsimp only; omega), dif_pos ⟨by dsimp only; omega, by simpa using hl2⟩]
  simp only [Int.toNat_natCast]
  rfl
/-- A list as the callers lay it. -/
def LL (r : List T) (ns : List Nd) (f : Int) (ns' : List Nd) : Prop := ∃ F0, ∀ F, F0 ≤ F → (recF F).chain r ns = some (f, ns')
theorem LC.ll {r : List T} {ns ns' : List Nd} {f l : Int} (h : LC r ns f l ns') (hr : r.length < 100000) : LL r ns f ns' := by
  obtain ⟨F0, h⟩ := h
  refine ⟨F0 + 1, fun F hF => ?_⟩
  obtain ⟨k, rfl⟩ : ∃ k, F = k + 1 := ⟨F - 1, by omega⟩
  show chainF (recF k) r ns = _
  unfold chainF
  rw [if_pos hr, chainL_eq, h k (by omega)]
  rfl
theorem LE.fc {t : T} {ns ns' : List Nd} {x : Int} (h : LE t ns x ns') : ∃ F0, ∀ F, F0 ≤ F → (recF F).expr t ns = some (x, ns') := by
  obtain ⟨F0, h⟩ := h
  refine ⟨F0 + 1, fun F hF => ?_⟩
  obtain ⟨k, rfl⟩ : ∃ k, F = k + 1 := ⟨F - 1, by omega⟩
  exact h k (by omega)
theorem bind2_some {α β γ : Type} (a : α) (b : β) (f : α → β → Option γ) : bind2 (some (a, b)) f = f a b := rfl
theorem addF_ok {ns : List Nd} (h : ns.length < 100000) (d : Nd) : addF d ns = some ((ns.length : Int), ns ++ [d]) := by unfold addF; rw [if_pos h]
section
variable {ns ns1 ns2 ns3 : List Nd} {x y z : Int} {t u : T} {l l2 : List T}
theorem LE.lit {a k : Int} (h : ns.length < 100000) : LE (.lit a k) ns ns.length (ns ++ [⟨k, 0, 0, 0, 0, 0, [], a⟩]) := ⟨0, fun F _ => addF_ok h _⟩
theorem LE.num {a n : Int} (h : ns.length < 100000) : LE (.num a n) ns ns.length (ns ++ [⟨15, 0, 0, 0, 0, n, [], a⟩]) := ⟨0, fun F _ => addF_ok h _⟩
theorem LE.str {a : Int} {s : List UInt8} (h : ns.length < 100000) : LE (.str a s) ns ns.length (ns ++ [⟨16, 0, 0, 0, 0, 0, s, a⟩]) := ⟨0, fun F _ => addF_ok h _⟩
theorem LE.name {a : Int} {s : List UInt8} (h : ns.length < 100000) : LE (.name a s) ns ns.length (ns ++ [⟨17, 0, 0, 0, 0, 0, s, a⟩]) := ⟨0, fun F _ => addF_ok h _⟩
theorem LE.index {a : Int} (h1 : LE t ns x ns1) (h2 : LE u ns1 y ns2) (h : ns2.length < 100000) : LE (.index a t u) ns ns2.length (ns2 ++ [⟨18, x, y, 0, 0, 0, [], a⟩]) := by
  obtain ⟨F0, h1⟩ := h1.fc; obtain ⟨F1, h2⟩ := h2.fc
  exact ⟨max F0 F1, fun F hF => by show bind2 _ _ = _; rw [h1 F (by omega), bind2_some, h2 F (by omega)]; exact addF_ok h _⟩
theorem LE.bin {a k o : Int} (h1 : LE t ns x ns1) (h2 : LE u ns1 y ns2) (h : ns2.length < 100000) : LE (.bin a k o t u) ns ns2.length (ns2 ++ [⟨k, x, y, 0, 0, o, [], a⟩]) := by
  obtain ⟨F0, h1⟩ := h1.fc; obtain ⟨F1, h2⟩ := h2.fc
  exact ⟨max F0 F1, fun F hF => by show bind2 _ _ = _; rw [h1 F (by omega), bind2_some, h2 F (by omega)]; exact addF_ok h _⟩
theorem LE.un {a o : Int} (h1 : LE t ns x ns1) (h : ns1.length < 100000) : LE (.un a o t) ns ns1.length (ns1 ++ [⟨23, x, 0, 0, 0, o, [], a⟩]) := by
  obtain ⟨F0, h1⟩ := h1.fc
  exact ⟨F0, fun F hF => by show bind2 _ _ = _; rw [h1 F (by omega)]; exact addF_ok h _⟩
theorem LE.call {a : Int} (h1 : LE t ns x ns1) (h2 : LL l ns1 y ns2) (h : ns2.length < 100000) : LE (.call a t l) ns ns2.length (ns2 ++ [⟨19, x, y, 0, 0, 0, [], a⟩]) := by
  obtain ⟨F0, h1⟩ := h1.fc; obtain ⟨F1, h2⟩ := h2
  exact ⟨max F0 F1, fun F hF => by show bind2 _ _ = _; rw [h1 F (by omega), bind2_some, h2 F (by omega)]; exact addF_ok h _⟩
theorem LE.table {a : Int} (h1 : LL l ns x ns1) (h : ns1.length < 100000) : LE (.table a l) ns ns1.length (ns1 ++ [⟨21, x, 0, 0, 0, 0, [], a⟩]) := by
  obtain ⟨F0, h1⟩ := h1
  exact ⟨F0, fun F hF => by show bind2 _ _ = _; rw [h1 F (by omega)]; exact addF_ok h _⟩
theorem LE.func {a n : Int} (hn : 0 ≤ n ∧ n ≤ 2000000) (h1 : LL l ns x ns1) (h2 : LL l2 ns1 y ns2) (h : ns2.length < 100000) : LE (.func a n l l2) ns ns2.length (ns2 ++ [⟨20, x, y, 0, 0, n, [], a⟩]) := by
  obtain ⟨F0, h1⟩ := h1; obtain ⟨F1, h2⟩ := h2
  exact ⟨max F0 F1, fun F hF => by
    show bind2 _ _ = _; rw [h1 F (by omega), bind2_some, h2 F (by omega)]
    show addF ⟨20, x, y, 0, 0, IntKind.u64.wrap n, [], a⟩ ns2 = _
    rw [show IntKind.u64.wrap n = n by rw [IntKind.wrap_u64]; omega]
    exact addF_ok h _⟩
/-- An expression that may be left out. -/
def LO (t : T) (ns : List Nd) (x : Int) (ns' : List Nd) : Prop := ∃ F0, ∀ F, F0 ≤ F → optF (recF F) t ns = some (x, ns')
theorem LO.nil (ns : List Nd) : LO .nil ns 0 ns := ⟨0, fun _ _ => rfl⟩
theorem LE.o (h : LE t ns x ns1) (ht : t.isNil = false) : LO t ns x ns1 := by
  obtain ⟨F0, h⟩ := h.fc
  exact ⟨F0, fun F hF => by unfold optF; rw [if_neg (by rw [ht]; decide)]; exact h F hF⟩
theorem LS.loc1 {a : Int} {s : List UInt8} (h1 : LO t ns x ns1) (h : ns1.length < 100000) : LS (.loc [.name a s] t) ns ns1.length (ns1 ++ [⟨1, x, 0, 0, 0, 0, s, a⟩]) := by
  obtain ⟨F0, h1⟩ := h1
  exact ⟨F0, fun F hF => by simp only [stmtF]; rw [if_pos (by rfl), h1 F (by omega), bind2_some]; exact addF_ok h _⟩
theorem LS.loc2 {a b : Int} {s s2 : List UInt8} (h0 : LL [.name a s, .name b s2] ns x ns1) (h1 : LE t ns1 y ns2) (h : ns2.length < 100000) : LS (.loc [.name a s, .name b s2] t) ns ns2.length (ns2 ++ [⟨2, x, y, 0, 0, 0, [], a⟩]) := by
  obtain ⟨F0, h0⟩ := h0; obtain ⟨F1, h1⟩ := h1.fc
  exact ⟨max F0 F1, fun F hF => by
    simp only [stmtF]
    rw [if_neg (by simp)]
    rw [h0 F (by omega), bind2_some, h1 F (by omega)]; exact addF_ok h _⟩
theorem LS.locFn {a : Int} {s : List UInt8} (h1 : LE t ns x ns1) (h : ns1.length < 100000) : LS (.locFn a s t) ns ns1.length (ns1 ++ [⟨3, x, 0, 0, 0, 0, s, a⟩]) := by
  obtain ⟨F0, h1⟩ := h1.fc
  exact ⟨F0, fun F hF => by show bind2 _ _ = _; rw [h1 F (by omega)]; exact addF_ok h _⟩
theorem LS.asg {a : Int} (h1 : LE t ns x ns1) (h2 : LE u ns1 y ns2) (h : ns2.length < 100000) : LS (.asg a t u) ns ns2.length (ns2 ++ [⟨4, x, y, 0, 0, 0, [], a⟩]) := by
  obtain ⟨F0, h1⟩ := h1.fc; obtain ⟨F1, h2⟩ := h2.fc
  exact ⟨max F0 F1, fun F hF => by show bind2 _ _ = _; rw [h1 F (by omega), bind2_some, h2 F (by omega)]; exact addF_ok h _⟩
theorem LS.callS {a : Int} (h1 : LE (.call a t l) ns x ns1) (h : ns1.length < 100000) : LS (.callS (.call a t l)) ns ns1.length (ns1 ++ [⟨5, x, 0, 0, 0, 0, [], a⟩]) := by
  obtain ⟨F0, h1⟩ := h1.fc
  exact ⟨F0, fun F hF => by show bind2 _ _ = _; rw [h1 F (by omega)]; exact addF_ok h _⟩
theorem LS.ife {a : Int} (h1 : LE t ns x ns1) (h2 : LL l ns1 y ns2) (h3 : LL l2 ns2 z ns3) (h : ns3.length < 100000) : LS (.ife a t l l2) ns ns3.length (ns3 ++ [⟨6, x, y, z, 0, 0, [], a⟩]) := by
  obtain ⟨F0, h1⟩ := h1.fc; obtain ⟨F1, h2⟩ := h2; obtain ⟨F2, h3⟩ := h3
  exact ⟨max F0 (max F1 F2), fun F hF => by show bind2 _ _ = _; rw [h1 F (by omega), bind2_some, h2 F (by omega), bind2_some, h3 F (by omega)]; exact addF_ok h _⟩
theorem LS.whl {a : Int} (h1 : LE t ns x ns1) (h2 : LL l ns1 y ns2) (h : ns2.length < 100000) : LS (.whl a t l) ns ns2.length (ns2 ++ [⟨7, x, y, 0, 0, 0, [], a⟩]) := by
  obtain ⟨F0, h1⟩ := h1.fc; obtain ⟨F1, h2⟩ := h2
  exact ⟨max F0 F1, fun F hF => by show bind2 _ _ = _; rw [h1 F (by omega), bind2_some, h2 F (by omega)]; exact addF_ok h _⟩
theorem LS.forN {a : Int} {s : List UInt8} (h1 : LL l ns x ns1) (h2 : LL l2 ns1 y ns2) (h : ns2.length < 100000) : LS (.forN a s l l2) ns ns2.length (ns2 ++ [⟨8, x, y, 0, 0, 0, s, a⟩]) := by
  obtain ⟨F0, h1⟩ := h1; obtain ⟨F1, h2⟩ := h2
  exact ⟨max F0 F1, fun F hF => by show bind2 _ _ = _; rw [h1 F (by omega), bind2_some, h2 F (by omega)]; exact addF_ok h _⟩
theorem LS.forIn {a b : Int} {s s2 : List UInt8} (h0 : LL [.name a s, .name b s2] ns x ns1) (h1 : LE t ns1 y ns2) (h2 : LL l ns2 z ns3) (h : ns3.length < 100000) : LS (.forIn [.name a s, .name b s2] t l) ns ns3.length (ns3 ++ [⟨9, x, y, z, 0, 0, [], a⟩]) := by
  obtain ⟨F0, h0⟩ := h0; obtain ⟨F1, h1⟩ := h1.fc; obtain ⟨F2, h2⟩ := h2
  exact ⟨max F0 (max F1 F2), fun F hF => by show bind2 _ _ = _; rw [h0 F (by omega), bind2_some, h1 F (by omega), bind2_some, h2 F (by omega)]; exact addF_ok h _⟩
theorem LS.ret {a : Int} (h1 : LO t ns x ns1) (h2 : LO u ns1 y ns2) (h : ns2.length < 100000) : LS (.ret a t u) ns ns2.length (ns2 ++ [⟨10, x, y, 0, 0, 0, [], a⟩]) := by
  obtain ⟨F0, h1⟩ := h1; obtain ⟨F1, h2⟩ := h2
  exact ⟨max F0 F1, fun F hF => by show bind2 _ _ = _; rw [h1 F (by omega), bind2_some, h2 F (by omega)]; exact addF_ok h _⟩
theorem LS.brk {a : Int} (h : ns.length < 100000) : LS (.brk a) ns ns.length (ns ++ [⟨11, 0, 0, 0, 0, 0, [], a⟩]) := ⟨0, fun F _ => addF_ok h _⟩
end
end Go.Zm
