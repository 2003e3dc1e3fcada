/- Texts of programs. -/
import Derived.Test.Qxb6500572aGreatDoorPProg
namespace Go.Wl
open Go Go.Sl
def showFlat (c : Flat) : List UInt8 := numS c.op ++ numS c.imm ++ numS c.keep ++ numS c.cut
def showFun (u : Fun) : List UInt8 := [70, 32] ++ u.params ++ [62] ++ u.results ++ [43] ++ u.locals ++ [32] ++ u.code.flatMap showFlat
def showProg (P : Prog) : List UInt8 := numS P.nimp ++ numS P.min ++ numS P.max ++ P.funs.flatMap showFun
def i64ok (n : Int) : Prop := -9223372036854775808 ≤ n ∧ n ≤ 9223372036854775807
/-- How large a program may be. -/
structure ProgB (P : Prog) : Prop where
  a : i64ok P.nimp ∧ i64ok P.min ∧ i64ok P.max
  n : P.funs.length ≤ 100
  f : ∀ u, u ∈ P.funs → u.params.length ≤ 100 ∧ u.results.length ≤ 100 ∧ u.locals.length ≤ 100 ∧ u.code.length ≤ 1000 ∧ ∀ c, c ∈ u.code → i64ok c.op ∧ i64ok c.imm ∧ i64ok c.keep ∧ i64ok c.cut
theorem showFlat_len (c : Flat) : (showFlat c).length ≤ 88 := by
  have := numS_len c.op; have := numS_len c.imm; have := numS_len c.keep; have := numS_len c.cut
  simp [showFlat]; omega
theorem flat_le {α : Type} {f : α → List UInt8} {k : Nat} : ∀ {l : List α}, (∀ x, x ∈ l → (f x).length ≤ k) → (l.flatMap f).length ≤ l.length * k
  | [], _ => by simp
  | x :: l, h => by
    have := flat_le (l := l) (fun y hy => h y (List.mem_cons_of_mem _ hy))
    have := h x List.mem_cons_self
    simp only [List.flatMap_cons, List.length_append, List.length_cons]
    rw [Nat.add_mul]; omega
theorem showFun_len {u : Fun} (h : u.params.length ≤ 100 ∧ u.results.length ≤ 100 ∧ u.locals.length ≤ 100 ∧ u.code.length ≤ 1000) : (showFun u).length ≤ 90000 := by
  have := flat_le (l := u.code) (f := showFlat) (k := 88) (fun x _ => showFlat_len x)
  simp only [showFun, List.length_append, List.length_cons, List.length_nil]; omega
end Go.Wl
