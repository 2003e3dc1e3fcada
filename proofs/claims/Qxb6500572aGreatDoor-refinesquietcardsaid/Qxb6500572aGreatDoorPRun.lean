/- The interpreter's state: plain, and as it lies in the heap. -/
import Derived.Test.Qxb6500572aGreatDoorPProg
namespace Go.Wl
open Go Go.Sl
set_option linter.unusedVariables false

/-- A value on the stack: 'w': is it wide (an i64)? -/
structure W where
  w : Bool
  n : Int
def W.v (x : W) : Value := if x.w then .iface 253 (.int .i64 x.n) else .iface 252 (.int .i32 x.n)
def W.t (x : W) : UInt8 := if x.w then 108 else 105
/-- 'word'. -/
def word (t : UInt8) (n : Int) : W := if t = 105 then ⟨false, IntKind.i32.wrap n⟩ else ⟨true, n⟩
structure Fr where
  f : Int
  pc : Int
  base : Nat
  floor : Nat
  res : List UInt8
structure Inst where
  st : List W
  fr : List Fr
  used : Int
  high : Int
def frV (x : Fr) : List Value := [I x.f, I x.pc, I x.base, I x.floor, S x.res]
theorem frV_len (x : Fr) : (frV x).length = 5 := rfl
def isInst (x : Nat) (pv kv : Value) (fa : Option Addr) (I0 : Inst) (s : Seg) : Prop :=
  ∃ sa sc fc ss sf, s = List.flatten [blk x 93 [pv, kv, .slice sa I0.st.length sc, .slice fa I0.fr.length fc, I I0.used, I I0.high], ss, sf] ∧
    Arr 209 1 sa I0.st.length sc (I0.st.map W.v) ss ∧ Arr 257 5 fa I0.fr.length fc (I0.fr.flatMap frV) sf
def Inst.top (i : Inst) : Fr := i.fr.getD (i.fr.length - 1) ⟨0, 0, 0, 0, []⟩
def Inst.setTop (i : Inst) (f : Fr) : Inst := { i with fr := i.fr.set (i.fr.length - 1) f }
end Go.Wl
