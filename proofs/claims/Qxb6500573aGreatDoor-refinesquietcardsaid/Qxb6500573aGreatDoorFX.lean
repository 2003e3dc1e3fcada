/- The externs of package math. -/
import Derived.Test.Qxb6500573aGreatDoorSlX
import Derived.Test.Qxb6500573aGreatDoorFacts
namespace Go.Sl
open Go Go.Proofs
theorem ext34 (m : Int) (w : World) : (callFunc 34 #[.int .u64 m]).run Tryz.prog w = .ok (.value (Fl m.toNat)) w := by
  rw [run_callFunc_extern (e := Extern.MathFloatBits.float64frombits) Tryz.func34 (by kernel_rfl) (by kernel_rfl) (by kernel_rfl) (by kernel_rfl)]; rfl
theorem ext185 (b : Nat) (w : World) : (callFunc 185 #[Fl b]).run Tryz.prog w = .ok (.value (.int .u64 b)) w := by
  rw [run_callFunc_extern (e := Extern.MathFloatBits.float64bits) Tryz.func185 (by kernel_rfl) (by kernel_rfl) (by kernel_rfl) (by kernel_rfl)]; rfl
def isNan : Ieee.Datum → Bool
  | .nan _ _ => true
  | _ => false
def floorF (b : Nat) : Nat := FloatKind.f64.encode ((FloatKind.f64.decode b).integral .down)
theorem ext57 (b : Nat) (h : isNan (FloatKind.f64.decode b) = false) (w : World) : (callFunc 57 #[Fl b]).run Tryz.prog w = .ok (.value (Fl (floorF b))) w := by
  rw [run_callFunc_extern (e := Extern.MathFloor.toIntegral "math.archFloor" .down) Tryz.func57 (by kernel_rfl) (by kernel_rfl) (by kernel_rfl) (by kernel_rfl)]
  have e : Extern.MathFloor.toIntegral "math.archFloor" .down #[Fl b] = (match FloatKind.f64.decode b with
    | .nan s t => if FloatKind.f64.format.quiet t = t then pure (.float .f64 b) else do
      let kept ← choose (.extern "math.Floor,Ceil,Trunc,RoundToEven.signallingNaN kept" 2)
      pure (.float .f64 (if kept == 1 then b else FloatKind.f64.encode (.nan s (FloatKind.f64.format.quiet t))))
    | d => pure (.float .f64 (FloatKind.f64.encode (d.integral .down)))) := rfl
  rw [e]
  unfold floorF
  cases hd : FloatKind.f64.decode b with
  | nan s t => rw [hd] at h; cases h
  | infinity s => rfl
  | number s m e => rfl
end Go.Sl
namespace Go.Sl
open Go Go.Proofs
theorem ext34n (m : Nat) (w : World) : (callFunc 34 #[.int .u64 (m : Int)]).run Tryz.prog w = .ok (.value (Fl m)) w := ext34 m w
end Go.Sl
