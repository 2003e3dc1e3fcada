/- Keeps, with no premise of plain kind left. -/
import Derived.Test.Qxb6500572aGreatDoorPValM
namespace Go.Wl
open Go Go.Sl
def plainV : Plain where
  TOk := TOk
  Gd := Gd
  mu := fun _ _ o _ m => mu o m
  load := load_ok
  pb := plain_pb
  sg := plain_sg
  pre := fun _ _ _ _ _ hT hO h => h.pre hT hO
  step := fun _ _ _ _ _ _ hT hO h hs => Gd.step hT hO h hs
  start := fun _ _ _ _ hT hO hA h0 => Gd.start hT hO hA h0
  fin := fun _ _ _ _ _ hT hO _ hc => Gd.fin hT hO hc
end Go.Wl
namespace Go.Sl
open Go Go.Wl Go.Proofs
set_option linter.unusedVariables false
theorem keeps_true (sa : Option Addr) (sc : Nat) (script : List Op1) (gs : Seg) (hso : ScriptAt sa script gs) (hop : ∀ o, o ∈ script → OpOk o) (hgs : isG gs) :
    Spec Tryz.prog 5 [.slice sa script.length sc] [gs] (Ret fun v H => v = .bool true ∧ H = [gs]) := law_Keeps plainV sa sc script gs hso hop hgs
end Go.Sl
