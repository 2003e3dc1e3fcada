/- Plain: a sentence's program with its number left open. -/
import Derived.Test.Qxb6500573aGreatDoorBN
import Derived.Test.Qxb6500573aGreatDoorBJ
namespace Go.Wl
open Go Go.Sl Go.Proofs
set_option linter.unusedVariables false
/-- What of a function's state comes into the image. -/
structure Rw where
  np : Int
  ns : Int
  ups : List (Int × Int)
  ks : List V
  code : List In
def rw (f : Fs) : Rw := ⟨f.nparams, f.nslots, f.ups, f.consts, f.code⟩
def pgAddR (g : Pg) (f : Rw) : Pg := ⟨g.protos ++ [⟨f.np, f.ns, g.descs.length, f.ups.length, g.consts.length, f.ks.length, g.code.length, f.code.length⟩], g.descs ++ f.ups, g.consts ++ f.ks, g.code ++ f.code⟩
def pgR (l : List Rw) : Pg := l.foldl pgAddR ⟨[], [], [], []⟩
theorem pgOf_R (l : List Fs) : pgOf l = pgR (l.map rw) := by
  unfold pgOf pgR
  rw [List.foldl_map]
  rfl
def vPut (x : Int) (v : V) : V := if v.t = 2 ∧ v.n = -1 then { v with n := x } else v
def rPut (x : Int) (f : Rw) : Rw := { f with ks := f.ks.map (vPut x) }
def L0 : Lim := ⟨1000, 40, 60, 400⟩
/-- How a run ends, as it is seen. -/
def seen (z : An × Int × VM) : An × Int × List UInt8 × Int × Nat := (z.1, z.2.1, z.2.2.vs.out, z.2.2.vs.fuel, z.2.2.vs.tabs.length)
def endR (x : HR (An × Int × VM)) : Option ((An × Int × List UInt8 × Int × Nat) × HQ × List Ob) := x.map fun z => (seen z.1, z.2.1, z.2.2)
end Go.Wl
