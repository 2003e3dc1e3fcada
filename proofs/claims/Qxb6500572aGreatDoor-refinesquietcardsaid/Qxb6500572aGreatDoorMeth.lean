/- Which function a method call on this program's interface values comes to. -/
import Derived.Test.Qxb6500572aGreatDoorFacts
import Derived.Test.Qxb6500572aGreatDoorSlP
namespace Go.Sl
open Go Go.Proofs
/-- The name of a type's first method. -/
def firstName (t : TypeInfo) : String := (t.methods.toList.map (fun x => x.name)).headD ""
theorem meth32 (v : Value) (w : World) : (method (320 + Made.depth) 252 v (firstName Tryz.t252)).run Tryz.prog w = .ok (206, v) w := by
  have h : Tryz.prog.info? 252 = some Tryz.t252 := by kernel_rfl
  obtain ⟨m, h1, h2, h3⟩ : ∃ m, Array.find? (fun x => x.name == (firstName Tryz.t252)) Tryz.t252.methods = some m ∧ m.path = #[] ∧ m.func = some (206, false) := ⟨_, rfl, rfl, rfl⟩
  rw [show 320 + Made.depth = (319 + Made.depth) + 1 from by omega]
  simp [method, typeInfo, h, h1, h2, h3, follow, receiverAt, run_underlying Tryz.underlying252, Place.get]
theorem meth64 (v : Value) (w : World) : (method (320 + Made.depth) 253 v (firstName Tryz.t252)).run Tryz.prog w = .ok (207, v) w := by
  have h : Tryz.prog.info? 253 = some Tryz.t253 := by kernel_rfl
  obtain ⟨m, h1, h2, h3⟩ : ∃ m, Array.find? (fun x => x.name == (firstName Tryz.t252)) Tryz.t253.methods = some m ∧ m.path = #[] ∧ m.func = some (207, false) := ⟨_, rfl, rfl, rfl⟩
  rw [show 320 + Made.depth = (319 + Made.depth) + 1 from by omega]
  simp [method, typeInfo, h, h1, h2, h3, follow, receiverAt, run_underlying Tryz.underlying253, Place.get]
theorem ntypes : Tryz.prog.types.size = 320 := by kernel_rfl
theorem kind32 (v : Value) (av : Array Value) (w : World) : (callMethod (.iface 252 v) (firstName Tryz.t252) av).run Tryz.prog w = .ok (.enter 206 (#[v] ++ av)) w := by
  simp only [callMethod, Sem.run_bind, run_program, Result.andThen_ok, ntypes, meth32, Tryz.call206]
theorem kind64 (v : Value) (av : Array Value) (w : World) : (callMethod (.iface 253 v) (firstName Tryz.t252) av).run Tryz.prog w = .ok (.enter 207 (#[v] ++ av)) w := by
  simp only [callMethod, Sem.run_bind, run_program, Result.andThen_ok, ntypes, meth64, Tryz.call207]
end Go.Sl
