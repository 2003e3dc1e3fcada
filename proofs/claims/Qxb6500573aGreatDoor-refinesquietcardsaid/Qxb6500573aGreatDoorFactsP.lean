/- Methods and assertions of the tree (made by program). -/
import Derived.Test.Qxb6500573aGreatDoorSlTr
namespace Go.Sl
open Go Go.Wl Go.Proofs
theorem ntypes : Tryz.prog.types.size = 456 := by kernel_rfl
theorem miss1 {want : Array (String × TypeId)} {got : Array Method} {s : String} (h : (want.toList.filter fun (x : String × TypeId) => match x with | (name, sig) => !got.any fun m => m.name == name && m.sig == sig).map (·.1) = [s]) : ∃ m, Instr.missingMethod want got = some m := by
  unfold Instr.missingMethod
  simp only [h, List.partition_eq_filter_filter]
  by_cases hc : s.contains '.' = true
  · have e1 : List.filter (fun x : String => x.contains '.') [s] = [s] := by rw [List.filter_cons, if_pos hc]; rfl
    have e2 : List.filter (not ∘ fun x : String => x.contains '.') [s] = [] := by rw [List.filter_cons, if_neg (by simpa using hc)]; rfl
    rw [e1, e2]; exact ⟨_, rfl⟩
  · have e1 : List.filter (fun x : String => x.contains '.') [s] = [] := by rw [List.filter_cons, if_neg hc]; rfl
    have e2 : List.filter (not ∘ fun x : String => x.contains '.') [s] = [s] := by rw [List.filter_cons, if_pos (by simpa using hc)]; rfl
    rw [e1, e2]; exact ⟨_, rfl⟩
theorem methPos390 (a : Option Addr) (w : World) : (method (456 + Made.depth) 390 (.pointer a) "Pos").run Tryz.prog w = .ok (363, .pointer a) w := by
  have h : Tryz.prog.info? 390 = some Tryz.t390 := by kernel_rfl
  obtain ⟨m, h1, h2, h3⟩ : ∃ m, Array.find? (fun x => x.name == "Pos") Tryz.t390.methods = some m ∧ m.path = #[] ∧ m.func = some (363, true) := ⟨_, rfl, rfl, rfl⟩
  rw [show 456 + Made.depth = (455 + Made.depth) + 1 from by omega]
  simp [method, typeInfo, h, h1, h2, h3, follow, receiverAt, run_underlying Tryz.underlying390, Place.get]
theorem posM390 (a : Option Addr) (av : Array Value) (w : World) : (callMethod (.iface 390 (.pointer a)) "Pos" av).run Tryz.prog w = .ok (.enter 363 (#[.pointer a] ++ av)) w := by
  simp only [callMethod, Sem.run_bind, run_program, Result.andThen_ok, ntypes, methPos390, Tryz.call363]
theorem methPos393 (a : Option Addr) (w : World) : (method (456 + Made.depth) 393 (.pointer a) "Pos").run Tryz.prog w = .ok (365, .pointer a) w := by
  have h : Tryz.prog.info? 393 = some Tryz.t393 := by kernel_rfl
  obtain ⟨m, h1, h2, h3⟩ : ∃ m, Array.find? (fun x => x.name == "Pos") Tryz.t393.methods = some m ∧ m.path = #[] ∧ m.func = some (365, true) := ⟨_, rfl, rfl, rfl⟩
  rw [show 456 + Made.depth = (455 + Made.depth) + 1 from by omega]
  simp [method, typeInfo, h, h1, h2, h3, follow, receiverAt, run_underlying Tryz.underlying393, Place.get]
theorem posM393 (a : Option Addr) (av : Array Value) (w : World) : (callMethod (.iface 393 (.pointer a)) "Pos" av).run Tryz.prog w = .ok (.enter 365 (#[.pointer a] ++ av)) w := by
  simp only [callMethod, Sem.run_bind, run_program, Result.andThen_ok, ntypes, methPos393, Tryz.call365]
theorem methPos383 (a : Option Addr) (w : World) : (method (456 + Made.depth) 383 (.pointer a) "Pos").run Tryz.prog w = .ok (361, .pointer a) w := by
  have h : Tryz.prog.info? 383 = some Tryz.t383 := by kernel_rfl
  obtain ⟨m, h1, h2, h3⟩ : ∃ m, Array.find? (fun x => x.name == "Pos") Tryz.t383.methods = some m ∧ m.path = #[] ∧ m.func = some (361, true) := ⟨_, rfl, rfl, rfl⟩
  rw [show 456 + Made.depth = (455 + Made.depth) + 1 from by omega]
  simp [method, typeInfo, h, h1, h2, h3, follow, receiverAt, run_underlying Tryz.underlying383, Place.get]
theorem posM383 (a : Option Addr) (av : Array Value) (w : World) : (callMethod (.iface 383 (.pointer a)) "Pos" av).run Tryz.prog w = .ok (.enter 361 (#[.pointer a] ++ av)) w := by
  simp only [callMethod, Sem.run_bind, run_program, Result.andThen_ok, ntypes, methPos383, Tryz.call361]
theorem methPos307 (a : Option Addr) (w : World) : (method (456 + Made.depth) 307 (.pointer a) "Pos").run Tryz.prog w = .ok (341, .pointer a) w := by
  have h : Tryz.prog.info? 307 = some Tryz.t307 := by kernel_rfl
  obtain ⟨m, h1, h2, h3⟩ : ∃ m, Array.find? (fun x => x.name == "Pos") Tryz.t307.methods = some m ∧ m.path = #[] ∧ m.func = some (341, true) := ⟨_, rfl, rfl, rfl⟩
  rw [show 456 + Made.depth = (455 + Made.depth) + 1 from by omega]
  simp [method, typeInfo, h, h1, h2, h3, follow, receiverAt, run_underlying Tryz.underlying307, Place.get]
theorem posM307 (a : Option Addr) (av : Array Value) (w : World) : (callMethod (.iface 307 (.pointer a)) "Pos" av).run Tryz.prog w = .ok (.enter 341 (#[.pointer a] ++ av)) w := by
  simp only [callMethod, Sem.run_bind, run_program, Result.andThen_ok, ntypes, methPos307, Tryz.call341]
theorem methPos308 (a : Option Addr) (w : World) : (method (456 + Made.depth) 308 (.pointer a) "Pos").run Tryz.prog w = .ok (343, .pointer a) w := by
  have h : Tryz.prog.info? 308 = some Tryz.t308 := by kernel_rfl
  obtain ⟨m, h1, h2, h3⟩ : ∃ m, Array.find? (fun x => x.name == "Pos") Tryz.t308.methods = some m ∧ m.path = #[] ∧ m.func = some (343, true) := ⟨_, rfl, rfl, rfl⟩
  rw [show 456 + Made.depth = (455 + Made.depth) + 1 from by omega]
  simp [method, typeInfo, h, h1, h2, h3, follow, receiverAt, run_underlying Tryz.underlying308, Place.get]
theorem posM308 (a : Option Addr) (av : Array Value) (w : World) : (callMethod (.iface 308 (.pointer a)) "Pos" av).run Tryz.prog w = .ok (.enter 343 (#[.pointer a] ++ av)) w := by
  simp only [callMethod, Sem.run_bind, run_program, Result.andThen_ok, ntypes, methPos308, Tryz.call343]
theorem methPos302 (a : Option Addr) (w : World) : (method (456 + Made.depth) 302 (.pointer a) "Pos").run Tryz.prog w = .ok (337, .pointer a) w := by
  have h : Tryz.prog.info? 302 = some Tryz.t302 := by kernel_rfl
  obtain ⟨m, h1, h2, h3⟩ : ∃ m, Array.find? (fun x => x.name == "Pos") Tryz.t302.methods = some m ∧ m.path = #[] ∧ m.func = some (337, true) := ⟨_, rfl, rfl, rfl⟩
  rw [show 456 + Made.depth = (455 + Made.depth) + 1 from by omega]
  simp [method, typeInfo, h, h1, h2, h3, follow, receiverAt, run_underlying Tryz.underlying302, Place.get]
theorem posM302 (a : Option Addr) (av : Array Value) (w : World) : (callMethod (.iface 302 (.pointer a)) "Pos" av).run Tryz.prog w = .ok (.enter 337 (#[.pointer a] ++ av)) w := by
  simp only [callMethod, Sem.run_bind, run_program, Result.andThen_ok, ntypes, methPos302, Tryz.call337]
theorem methPos355 (a : Option Addr) (w : World) : (method (456 + Made.depth) 355 (.pointer a) "Pos").run Tryz.prog w = .ok (347, .pointer a) w := by
  have h : Tryz.prog.info? 355 = some Tryz.t355 := by kernel_rfl
  obtain ⟨m, h1, h2, h3⟩ : ∃ m, Array.find? (fun x => x.name == "Pos") Tryz.t355.methods = some m ∧ m.path = #[] ∧ m.func = some (347, true) := ⟨_, rfl, rfl, rfl⟩
  rw [show 456 + Made.depth = (455 + Made.depth) + 1 from by omega]
  simp [method, typeInfo, h, h1, h2, h3, follow, receiverAt, run_underlying Tryz.underlying355, Place.get]
theorem posM355 (a : Option Addr) (av : Array Value) (w : World) : (callMethod (.iface 355 (.pointer a)) "Pos" av).run Tryz.prog w = .ok (.enter 347 (#[.pointer a] ++ av)) w := by
  simp only [callMethod, Sem.run_bind, run_program, Result.andThen_ok, ntypes, methPos355, Tryz.call347]
theorem methPos398 (a : Option Addr) (w : World) : (method (456 + Made.depth) 398 (.pointer a) "Pos").run Tryz.prog w = .ok (367, .pointer a) w := by
  have h : Tryz.prog.info? 398 = some Tryz.t398 := by kernel_rfl
  obtain ⟨m, h1, h2, h3⟩ : ∃ m, Array.find? (fun x => x.name == "Pos") Tryz.t398.methods = some m ∧ m.path = #[] ∧ m.func = some (367, true) := ⟨_, rfl, rfl, rfl⟩
  rw [show 456 + Made.depth = (455 + Made.depth) + 1 from by omega]
  simp [method, typeInfo, h, h1, h2, h3, follow, receiverAt, run_underlying Tryz.underlying398, Place.get]
theorem posM398 (a : Option Addr) (av : Array Value) (w : World) : (callMethod (.iface 398 (.pointer a)) "Pos" av).run Tryz.prog w = .ok (.enter 367 (#[.pointer a] ++ av)) w := by
  simp only [callMethod, Sem.run_bind, run_program, Result.andThen_ok, ntypes, methPos398, Tryz.call367]
theorem methPos378 (a : Option Addr) (w : World) : (method (456 + Made.depth) 378 (.pointer a) "Pos").run Tryz.prog w = .ok (359, .pointer a) w := by
  have h : Tryz.prog.info? 378 = some Tryz.t378 := by kernel_rfl
  obtain ⟨m, h1, h2, h3⟩ : ∃ m, Array.find? (fun x => x.name == "Pos") Tryz.t378.methods = some m ∧ m.path = #[] ∧ m.func = some (359, true) := ⟨_, rfl, rfl, rfl⟩
  rw [show 456 + Made.depth = (455 + Made.depth) + 1 from by omega]
  simp [method, typeInfo, h, h1, h2, h3, follow, receiverAt, run_underlying Tryz.underlying378, Place.get]
theorem posM378 (a : Option Addr) (av : Array Value) (w : World) : (callMethod (.iface 378 (.pointer a)) "Pos" av).run Tryz.prog w = .ok (.enter 359 (#[.pointer a] ++ av)) w := by
  simp only [callMethod, Sem.run_bind, run_program, Result.andThen_ok, ntypes, methPos378, Tryz.call359]
theorem methPos401 (a : Option Addr) (w : World) : (method (456 + Made.depth) 401 (.pointer a) "Pos").run Tryz.prog w = .ok (369, .pointer a) w := by
  have h : Tryz.prog.info? 401 = some Tryz.t401 := by kernel_rfl
  obtain ⟨m, h1, h2, h3⟩ : ∃ m, Array.find? (fun x => x.name == "Pos") Tryz.t401.methods = some m ∧ m.path = #[] ∧ m.func = some (369, true) := ⟨_, rfl, rfl, rfl⟩
  rw [show 456 + Made.depth = (455 + Made.depth) + 1 from by omega]
  simp [method, typeInfo, h, h1, h2, h3, follow, receiverAt, run_underlying Tryz.underlying401, Place.get]
theorem posM401 (a : Option Addr) (av : Array Value) (w : World) : (callMethod (.iface 401 (.pointer a)) "Pos" av).run Tryz.prog w = .ok (.enter 369 (#[.pointer a] ++ av)) w := by
  simp only [callMethod, Sem.run_bind, run_program, Result.andThen_ok, ntypes, methPos401, Tryz.call369]
theorem methPos363 (a : Option Addr) (w : World) : (method (456 + Made.depth) 363 (.pointer a) "Pos").run Tryz.prog w = .ok (351, .pointer a) w := by
  have h : Tryz.prog.info? 363 = some Tryz.t363 := by kernel_rfl
  obtain ⟨m, h1, h2, h3⟩ : ∃ m, Array.find? (fun x => x.name == "Pos") Tryz.t363.methods = some m ∧ m.path = #[] ∧ m.func = some (351, true) := ⟨_, rfl, rfl, rfl⟩
  rw [show 456 + Made.depth = (455 + Made.depth) + 1 from by omega]
  simp [method, typeInfo, h, h1, h2, h3, follow, receiverAt, run_underlying Tryz.underlying363, Place.get]
theorem posM363 (a : Option Addr) (av : Array Value) (w : World) : (callMethod (.iface 363 (.pointer a)) "Pos" av).run Tryz.prog w = .ok (.enter 351 (#[.pointer a] ++ av)) w := by
  simp only [callMethod, Sem.run_bind, run_program, Result.andThen_ok, ntypes, methPos363, Tryz.call351]
theorem methPos359 (a : Option Addr) (w : World) : (method (456 + Made.depth) 359 (.pointer a) "Pos").run Tryz.prog w = .ok (349, .pointer a) w := by
  have h : Tryz.prog.info? 359 = some Tryz.t359 := by kernel_rfl
  obtain ⟨m, h1, h2, h3⟩ : ∃ m, Array.find? (fun x => x.name == "Pos") Tryz.t359.methods = some m ∧ m.path = #[] ∧ m.func = some (349, true) := ⟨_, rfl, rfl, rfl⟩
  rw [show 456 + Made.depth = (455 + Made.depth) + 1 from by omega]
  simp [method, typeInfo, h, h1, h2, h3, follow, receiverAt, run_underlying Tryz.underlying359, Place.get]
theorem posM359 (a : Option Addr) (av : Array Value) (w : World) : (callMethod (.iface 359 (.pointer a)) "Pos" av).run Tryz.prog w = .ok (.enter 349 (#[.pointer a] ++ av)) w := by
  simp only [callMethod, Sem.run_bind, run_program, Result.andThen_ok, ntypes, methPos359, Tryz.call349]
theorem methPos309 (a : Option Addr) (w : World) : (method (456 + Made.depth) 309 (.pointer a) "Pos").run Tryz.prog w = .ok (345, .pointer a) w := by
  have h : Tryz.prog.info? 309 = some Tryz.t309 := by kernel_rfl
  obtain ⟨m, h1, h2, h3⟩ : ∃ m, Array.find? (fun x => x.name == "Pos") Tryz.t309.methods = some m ∧ m.path = #[] ∧ m.func = some (345, true) := ⟨_, rfl, rfl, rfl⟩
  rw [show 456 + Made.depth = (455 + Made.depth) + 1 from by omega]
  simp [method, typeInfo, h, h1, h2, h3, follow, receiverAt, run_underlying Tryz.underlying309, Place.get]
theorem posM309 (a : Option Addr) (av : Array Value) (w : World) : (callMethod (.iface 309 (.pointer a)) "Pos" av).run Tryz.prog w = .ok (.enter 345 (#[.pointer a] ++ av)) w := by
  simp only [callMethod, Sem.run_bind, run_program, Result.andThen_ok, ntypes, methPos309, Tryz.call345]
theorem methPos304 (a : Option Addr) (w : World) : (method (456 + Made.depth) 304 (.pointer a) "Pos").run Tryz.prog w = .ok (339, .pointer a) w := by
  have h : Tryz.prog.info? 304 = some Tryz.t304 := by kernel_rfl
  obtain ⟨m, h1, h2, h3⟩ : ∃ m, Array.find? (fun x => x.name == "Pos") Tryz.t304.methods = some m ∧ m.path = #[] ∧ m.func = some (339, true) := ⟨_, rfl, rfl, rfl⟩
  rw [show 456 + Made.depth = (455 + Made.depth) + 1 from by omega]
  simp [method, typeInfo, h, h1, h2, h3, follow, receiverAt, run_underlying Tryz.underlying304, Place.get]
theorem posM304 (a : Option Addr) (av : Array Value) (w : World) : (callMethod (.iface 304 (.pointer a)) "Pos" av).run Tryz.prog w = .ok (.enter 339 (#[.pointer a] ++ av)) w := by
  simp only [callMethod, Sem.run_bind, run_program, Result.andThen_ok, ntypes, methPos304, Tryz.call339]
theorem methPos366 (a : Option Addr) (w : World) : (method (456 + Made.depth) 366 (.pointer a) "Pos").run Tryz.prog w = .ok (353, .pointer a) w := by
  have h : Tryz.prog.info? 366 = some Tryz.t366 := by kernel_rfl
  obtain ⟨m, h1, h2, h3⟩ : ∃ m, Array.find? (fun x => x.name == "Pos") Tryz.t366.methods = some m ∧ m.path = #[] ∧ m.func = some (353, true) := ⟨_, rfl, rfl, rfl⟩
  rw [show 456 + Made.depth = (455 + Made.depth) + 1 from by omega]
  simp [method, typeInfo, h, h1, h2, h3, follow, receiverAt, run_underlying Tryz.underlying366, Place.get]
theorem posM366 (a : Option Addr) (av : Array Value) (w : World) : (callMethod (.iface 366 (.pointer a)) "Pos" av).run Tryz.prog w = .ok (.enter 353 (#[.pointer a] ++ av)) w := by
  simp only [callMethod, Sem.run_bind, run_program, Result.andThen_ok, ntypes, methPos366, Tryz.call353]
theorem methPos295 (a : Option Addr) (w : World) : (method (456 + Made.depth) 295 (.pointer a) "Pos").run Tryz.prog w = .ok (335, .pointer a) w := by
  have h : Tryz.prog.info? 295 = some Tryz.t295 := by kernel_rfl
  obtain ⟨m, h1, h2, h3⟩ : ∃ m, Array.find? (fun x => x.name == "Pos") Tryz.t295.methods = some m ∧ m.path = #[] ∧ m.func = some (335, true) := ⟨_, rfl, rfl, rfl⟩
  rw [show 456 + Made.depth = (455 + Made.depth) + 1 from by omega]
  simp [method, typeInfo, h, h1, h2, h3, follow, receiverAt, run_underlying Tryz.underlying295, Place.get]
theorem posM295 (a : Option Addr) (av : Array Value) (w : World) : (callMethod (.iface 295 (.pointer a)) "Pos" av).run Tryz.prog w = .ok (.enter 335 (#[.pointer a] ++ av)) w := by
  simp only [callMethod, Sem.run_bind, run_program, Result.andThen_ok, ntypes, methPos295, Tryz.call335]
theorem methPos372 (a : Option Addr) (w : World) : (method (456 + Made.depth) 372 (.pointer a) "Pos").run Tryz.prog w = .ok (357, .pointer a) w := by
  have h : Tryz.prog.info? 372 = some Tryz.t372 := by kernel_rfl
  obtain ⟨m, h1, h2, h3⟩ : ∃ m, Array.find? (fun x => x.name == "Pos") Tryz.t372.methods = some m ∧ m.path = #[] ∧ m.func = some (357, true) := ⟨_, rfl, rfl, rfl⟩
  rw [show 456 + Made.depth = (455 + Made.depth) + 1 from by omega]
  simp [method, typeInfo, h, h1, h2, h3, follow, receiverAt, run_underlying Tryz.underlying372, Place.get]
theorem posM372 (a : Option Addr) (av : Array Value) (w : World) : (callMethod (.iface 372 (.pointer a)) "Pos" av).run Tryz.prog w = .ok (.enter 357 (#[.pointer a] ++ av)) w := by
  simp only [callMethod, Sem.run_bind, run_program, Result.andThen_ok, ntypes, methPos372, Tryz.call357]
theorem methPos369 (a : Option Addr) (w : World) : (method (456 + Made.depth) 369 (.pointer a) "Pos").run Tryz.prog w = .ok (355, .pointer a) w := by
  have h : Tryz.prog.info? 369 = some Tryz.t369 := by kernel_rfl
  obtain ⟨m, h1, h2, h3⟩ : ∃ m, Array.find? (fun x => x.name == "Pos") Tryz.t369.methods = some m ∧ m.path = #[] ∧ m.func = some (355, true) := ⟨_, rfl, rfl, rfl⟩
  rw [show 456 + Made.depth = (455 + Made.depth) + 1 from by omega]
  simp [method, typeInfo, h, h1, h2, h3, follow, receiverAt, run_underlying Tryz.underlying369, Place.get]
theorem posM369 (a : Option Addr) (av : Array Value) (w : World) : (callMethod (.iface 369 (.pointer a)) "Pos" av).run Tryz.prog w = .ok (.enter 355 (#[.pointer a] ++ av)) w := by
  simp only [callMethod, Sem.run_bind, run_program, Result.andThen_ok, ntypes, methPos369, Tryz.call355]
theorem methPos233 (a : Option Addr) (w : World) : (method (456 + Made.depth) 233 (.pointer a) "Pos").run Tryz.prog w = .ok (331, .pointer a) w := by
  have h : Tryz.prog.info? 233 = some Tryz.t233 := by kernel_rfl
  obtain ⟨m, h1, h2, h3⟩ : ∃ m, Array.find? (fun x => x.name == "Pos") Tryz.t233.methods = some m ∧ m.path = #[] ∧ m.func = some (331, true) := ⟨_, rfl, rfl, rfl⟩
  rw [show 456 + Made.depth = (455 + Made.depth) + 1 from by omega]
  simp [method, typeInfo, h, h1, h2, h3, follow, receiverAt, run_underlying Tryz.underlying233, Place.get]
theorem posM233 (a : Option Addr) (av : Array Value) (w : World) : (callMethod (.iface 233 (.pointer a)) "Pos" av).run Tryz.prog w = .ok (.enter 331 (#[.pointer a] ++ av)) w := by
  simp only [callMethod, Sem.run_bind, run_program, Result.andThen_ok, ntypes, methPos233, Tryz.call331]
theorem methPos234 (a : Option Addr) (w : World) : (method (456 + Made.depth) 234 (.pointer a) "Pos").run Tryz.prog w = .ok (333, .pointer a) w := by
  have h : Tryz.prog.info? 234 = some Tryz.t234 := by kernel_rfl
  obtain ⟨m, h1, h2, h3⟩ : ∃ m, Array.find? (fun x => x.name == "Pos") Tryz.t234.methods = some m ∧ m.path = #[] ∧ m.func = some (333, true) := ⟨_, rfl, rfl, rfl⟩
  rw [show 456 + Made.depth = (455 + Made.depth) + 1 from by omega]
  simp [method, typeInfo, h, h1, h2, h3, follow, receiverAt, run_underlying Tryz.underlying234, Place.get]
theorem posM234 (a : Option Addr) (av : Array Value) (w : World) : (callMethod (.iface 234 (.pointer a)) "Pos" av).run Tryz.prog w = .ok (.enter 333 (#[.pointer a] ++ av)) w := by
  simp only [callMethod, Sem.run_bind, run_program, Result.andThen_ok, ntypes, methPos234, Tryz.call333]
theorem asSt363 (v : Value) (w : World) : (Instr.typeAssert (.iface 363 v) 236 231 true).run Tryz.prog w = .ok (.tuple #[.iface 363 v, .bool true]) w := by kernel_rfl
theorem asSt359 (v : Value) (w : World) : (Instr.typeAssert (.iface 359 v) 236 231 true).run Tryz.prog w = .ok (.tuple #[.iface 359 v, .bool true]) w := by kernel_rfl
theorem asSt309 (v : Value) (w : World) : (Instr.typeAssert (.iface 309 v) 236 231 true).run Tryz.prog w = .ok (.tuple #[.iface 309 v, .bool true]) w := by kernel_rfl
theorem asSt304 (v : Value) (w : World) : (Instr.typeAssert (.iface 304 v) 236 231 true).run Tryz.prog w = .ok (.tuple #[.iface 304 v, .bool true]) w := by kernel_rfl
theorem asSt366 (v : Value) (w : World) : (Instr.typeAssert (.iface 366 v) 236 231 true).run Tryz.prog w = .ok (.tuple #[.iface 366 v, .bool true]) w := by kernel_rfl
theorem asSt295 (v : Value) (w : World) : (Instr.typeAssert (.iface 295 v) 236 231 true).run Tryz.prog w = .ok (.tuple #[.iface 295 v, .bool true]) w := by kernel_rfl
theorem asSt372 (v : Value) (w : World) : (Instr.typeAssert (.iface 372 v) 236 231 true).run Tryz.prog w = .ok (.tuple #[.iface 372 v, .bool true]) w := by kernel_rfl
theorem asSt369 (v : Value) (w : World) : (Instr.typeAssert (.iface 369 v) 236 231 true).run Tryz.prog w = .ok (.tuple #[.iface 369 v, .bool true]) w := by kernel_rfl
theorem asSt233 (v : Value) (w : World) : (Instr.typeAssert (.iface 233 v) 236 231 true).run Tryz.prog w = .ok (.tuple #[.iface 233 v, .bool true]) w := by kernel_rfl
theorem asSt234 (v : Value) (w : World) : (Instr.typeAssert (.iface 234 v) 236 231 true).run Tryz.prog w = .ok (.tuple #[.iface 234 v, .bool true]) w := by kernel_rfl
theorem asSt390 (v : Value) (w : World) : (Instr.typeAssert (.iface 390 v) 236 231 true).run Tryz.prog w = .ok (.tuple #[.nilIface, .bool false]) w := by
  obtain ⟨m, hm⟩ : ∃ m, Instr.missingMethod #[("Pos", 34), ("e2e/syntax.stmt", 1)] Tryz.t390.methods = some m := miss1 (s := "e2e/syntax.stmt") (by kernel_rfl)
  have hi : Tryz.prog.info? 390 = some Tryz.t390 := by kernel_rfl
  simp [Instr.typeAssert, run_underlying Tryz.underlying231, typeInfo, hi, hm, Tryz.zeroValue231]
theorem asEx390 (v : Value) (w : World) : (Instr.typeAssert (.iface 390 v) 236 292 false).run Tryz.prog w = .ok (.iface 390 v) w := by kernel_rfl
theorem asSt393 (v : Value) (w : World) : (Instr.typeAssert (.iface 393 v) 236 231 true).run Tryz.prog w = .ok (.tuple #[.nilIface, .bool false]) w := by
  obtain ⟨m, hm⟩ : ∃ m, Instr.missingMethod #[("Pos", 34), ("e2e/syntax.stmt", 1)] Tryz.t393.methods = some m := miss1 (s := "e2e/syntax.stmt") (by kernel_rfl)
  have hi : Tryz.prog.info? 393 = some Tryz.t393 := by kernel_rfl
  simp [Instr.typeAssert, run_underlying Tryz.underlying231, typeInfo, hi, hm, Tryz.zeroValue231]
theorem asEx393 (v : Value) (w : World) : (Instr.typeAssert (.iface 393 v) 236 292 false).run Tryz.prog w = .ok (.iface 393 v) w := by kernel_rfl
theorem asSt383 (v : Value) (w : World) : (Instr.typeAssert (.iface 383 v) 236 231 true).run Tryz.prog w = .ok (.tuple #[.nilIface, .bool false]) w := by
  obtain ⟨m, hm⟩ : ∃ m, Instr.missingMethod #[("Pos", 34), ("e2e/syntax.stmt", 1)] Tryz.t383.methods = some m := miss1 (s := "e2e/syntax.stmt") (by kernel_rfl)
  have hi : Tryz.prog.info? 383 = some Tryz.t383 := by kernel_rfl
  simp [Instr.typeAssert, run_underlying Tryz.underlying231, typeInfo, hi, hm, Tryz.zeroValue231]
theorem asEx383 (v : Value) (w : World) : (Instr.typeAssert (.iface 383 v) 236 292 false).run Tryz.prog w = .ok (.iface 383 v) w := by kernel_rfl
theorem asSt307 (v : Value) (w : World) : (Instr.typeAssert (.iface 307 v) 236 231 true).run Tryz.prog w = .ok (.tuple #[.nilIface, .bool false]) w := by
  obtain ⟨m, hm⟩ : ∃ m, Instr.missingMethod #[("Pos", 34), ("e2e/syntax.stmt", 1)] Tryz.t307.methods = some m := miss1 (s := "e2e/syntax.stmt") (by kernel_rfl)
  have hi : Tryz.prog.info? 307 = some Tryz.t307 := by kernel_rfl
  simp [Instr.typeAssert, run_underlying Tryz.underlying231, typeInfo, hi, hm, Tryz.zeroValue231]
theorem asEx307 (v : Value) (w : World) : (Instr.typeAssert (.iface 307 v) 236 292 false).run Tryz.prog w = .ok (.iface 307 v) w := by kernel_rfl
theorem asSt308 (v : Value) (w : World) : (Instr.typeAssert (.iface 308 v) 236 231 true).run Tryz.prog w = .ok (.tuple #[.nilIface, .bool false]) w := by
  obtain ⟨m, hm⟩ : ∃ m, Instr.missingMethod #[("Pos", 34), ("e2e/syntax.stmt", 1)] Tryz.t308.methods = some m := miss1 (s := "e2e/syntax.stmt") (by kernel_rfl)
  have hi : Tryz.prog.info? 308 = some Tryz.t308 := by kernel_rfl
  simp [Instr.typeAssert, run_underlying Tryz.underlying231, typeInfo, hi, hm, Tryz.zeroValue231]
theorem asEx308 (v : Value) (w : World) : (Instr.typeAssert (.iface 308 v) 236 292 false).run Tryz.prog w = .ok (.iface 308 v) w := by kernel_rfl
theorem asSt302 (v : Value) (w : World) : (Instr.typeAssert (.iface 302 v) 236 231 true).run Tryz.prog w = .ok (.tuple #[.nilIface, .bool false]) w := by
  obtain ⟨m, hm⟩ : ∃ m, Instr.missingMethod #[("Pos", 34), ("e2e/syntax.stmt", 1)] Tryz.t302.methods = some m := miss1 (s := "e2e/syntax.stmt") (by kernel_rfl)
  have hi : Tryz.prog.info? 302 = some Tryz.t302 := by kernel_rfl
  simp [Instr.typeAssert, run_underlying Tryz.underlying231, typeInfo, hi, hm, Tryz.zeroValue231]
theorem asEx302 (v : Value) (w : World) : (Instr.typeAssert (.iface 302 v) 236 292 false).run Tryz.prog w = .ok (.iface 302 v) w := by kernel_rfl
theorem asSt355 (v : Value) (w : World) : (Instr.typeAssert (.iface 355 v) 236 231 true).run Tryz.prog w = .ok (.tuple #[.nilIface, .bool false]) w := by
  obtain ⟨m, hm⟩ : ∃ m, Instr.missingMethod #[("Pos", 34), ("e2e/syntax.stmt", 1)] Tryz.t355.methods = some m := miss1 (s := "e2e/syntax.stmt") (by kernel_rfl)
  have hi : Tryz.prog.info? 355 = some Tryz.t355 := by kernel_rfl
  simp [Instr.typeAssert, run_underlying Tryz.underlying231, typeInfo, hi, hm, Tryz.zeroValue231]
theorem asEx355 (v : Value) (w : World) : (Instr.typeAssert (.iface 355 v) 236 292 false).run Tryz.prog w = .ok (.iface 355 v) w := by kernel_rfl
theorem asSt398 (v : Value) (w : World) : (Instr.typeAssert (.iface 398 v) 236 231 true).run Tryz.prog w = .ok (.tuple #[.nilIface, .bool false]) w := by
  obtain ⟨m, hm⟩ : ∃ m, Instr.missingMethod #[("Pos", 34), ("e2e/syntax.stmt", 1)] Tryz.t398.methods = some m := miss1 (s := "e2e/syntax.stmt") (by kernel_rfl)
  have hi : Tryz.prog.info? 398 = some Tryz.t398 := by kernel_rfl
  simp [Instr.typeAssert, run_underlying Tryz.underlying231, typeInfo, hi, hm, Tryz.zeroValue231]
theorem asEx398 (v : Value) (w : World) : (Instr.typeAssert (.iface 398 v) 236 292 false).run Tryz.prog w = .ok (.iface 398 v) w := by kernel_rfl
theorem asSt378 (v : Value) (w : World) : (Instr.typeAssert (.iface 378 v) 236 231 true).run Tryz.prog w = .ok (.tuple #[.nilIface, .bool false]) w := by
  obtain ⟨m, hm⟩ : ∃ m, Instr.missingMethod #[("Pos", 34), ("e2e/syntax.stmt", 1)] Tryz.t378.methods = some m := miss1 (s := "e2e/syntax.stmt") (by kernel_rfl)
  have hi : Tryz.prog.info? 378 = some Tryz.t378 := by kernel_rfl
  simp [Instr.typeAssert, run_underlying Tryz.underlying231, typeInfo, hi, hm, Tryz.zeroValue231]
theorem asEx378 (v : Value) (w : World) : (Instr.typeAssert (.iface 378 v) 236 292 false).run Tryz.prog w = .ok (.iface 378 v) w := by kernel_rfl
theorem asSt401 (v : Value) (w : World) : (Instr.typeAssert (.iface 401 v) 236 231 true).run Tryz.prog w = .ok (.tuple #[.nilIface, .bool false]) w := by
  obtain ⟨m, hm⟩ : ∃ m, Instr.missingMethod #[("Pos", 34), ("e2e/syntax.stmt", 1)] Tryz.t401.methods = some m := miss1 (s := "e2e/syntax.stmt") (by kernel_rfl)
  have hi : Tryz.prog.info? 401 = some Tryz.t401 := by kernel_rfl
  simp [Instr.typeAssert, run_underlying Tryz.underlying231, typeInfo, hi, hm, Tryz.zeroValue231]
theorem asEx401 (v : Value) (w : World) : (Instr.typeAssert (.iface 401 v) 236 292 false).run Tryz.prog w = .ok (.iface 401 v) w := by kernel_rfl
end Go.Sl
