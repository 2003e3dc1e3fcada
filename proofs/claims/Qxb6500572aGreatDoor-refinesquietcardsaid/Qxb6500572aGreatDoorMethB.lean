/- More method calls: the host's Call, an Errno's Trap; assertions to Trapper. -/
import Derived.Test.Qxb6500572aGreatDoorMeth
import Derived.Test.Qxb6500572aGreatDoorSlS
namespace Go.Sl
open Go Go.Proofs
theorem methTrap (v : Value) (w : World) : (method (320 + Made.depth) 51 v "Trap").run Tryz.prog w = .ok (187, v) w := by
  have h : Tryz.prog.info? 51 = some Tryz.t51 := by kernel_rfl
  obtain ⟨m, h1, h2, h3⟩ : ∃ m, Array.find? (fun x => x.name == "Trap") Tryz.t51.methods = some m ∧ m.path = #[] ∧ m.func = some (187, false) := ⟨_, rfl, rfl, rfl⟩
  rw [show 320 + Made.depth = (319 + Made.depth) + 1 from by omega]
  simp [method, typeInfo, h, h1, h2, h3, follow, receiverAt, run_underlying Tryz.underlying51, Place.get]
theorem trapM (v : Value) (av : Array Value) (w : World) : (callMethod (.iface 51 v) "Trap" av).run Tryz.prog w = .ok (.enter 187 (#[v] ++ av)) w := by
  simp only [callMethod, Sem.run_bind, run_program, Result.andThen_ok, ntypes, methTrap, Tryz.call187]
theorem methCall (a : Option Addr) (w : World) : (method (320 + Made.depth) 135 (.pointer a) "Call").run Tryz.prog w = .ok (191, .pointer a) w := by
  have h : Tryz.prog.info? 135 = some Tryz.t135 := by kernel_rfl
  obtain ⟨m, h1, h2, h3⟩ : ∃ m, Array.find? (fun x => x.name == "Call") Tryz.t135.methods = some m ∧ m.path = #[] ∧ m.func = some (191, true) := ⟨_, rfl, rfl, rfl⟩
  rw [show 320 + Made.depth = (319 + Made.depth) + 1 from by omega]
  simp [method, typeInfo, h, h1, h2, h3, follow, receiverAt, run_underlying Tryz.underlying135, Place.get]
theorem callM (a : Option Addr) (av : Array Value) (w : World) : (callMethod (.iface 135 (.pointer a)) "Call" av).run Tryz.prog w = .ok (.enter 191 (#[.pointer a] ++ av)) w := by
  simp only [callMethod, Sem.run_bind, run_program, Result.andThen_ok, ntypes, methCall, Tryz.call191]
theorem asT51 (v : Value) (w : World) : (Instr.typeAssert (.iface 51 v) 39 276 true).run Tryz.prog w = .ok (.tuple #[.iface 51 v, .bool true]) w := by kernel_rfl
theorem asTnil (w : World) : (Instr.typeAssert .nilIface 39 276 true).run Tryz.prog w = .ok (.tuple #[.nilIface, .bool false]) w := by kernel_rfl
theorem miss1 {want : Array (String × TypeId)} {got : Array Method} {s : String} (h : (want.toList.filter fun (x : String × TypeId) => match x with | (name, sig) => !got.any fun m => m.name == name && m.sig == sig).map (·.1) = [s]) : ∃ m, Instr.missingMethod want got = some m := by
  unfold Instr.missingMethod
  simp only [h, List.partition_eq_filter_filter]
  by_cases hc : s.contains '.' = true
  · have e1 : List.filter (fun x : String => x.contains '.') [s] = [s] := by rw [List.filter_cons, if_pos hc]; rfl
    have e2 : List.filter (not ∘ fun x : String => x.contains '.') [s] = [] := by rw [List.filter_cons, if_neg (by simpa using hc)]; rfl
    rw [e1, e2]; exact ⟨_, rfl⟩
  · have e1 : List.filter (fun x : String => x.contains '.') [s] = [] := by rw [List.filter_cons, if_neg hc]; rfl
    have e2 : List.filter (not ∘ fun x : String => x.contains '.') [s] = [s] := by rw [List.filter_cons, if_pos (by simpa using hc)]; rfl
    rw [e1, e2]; exact ⟨_, rfl⟩
theorem asTno {t : TypeId} {ti : TypeInfo} {v : Value} (hi : Tryz.prog.info? t = some ti) (h : ∃ m, Instr.missingMethod #[("Trap", 232)] ti.methods = some m) (w : World) : (Instr.typeAssert (.iface t v) 39 276 true).run Tryz.prog w = .ok (.tuple #[.nilIface, .bool false]) w := by
  obtain ⟨m, hm⟩ := h
  simp [Instr.typeAssert, run_underlying Tryz.underlying276, typeInfo, hi, hm, Tryz.zeroValue276]
theorem asT303 (v : Value) (w : World) : (Instr.typeAssert (.iface 303 v) 39 276 true).run Tryz.prog w = .ok (.tuple #[.nilIface, .bool false]) w :=
  asTno (by kernel_rfl : Tryz.prog.info? 303 = some Tryz.t303) (miss1 (s := "Trap") (by kernel_rfl)) w
theorem asT305 (v : Value) (w : World) : (Instr.typeAssert (.iface 305 v) 39 276 true).run Tryz.prog w = .ok (.tuple #[.nilIface, .bool false]) w :=
  asTno (by kernel_rfl : Tryz.prog.info? 305 = some Tryz.t305) (miss1 (s := "Trap") (by kernel_rfl)) w
end Go.Sl
