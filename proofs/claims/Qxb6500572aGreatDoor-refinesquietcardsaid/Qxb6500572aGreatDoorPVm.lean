/- The machine: plain: one round of the loop, and what a round asks of the state. -/
import Derived.Test.Qxb6500572aGreatDoorPHost
import Derived.Test.Qxb6500572aGreatDoorPMach
import Derived.Test.Qxb6500572aGreatDoorWMachD
namespace Go.Wl
open Go Go.Sl
set_option linter.unusedVariables false

structure VM where
  P : Prog
  steps : Int
  mem : Mem
  i : Inst
  host : Host
def lst (st : List W) : W := st.getLastD ⟨false, 0⟩
def VM.st (m : VM) : List W := m.i.st
def VM.setSt (m : VM) (st : List W) : VM := { m with i := { m.i with st := st } }
def VM.setPc (m : VM) (pc : Int) : VM := { m with i := m.i.setTop { m.i.top with pc := pc } }
def VM.next (m : VM) : VM × Option Int := (m.setPc (m.i.top.pc + 1), none)
def VM.pop (m : VM) : VM := m.setSt m.i.st.dropLast
def VM.push (m : VM) (y : W) : VM := m.setSt (m.i.st ++ [y])
def VM.jump (m : VM) (c : Flat) : VM := (m.setSt (m.i.st.take ((m.i.top.floor : Int) + c.cut).toNat ++ m.i.st.drop (m.i.st.length - c.keep.toNat))).setPc c.imm
def VM.leave (m : VM) : VM := { m with i := { m.i with st := m.i.st.take m.i.top.base ++ m.i.st.drop (m.i.st.length - m.i.top.res.length), fr := m.i.fr.take (m.i.fr.length - 1) } }
def VM.enter (m : VM) (f : Int) : VM := { m with i := { m.i with st := m.i.st ++ (m.P.sig f).2.2.1.map (fun t => word t 0), fr := m.i.fr ++ [⟨f, 0, m.i.st.length - (m.P.sig f).1.length, m.i.st.length + (m.P.sig f).2.2.1.length, (m.P.sig f).2.1⟩] } }
def aluTo (op : Int) : UInt8 := if (60 ≤ op ∧ op < 73) ∨ op = 32 ∨ op = 33 then 108 else 105
def aluBin (op : Int) : Bool := decide ((40 ≤ op ∧ op < 56) ∨ (60 ≤ op ∧ op < 76))
def aluFrom (op : Int) : Bool := decide ((60 ≤ op ∧ op < 76) ∨ op = 30 ∨ op = 31)
def VM.x0 (m : VM) (c : Flat) : VM × Option Int := (m, some 13)
def VM.x3 (m : VM) (c : Flat) : VM × Option Int := (if (lst m.i.st).n = 0 then (m.pop.setPc c.imm, none) else m.pop.next)
def VM.x4 (m : VM) (c : Flat) : VM × Option Int := (m.setPc c.imm, none)
def VM.x5 (m : VM) (c : Flat) : VM × Option Int := (m.leave, if m.i.fr.length - 1 = 0 then some 0 else none)
def VM.x6 (m : VM) (c : Flat) : VM × Option Int := (m.jump c, none)
def VM.x7 (m : VM) (c : Flat) : VM × Option Int := (if (lst m.i.st).n = 0 then m.pop.next else (m.pop.jump c, none))
def VM.x8 (m : VM) (c : Flat) : VM × Option Int := ({ m with steps := IntKind.i64.wrap (m.steps + 1) }.pop.jump (m.P.at m.i.top.f (m.i.top.pc + 1 + min ((lst m.i.st).n % 4294967296) c.imm)), none)
def VM.x10 (m : VM) (c : Flat) : VM × Option Int := (if (m.P.nimp : Int) ≤ c.imm then (if m.i.fr.length < 4 then ((m.setPc (m.i.top.pc + 1)).enter c.imm, none) else (m, some 14))
     else
      (if (askM m.host c.imm (m.P.sig c.imm).2.1 (m.i.st.drop (m.i.st.length - (m.P.sig c.imm).1.length))).2.1 = 0 then
        ({ m with host := (askM m.host c.imm (m.P.sig c.imm).2.1 (m.i.st.drop (m.i.st.length - (m.P.sig c.imm).1.length))).1 }.setSt (m.i.st.take (m.i.st.length - (m.P.sig c.imm).1.length) ++ (askM m.host c.imm (m.P.sig c.imm).2.1 (m.i.st.drop (m.i.st.length - (m.P.sig c.imm).1.length))).2.2)).next
       else ({ m with host := (askM m.host c.imm (m.P.sig c.imm).2.1 (m.i.st.drop (m.i.st.length - (m.P.sig c.imm).1.length))).1 }, some (askM m.host c.imm (m.P.sig c.imm).2.1 (m.i.st.drop (m.i.st.length - (m.P.sig c.imm).1.length))).2.1)))
def VM.x11 (m : VM) (c : Flat) : VM × Option Int := m.pop.next
def VM.x12 (m : VM) (c : Flat) : VM × Option Int := (if (lst m.i.st).n = 0 then (m.pop.pop.pop.push (lst m.pop.i.st)).next else (m.pop.pop.pop.push (lst m.pop.pop.i.st)).next)
def VM.x13 (m : VM) (c : Flat) : VM × Option Int := (m.push (m.i.st.getD (m.i.top.base + c.imm).toNat ⟨false, 0⟩)).next
def VM.x14 (m : VM) (c : Flat) : VM × Option Int := (m.setSt (m.i.st.dropLast.set (m.i.top.base + c.imm).toNat (lst m.i.st))).next
def VM.x15 (m : VM) (c : Flat) : VM × Option Int := (m.push ⟨false, IntKind.i32.wrap (m.mem.bytes.length / 8 : Nat)⟩).next
def VM.x16 (m : VM) (c : Flat) : VM × Option Int := ({ m with mem := (grow m.mem (lst m.i.st).n).1 }.pop.push ⟨false, IntKind.i32.wrap (grow m.mem (lst m.i.st).n).2⟩).next
def VM.x17 (m : VM) (c : Flat) : VM × Option Int := (m.push ⟨false, IntKind.i32.wrap c.imm⟩).next
def VM.x18 (m : VM) (c : Flat) : VM × Option Int := (m.push ⟨true, c.imm⟩).next
def VM.x19 (m : VM) (c : Flat) : VM × Option Int := (if (mload m.mem c.op (lst m.i.st).n c.imm).2 = 0 then (m.pop.push (if c.op = 20 then ⟨true, (mload m.mem c.op (lst m.i.st).n c.imm).1⟩ else ⟨false, IntKind.i32.wrap (mload m.mem c.op (lst m.i.st).n c.imm).1⟩)).next
     else (m, some (mload m.mem c.op (lst m.i.st).n c.imm).2))
def VM.x25 (m : VM) (c : Flat) : VM × Option Int := (if (mstore m.mem c.op (lst m.pop.i.st).n c.imm (lst m.i.st).n).2 = 0 then ({ m with mem := (mstore m.mem c.op (lst m.pop.i.st).n c.imm (lst m.i.st).n).1 }.pop.pop).next
     else ({ m with mem := (mstore m.mem c.op (lst m.pop.i.st).n c.imm (lst m.i.st).n).1 }, some (mstore m.mem c.op (lst m.pop.i.st).n c.imm (lst m.i.st).n).2))
def VM.xb (m : VM) (c : Flat) : VM × Option Int := (if (alu c.op (lst m.pop.i.st).n (lst m.i.st).n).2 = 0 then (m.pop.pop.push (word (aluTo c.op) (alu c.op (lst m.pop.i.st).n (lst m.i.st).n).1)).next
     else (m, some (alu c.op (lst m.pop.i.st).n (lst m.i.st).n).2))
def VM.xu (m : VM) (c : Flat) : VM × Option Int := (if (alu c.op (lst m.i.st).n 0).2 = 0 then (m.pop.push (word (aluTo c.op) (alu c.op (lst m.i.st).n 0).1)).next
     else (m, some (alu c.op (lst m.i.st).n 0).2))
def VM.exec (m : VM) (c : Flat) : VM × Option Int :=
  if c.op = 0 then m.x0 c
  else if c.op = 3 then m.x3 c
  else if c.op = 4 then m.x4 c
  else if c.op = 5 ∨ c.op = 9 then m.x5 c
  else if c.op = 6 then m.x6 c
  else if c.op = 7 then m.x7 c
  else if c.op = 8 then m.x8 c
  else if c.op = 10 then m.x10 c
  else if c.op = 11 then m.x11 c
  else if c.op = 12 then m.x12 c
  else if c.op = 13 then m.x13 c
  else if c.op = 14 then m.x14 c
  else if c.op = 15 then m.x15 c
  else if c.op = 16 then m.x16 c
  else if c.op = 17 then m.x17 c
  else if c.op = 18 then m.x18 c
  else if 19 ≤ c.op ∧ c.op ≤ 24 then m.x19 c
  else if 25 ≤ c.op ∧ c.op ≤ 28 then m.x25 c
  else if aluBin c.op = true then m.xb c
  else m.xu c
theorem exec_x0 {m : VM} {c : Flat} (h : c.op = 0) : m.exec c = m.x0 c := by unfold VM.exec; rw [if_pos h]
theorem exec_x3 {m : VM} {c : Flat} (h : c.op = 3) : m.exec c = m.x3 c := by unfold VM.exec; rw [if_neg (by omega), if_pos h]
theorem exec_x4 {m : VM} {c : Flat} (h : c.op = 4) : m.exec c = m.x4 c := by unfold VM.exec; rw [if_neg (by omega), if_neg (by omega), if_pos h]
theorem exec_x5 {m : VM} {c : Flat} (h : c.op = 5 ∨ c.op = 9) : m.exec c = m.x5 c := by unfold VM.exec; rw [if_neg (by omega), if_neg (by omega), if_neg (by omega), if_pos h]
theorem exec_x6 {m : VM} {c : Flat} (h : c.op = 6) : m.exec c = m.x6 c := by unfold VM.exec; rw [if_neg (by omega), if_neg (by omega), if_neg (by omega), if_neg (by omega), if_pos h]
theorem exec_x7 {m : VM} {c : Flat} (h : c.op = 7) : m.exec c = m.x7 c := by unfold VM.exec; rw [if_neg (by omega), if_neg (by omega), if_neg (by omega), if_neg (by omega), if_neg (by omega), if_pos h]
theorem exec_x8 {m : VM} {c : Flat} (h : c.op = 8) : m.exec c = m.x8 c := by unfold VM.exec; rw [if_neg (by omega), if_neg (by omega), if_neg (by omega), if_neg (by omega), if_neg (by omega), if_neg (by omega), if_pos h]
theorem exec_x10 {m : VM} {c : Flat} (h : c.op = 10) : m.exec c = m.x10 c := by unfold VM.exec; rw [if_neg (by omega), if_neg (by omega), if_neg (by omega), if_neg (by omega), if_neg (by omega), if_neg (by omega), if_neg (by omega), if_pos h]
theorem exec_x11 {m : VM} {c : Flat} (h : c.op = 11) : m.exec c = m.x11 c := by unfold VM.exec; rw [if_neg (by omega), if_neg (by omega), if_neg (by omega), if_neg (by omega), if_neg (by omega), if_neg (by omega), if_neg (by omega), if_neg (by omega), if_pos h]
theorem exec_x12 {m : VM} {c : Flat} (h : c.op = 12) : m.exec c = m.x12 c := by unfold VM.exec; rw [if_neg (by omega), if_neg (by omega), if_neg (by omega), if_neg (by omega), if_neg (by omega), if_neg (by omega), if_neg (by omega), if_neg (by omega), if_neg (by omega), if_pos h]
theorem exec_x13 {m : VM} {c : Flat} (h : c.op = 13) : m.exec c = m.x13 c := by unfold VM.exec; rw [if_neg (by omega), if_neg (by omega), if_neg (by omega), if_neg (by omega), if_neg (by omega), if_neg (by omega), if_neg (by omega), if_neg (by omega), if_neg (by omega), if_neg (by omega), if_pos h]
theorem exec_x14 {m : VM} {c : Flat} (h : c.op = 14) : m.exec c = m.x14 c := by unfold VM.exec; rw [if_neg (by omega), if_neg (by omega), if_neg (by omega), if_neg (by omega), if_neg (by omega), if_neg (by omega), if_neg (by omega), if_neg (by omega), if_neg (by omega), if_neg (by omega), if_neg (by omega), if_pos h]
theorem exec_x15 {m : VM} {c : Flat} (h : c.op = 15) : m.exec c = m.x15 c := by unfold VM.exec; rw [if_neg (by omega), if_neg (by omega), if_neg (by omega), if_neg (by omega), if_neg (by omega), if_neg (by omega), if_neg (by omega), if_neg (by omega), if_neg (by omega), if_neg (by omega), if_neg (by omega), if_neg (by omega), if_pos h]
theorem exec_x16 {m : VM} {c : Flat} (h : c.op = 16) : m.exec c = m.x16 c := by unfold VM.exec; rw [if_neg (by omega), if_neg (by omega), if_neg (by omega), if_neg (by omega), if_neg (by omega), if_neg (by omega), if_neg (by omega), if_neg (by omega), if_neg (by omega), if_neg (by omega), if_neg (by omega), if_neg (by omega), if_neg (by omega), if_pos h]
theorem exec_x17 {m : VM} {c : Flat} (h : c.op = 17) : m.exec c = m.x17 c := by unfold VM.exec; rw [if_neg (by omega), if_neg (by omega), if_neg (by omega), if_neg (by omega), if_neg (by omega), if_neg (by omega), if_neg (by omega), if_neg (by omega), if_neg (by omega), if_neg (by omega), if_neg (by omega), if_neg (by omega), if_neg (by omega), if_neg (by omega), if_pos h]
theorem exec_x18 {m : VM} {c : Flat} (h : c.op = 18) : m.exec c = m.x18 c := by unfold VM.exec; rw [if_neg (by omega), if_neg (by omega), if_neg (by omega), if_neg (by omega), if_neg (by omega), if_neg (by omega), if_neg (by omega), if_neg (by omega), if_neg (by omega), if_neg (by omega), if_neg (by omega), if_neg (by omega), if_neg (by omega), if_neg (by omega), if_neg (by omega), if_pos h]
theorem exec_x19 {m : VM} {c : Flat} (h : 19 ≤ c.op ∧ c.op ≤ 24) : m.exec c = m.x19 c := by unfold VM.exec; rw [if_neg (by omega), if_neg (by omega), if_neg (by omega), if_neg (by omega), if_neg (by omega), if_neg (by omega), if_neg (by omega), if_neg (by omega), if_neg (by omega), if_neg (by omega), if_neg (by omega), if_neg (by omega), if_neg (by omega), if_neg (by omega), if_neg (by omega), if_neg (by omega), if_pos h]
theorem exec_x25 {m : VM} {c : Flat} (h : 25 ≤ c.op ∧ c.op ≤ 28) : m.exec c = m.x25 c := by unfold VM.exec; rw [if_neg (by omega), if_neg (by omega), if_neg (by omega), if_neg (by omega), if_neg (by omega), if_neg (by omega), if_neg (by omega), if_neg (by omega), if_neg (by omega), if_neg (by omega), if_neg (by omega), if_neg (by omega), if_neg (by omega), if_neg (by omega), if_neg (by omega), if_neg (by omega), if_neg (by omega), if_pos h]
theorem exec_xb {m : VM} {c : Flat} (h0 : ¬ (0 ≤ c.op ∧ c.op ≤ 28)) (h : aluBin c.op = true) : m.exec c = m.xb c := by unfold VM.exec; rw [if_neg (by omega), if_neg (by omega), if_neg (by omega), if_neg (by omega), if_neg (by omega), if_neg (by omega), if_neg (by omega), if_neg (by omega), if_neg (by omega), if_neg (by omega), if_neg (by omega), if_neg (by omega), if_neg (by omega), if_neg (by omega), if_neg (by omega), if_neg (by omega), if_neg (by omega), if_neg (by omega), if_pos h]
theorem exec_xu {m : VM} {c : Flat} (h0 : ¬ (0 ≤ c.op ∧ c.op ≤ 28)) (h : aluBin c.op = false) : m.exec c = m.xu c := by unfold VM.exec; rw [if_neg (by omega), if_neg (by omega), if_neg (by omega), if_neg (by omega), if_neg (by omega), if_neg (by omega), if_neg (by omega), if_neg (by omega), if_neg (by omega), if_neg (by omega), if_neg (by omega), if_neg (by omega), if_neg (by omega), if_neg (by omega), if_neg (by omega), if_neg (by omega), if_neg (by omega), if_neg (by omega), if_neg (by rw [h]; decide)]
def VM.at (m : VM) : Flat := m.P.at m.i.top.f m.i.top.pc
/-- What each round does first. -/
def VM.fetch (m : VM) : VM := { m with steps := IntKind.i64.wrap (m.steps + 1), i := { m.i with high := max m.i.high m.i.st.length } }
def VM.pay (m : VM) : VM := { m with i := { m.i with used := m.i.used + 1 } }
def VM.step (fuel : Int) (m : VM) : VM × Option Int :=
  if m.at.op = 4 ∨ m.at.op = 5 then m.fetch.exec m.at
  else if m.i.used < fuel then m.fetch.pay.exec m.at
  else (m.fetch, some 17)
def Top (m : VM) (n : Nat) : Prop := m.i.top.floor + n ≤ m.i.st.length
def JumpOk (m : VM) (st : List W) (c : Flat) : Prop := 0 ≤ c.cut ∧ 0 ≤ c.keep ∧ (m.i.top.floor : Int) + c.cut + c.keep ≤ st.length
/-- What the instruction at hand asks of the stack. -/
structure PreOp (m : VM) (c : Flat) : Prop where
  p3 : c.op = 3 ∨ c.op = 7 ∨ c.op = 8 ∨ c.op = 16 ∨ (19 ≤ c.op ∧ c.op ≤ 24) → Top m 1 ∧ (lst m.i.st).w = false
  p5 : c.op = 5 ∨ c.op = 9 → m.i.top.base ≤ m.i.top.floor ∧ Top m m.i.top.res.length ∧ (m.i.st.drop (m.i.st.length - m.i.top.res.length)).map W.t = m.i.top.res
  p6 : c.op = 6 → JumpOk m m.i.st c
  p7 : c.op = 7 → JumpOk m m.i.st.dropLast c
  p8 : c.op = 8 → 0 ≤ c.imm ∧ c.imm ≤ 1000000 ∧ (m.P.at m.i.top.f (m.i.top.pc + 1 + min ((lst m.i.st).n % 4294967296) c.imm)).op = 6 ∧ JumpOk m m.i.st.dropLast (m.P.at m.i.top.f (m.i.top.pc + 1 + min ((lst m.i.st).n % 4294967296) c.imm))
  p10 : c.op = 10 → 0 ≤ c.imm ∧ c.imm ≤ 1000000 ∧ (m.P.sig c.imm).2.2.2 = true ∧ (m.P.sig c.imm).1.length ≤ 100 ∧ (m.P.sig c.imm).2.1.length ≤ 100 ∧ (m.P.sig c.imm).2.2.1.length ≤ 100 ∧ Top m (m.P.sig c.imm).1.length ∧ (m.i.st.drop (m.i.st.length - (m.P.sig c.imm).1.length)).map W.t = (m.P.sig c.imm).1
  p11 : c.op = 11 → Top m 1
  p12 : c.op = 12 → Top m 3 ∧ (lst m.i.st).w = false ∧ (lst m.pop.pop.i.st).w = (lst m.pop.i.st).w
  p13 : c.op = 13 ∨ c.op = 14 → 0 ≤ c.imm ∧ (m.i.top.base : Int) + c.imm < m.i.top.floor ∧ m.i.top.floor ≤ m.i.st.length
  p14 : c.op = 14 → Top m 1 ∧ (m.i.st.getD (m.i.top.base + c.imm).toNat ⟨false, 0⟩).w = (lst m.i.st).w
  p25 : 25 ≤ c.op ∧ c.op ≤ 28 → Top m 2 ∧ (lst m.i.st).w = decide (c.op = 26) ∧ (lst m.pop.i.st).w = false
  pal : ¬ (0 ≤ c.op ∧ c.op ≤ 28) → ((29 ≤ c.op ∧ c.op ≤ 33) ∨ (40 ≤ c.op ∧ c.op < 56) ∨ (60 ≤ c.op ∧ c.op < 76)) ∧
    (aluBin c.op = true → Top m 2 ∧ (lst m.i.st).w = aluFrom c.op ∧ (lst m.pop.i.st).w = aluFrom c.op) ∧ (aluBin c.op = false → Top m 1 ∧ (lst m.i.st).w = aluFrom c.op)
  pno : c.op ≠ 1 ∧ c.op ≠ 2
structure Pre (m : VM) : Prop where
  fr0 : 0 < m.i.fr.length
  fr4 : m.i.fr.length ≤ 4
  stl : m.i.st.length ≤ 1000
  used0 : 0 ≤ m.i.used
  pc0 : 0 ≤ m.i.top.pc
  pc1 : m.i.top.pc ≤ 1000000
  ok : ∀ y, y ∈ m.i.st → y.ok
  hb : m.host.kind = 0 → m.host.trace.length ≤ 100000 ∧ m.host.s.length ≤ 140737488351232 ∧ m.host.kept.length ≤ 1000 ∧ m.host.k ≤ 1000000000 ∧ ∀ n, n ∈ m.host.kept → n ≤ 1000
  op : PreOp m m.at
/-- n rounds, all of which went on. -/
def VM.iter (fuel : Int) : Nat → VM → VM
  | 0, m => m
  | n + 1, m => (VM.iter fuel n m |>.step fuel).1
/-! How a stack ends. -/
theorem last1 {st : List W} {k : Nat} (h : k + 1 ≤ st.length) : st = st.dropLast ++ [lst st] := by
  have : st ≠ [] := fun e => by subst e; simp at h
  unfold lst
  rw [List.getLastD_eq_getLast?, List.getLast?_eq_some_getLast this]
  exact (List.dropLast_concat_getLast this).symm
theorem last2 {st : List W} {k : Nat} (h : k + 2 ≤ st.length) : st = st.dropLast.dropLast ++ [lst st.dropLast, lst st] := by
  have h1 := last1 (st := st) (k := k + 1) (by omega)
  have h2 := last1 (st := st.dropLast) (k := k) (by simp; omega)
  conv => lhs; rw [h1, h2]
  simp
theorem last3 {st : List W} {k : Nat} (h : k + 3 ≤ st.length) : st = st.dropLast.dropLast.dropLast ++ [lst st.dropLast.dropLast, lst st.dropLast, lst st] := by
  have h1 := last1 (st := st) (k := k + 2) (by omega)
  have h2 := last2 (st := st.dropLast) (k := k) (by simp; omega)
  conv => lhs; rw [h1, h2]
  simp
theorem last_cut {st : List W} {n : Nat} : st = st.take (st.length - n) ++ st.drop (st.length - n) := (List.take_append_drop _ _).symm
end Go.Wl
