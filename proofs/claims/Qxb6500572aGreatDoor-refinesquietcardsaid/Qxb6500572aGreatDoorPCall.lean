/- A call at the boundary: plain. -/
import Derived.Test.Qxb6500572aGreatDoorPVmB
namespace Go.Wl
open Go Go.Sl
set_option linter.unusedVariables false
def owed (P : Prog) (f : Int) (args : List Val) : Int :=
  if 3 < args.length then 1 else if (P.sig f).2.2.2 = false ∨ f < P.nimp then 8 else if args.length ≠ (P.sig f).1.length then 7 else if fitsAll args (P.sig f).1 = false then 7 else 0
def argsW (args : List Val) : List W := args.map fun a => word a.t a.v
def startI (P : Prog) (f : Int) (args : List Val) : Inst :=
  ⟨argsW args ++ (P.sig f).2.2.1.map (fun t => word t 0), [⟨f, 0, 0, (argsW args).length + (P.sig f).2.2.1.length, (P.sig f).2.1⟩], 0, 0⟩
def startVM (P : Prog) (steps : Int) (mem : Mem) (host : Host) (f : Int) (args : List Val) : VM := ⟨P, steps, mem, startI P f args, host⟩
theorem exec_done {m m' : VM} {c : Flat} (h : m.exec c = (m', some 0)) : m' = m.leave ∧ m.i.fr.length - 1 = 0 ∧ (c.op = 5 ∨ c.op = 9) := by
  by_cases h0 : c.op = 0
  · rw [VM.exec, if_pos h0] at h
    simp [VM.x0] at h
  by_cases h1 : c.op = 3
  · rw [VM.exec, if_neg h0, if_pos h1] at h
    unfold VM.x3 at h; split at h <;> simp [VM.next] at h
  by_cases h2 : c.op = 4
  · rw [VM.exec, if_neg h0, if_neg h1, if_pos h2] at h
    simp [VM.x4] at h
  by_cases h3 : c.op = 5 ∨ c.op = 9
  · rw [VM.exec, if_neg h0, if_neg h1, if_neg h2, if_pos h3] at h
    unfold VM.x5 at h
    simp only [Prod.mk.injEq] at h
    obtain ⟨rfl, h2⟩ := h
    split at h2
    · rename_i hf; exact ⟨rfl, hf, h3⟩
    · cases h2
  by_cases h4 : c.op = 6
  · rw [VM.exec, if_neg h0, if_neg h1, if_neg h2, if_neg h3, if_pos h4] at h
    simp [VM.x6] at h
  by_cases h5 : c.op = 7
  · rw [VM.exec, if_neg h0, if_neg h1, if_neg h2, if_neg h3, if_neg h4, if_pos h5] at h
    unfold VM.x7 at h; split at h <;> simp [VM.next] at h
  by_cases h6 : c.op = 8
  · rw [VM.exec, if_neg h0, if_neg h1, if_neg h2, if_neg h3, if_neg h4, if_neg h5, if_pos h6] at h
    simp [VM.x8] at h
  by_cases h7 : c.op = 10
  · rw [VM.exec, if_neg h0, if_neg h1, if_neg h2, if_neg h3, if_neg h4, if_neg h5, if_neg h6, if_pos h7] at h
    unfold VM.x10 at h
    split at h
    · split at h <;> simp at h
    · split at h
      · simp [VM.next] at h
      · rename_i hne; simp only [Prod.mk.injEq, Option.some.injEq] at h; exact absurd h.2 hne
  by_cases h8 : c.op = 11
  · rw [VM.exec, if_neg h0, if_neg h1, if_neg h2, if_neg h3, if_neg h4, if_neg h5, if_neg h6, if_neg h7, if_pos h8] at h
    simp [VM.x11, VM.next] at h
  by_cases h9 : c.op = 12
  · rw [VM.exec, if_neg h0, if_neg h1, if_neg h2, if_neg h3, if_neg h4, if_neg h5, if_neg h6, if_neg h7, if_neg h8, if_pos h9] at h
    unfold VM.x12 at h; split at h <;> simp [VM.next] at h
  by_cases h10 : c.op = 13
  · rw [VM.exec, if_neg h0, if_neg h1, if_neg h2, if_neg h3, if_neg h4, if_neg h5, if_neg h6, if_neg h7, if_neg h8, if_neg h9, if_pos h10] at h
    simp [VM.x13, VM.next] at h
  by_cases h11 : c.op = 14
  · rw [VM.exec, if_neg h0, if_neg h1, if_neg h2, if_neg h3, if_neg h4, if_neg h5, if_neg h6, if_neg h7, if_neg h8, if_neg h9, if_neg h10, if_pos h11] at h
    simp [VM.x14, VM.next] at h
  by_cases h12 : c.op = 15
  · rw [VM.exec, if_neg h0, if_neg h1, if_neg h2, if_neg h3, if_neg h4, if_neg h5, if_neg h6, if_neg h7, if_neg h8, if_neg h9, if_neg h10, if_neg h11, if_pos h12] at h
    simp [VM.x15, VM.next] at h
  by_cases h13 : c.op = 16
  · rw [VM.exec, if_neg h0, if_neg h1, if_neg h2, if_neg h3, if_neg h4, if_neg h5, if_neg h6, if_neg h7, if_neg h8, if_neg h9, if_neg h10, if_neg h11, if_neg h12, if_pos h13] at h
    simp [VM.x16, VM.next] at h
  by_cases h14 : c.op = 17
  · rw [VM.exec, if_neg h0, if_neg h1, if_neg h2, if_neg h3, if_neg h4, if_neg h5, if_neg h6, if_neg h7, if_neg h8, if_neg h9, if_neg h10, if_neg h11, if_neg h12, if_neg h13, if_pos h14] at h
    simp [VM.x17, VM.next] at h
  by_cases h15 : c.op = 18
  · rw [VM.exec, if_neg h0, if_neg h1, if_neg h2, if_neg h3, if_neg h4, if_neg h5, if_neg h6, if_neg h7, if_neg h8, if_neg h9, if_neg h10, if_neg h11, if_neg h12, if_neg h13, if_neg h14, if_pos h15] at h
    simp [VM.x18, VM.next] at h
  by_cases h16 : 19 ≤ c.op ∧ c.op ≤ 24
  · rw [VM.exec, if_neg h0, if_neg h1, if_neg h2, if_neg h3, if_neg h4, if_neg h5, if_neg h6, if_neg h7, if_neg h8, if_neg h9, if_neg h10, if_neg h11, if_neg h12, if_neg h13, if_neg h14, if_neg h15, if_pos h16] at h
    unfold VM.x19 at h
    split at h
    · simp [VM.next] at h
    · rename_i hne; simp only [Prod.mk.injEq, Option.some.injEq] at h; exact absurd h.2 hne
  by_cases h17 : 25 ≤ c.op ∧ c.op ≤ 28
  · rw [VM.exec, if_neg h0, if_neg h1, if_neg h2, if_neg h3, if_neg h4, if_neg h5, if_neg h6, if_neg h7, if_neg h8, if_neg h9, if_neg h10, if_neg h11, if_neg h12, if_neg h13, if_neg h14, if_neg h15, if_neg h16, if_pos h17] at h
    unfold VM.x25 at h
    split at h
    · simp [VM.next] at h
    · rename_i hne; simp only [Prod.mk.injEq, Option.some.injEq] at h; exact absurd h.2 hne
  by_cases h18 : aluBin c.op = true
  · rw [VM.exec, if_neg h0, if_neg h1, if_neg h2, if_neg h3, if_neg h4, if_neg h5, if_neg h6, if_neg h7, if_neg h8, if_neg h9, if_neg h10, if_neg h11, if_neg h12, if_neg h13, if_neg h14, if_neg h15, if_neg h16, if_neg h17, if_pos h18] at h
    unfold VM.xb at h
    split at h
    · simp [VM.next] at h
    · rename_i hne; simp only [Prod.mk.injEq, Option.some.injEq] at h; exact absurd h.2 hne
  rw [VM.exec, if_neg h0, if_neg h1, if_neg h2, if_neg h3, if_neg h4, if_neg h5, if_neg h6, if_neg h7, if_neg h8, if_neg h9, if_neg h10, if_neg h11, if_neg h12, if_neg h13, if_neg h14, if_neg h15, if_neg h16, if_neg h17, if_neg h18] at h
  unfold VM.xu at h
  split at h
  · simp [VM.next] at h
  · rename_i hne; simp only [Prod.mk.injEq, Option.some.injEq] at h; exact absurd h.2 hne
theorem step_done {m m' : VM} {fuel : Int} (hp : Pre m) (h : m.step fuel = (m', some 0)) : m'.i.fr = [] ∧ (∀ y, y ∈ m'.i.st → y.ok) ∧ m'.i.st.length ≤ 2000 := by
  have key : ∀ m1 : VM, m1.i.st = m.i.st → m1.i.fr = m.i.fr → m1.exec m.at = (m', some 0) → m'.i.fr = [] ∧ (∀ y, y ∈ m'.i.st → y.ok) ∧ m'.i.st.length ≤ 2000 := by
    intro m1 h1 h2 h3
    obtain ⟨rfl, h5, _⟩ := exec_done h3
    refine ⟨?_, ?_, ?_⟩
    · show m1.i.fr.take (m1.i.fr.length - 1) = []
      rw [h5]; rfl
    · intro y hy
      have hy' : y ∈ m1.i.st.take m1.i.top.base ++ m1.i.st.drop (m1.i.st.length - m1.i.top.res.length) := hy
      rw [h1] at hy'
      rcases List.mem_append.1 hy' with hy' | hy'
      · exact hp.ok y (List.mem_of_mem_take hy')
      · exact hp.ok y (List.mem_of_mem_drop hy')
    · show (m1.i.st.take m1.i.top.base ++ m1.i.st.drop (m1.i.st.length - m1.i.top.res.length)).length ≤ 2000
      have := hp.stl
      rw [List.length_append, List.length_take, List.length_drop, h1]
      omega
  unfold VM.step at h
  split at h
  · exact key m.fetch rfl rfl h
  · split at h
    · exact key m.fetch.pay rfl rfl h
    · simp at h
theorem argsW_t : ∀ {args : List Val} {ps : List UInt8}, fitsAll args ps = true → (∀ t, t ∈ ps → t = 105 ∨ t = 108) → (argsW args).map W.t = ps
  | [], [], _, _ => rfl
  | a :: l, t :: ps, h, hp => by
    simp only [fitsAll, Bool.and_eq_true] at h
    have ih := argsW_t h.2 (fun u hu => hp u (List.mem_cons_of_mem _ hu))
    have h1 := h.1
    unfold fits at h1
    have h1 := (of_decide_eq_true h1).1
    have e : a.t = t := UInt8.toNat_inj.1 (by omega)
    have e2 : (word a.t a.v).t = t := by
      rw [e]
      rcases hp t List.mem_cons_self with rfl | rfl
      · rfl
      · rfl
    simp only [argsW, List.map_cons, List.cons.injEq] at ih ⊢
    exact ⟨e2, ih⟩
  | [], _ :: _, h, _ => by simp [fitsAll] at h
  | _ :: _, [], h, _ => by simp [fitsAll] at h
end Go.Wl
