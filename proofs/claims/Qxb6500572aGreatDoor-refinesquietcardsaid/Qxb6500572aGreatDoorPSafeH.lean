/- Where a call starts, and how it ends. -/
import Derived.Test.Qxb6500572aGreatDoorPSafeG
namespace Go.Sl
open Go Go.Wl Go.Proofs
set_option linter.unusedVariables false
variable {P : Prog} {mem : Mem} {o : Op1} {args : List Val} {m m' : VM}
theorem owed_parts (hPO : ProgOk P) {f : Int} (h : owed P f args = 0) : ∃ u, 0 ≤ f ∧ P.nimp ≤ f ∧ P.funs[f.toNat]? = some u ∧ P.sig f = (u.params, u.results, u.locals, true) ∧ args.length ≤ 3 ∧ fitsAll args u.params = true := by
  unfold owed at h
  split at h
  · cases h
  rename_i h1
  split at h
  · cases h
  rename_i h2
  split at h
  · cases h
  rename_i h3
  split at h
  · cases h
  rename_i h4
  have hn : P.nimp ≤ f := by have := fun hh => h2 (.inr hh); omega
  have h0 : 0 ≤ f := by have := hPO.nimp; omega
  have hok : (P.sig f).2.2.2 = true := by
    cases hx : (P.sig f).2.2.2 with
    | true => rfl
    | false => exact absurd (.inl hx) h2
  have hlt : f.toNat < P.funs.length := by
    rcases Nat.lt_or_ge f.toNat P.funs.length with hl | hl
    · exact hl
    · unfold Prog.sig at hok; rw [if_pos (by omega)] at hok; cases hok
  have hu : P.funs[f.toNat]? = some P.funs[f.toNat] := List.getElem?_eq_getElem hlt
  have hs := sig_some h0 hu
  refine ⟨_, h0, hn, hu, hs, by omega, ?_⟩
  rw [hs] at h4
  simpa using h4
theorem owed_casesH (f : Int) : owed P f args = 0 ∨ owed P f args = 1 ∨ owed P f args = 8 ∨ owed P f args = 7 := by
  unfold owed
  repeat' split
  all_goals simp
theorem Gd.start (hT : TOk P mem) (hO : OpOk o) (hA : ∀ y, y ∈ args → i64ok y.v) (h0 : owed P o.a args = 0) : Gd P mem o args (startVM P 0 mem (host0 o) o.a args) := by
  obtain ⟨u, a0, a1, a2, a3, a4, a5⟩ := owed_parts hT.p h0
  obtain ⟨b1, b2, b3, b4, b5, b6⟩ := hT.p.f u (List.mem_of_getElem? a2)
  obtain ⟨T, hFl⟩ := hT.p.fl o.a.toNat u (by omega) a2
  have hal := fitsAll_len a5
  have hwl : (argsW args).length = args.length := by unfold argsW; simp
  refine ⟨rfl, ?_, ?_, by simp [startVM, startI], ⟨by simp [startVM, startI], .inr rfl⟩, ⟨by simp [startVM, startI], by simp [startVM, startI]⟩, ⟨_, rfl, rfl⟩, hT.m, ⟨rfl, rfl, by simp [startVM, host0], by simp [startVM, host0], by simp [startVM, host0], fun n hn => by simp [startVM, host0] at hn⟩, fun _ => ⟨rfl, rfl, rfl, rfl, ?_⟩⟩
  · refine ⟨o.a.toNat, 0, u, T, [], [], argsW args ++ u.locals.map (fun t => word t 0), [], ⟨o.a, 0, 0, (argsW args).length + u.locals.length, u.results⟩, [], ?_, by simp; omega, rfl, by omega, a2, hFl, hFl.t0, ?_, ?_, rfl, rfl, ?_, rfl, rfl⟩
    · simp [startVM, startI, a3]
    · simp [startVM, startI, a3]
    · rw [List.map_append, argsW_t a5 b4, List.map_map]
      congr 1
      have : ∀ l : List UInt8, ty2 l → l.map (W.t ∘ fun t => word t 0) = l := fun l hl => by
        induction l with
        | nil => rfl
        | cons t l ih => rw [List.map_cons, ih (fun x hx => hl x (List.mem_cons_of_mem _ hx))]; congr 1; exact word_t (hl t List.mem_cons_self) 0
      exact this _ b6
    · simp
  · intro y hy
    have hy' : y ∈ argsW args ++ (P.sig o.a).2.2.1.map (fun t => word t 0) := hy
    rcases List.mem_append.1 hy' with hy' | hy'
    · obtain ⟨v, hv, rfl⟩ := List.mem_map.1 hy'
      exact ok_word (hA v hv)
    · obtain ⟨t, _, rfl⟩ := List.mem_map.1 hy'
      exact ok_word ⟨by decide, by decide⟩
  · show (argsW args ++ (P.sig o.a).2.2.1.map _).length = _
    rw [a3]; simp only [List.length_append, List.length_map]; omega
theorem trapOf_rng (x : HErr) (h : trapOf x ≠ 0) : 11 ≤ trapOf x ∧ trapOf x < 18 := by
  unfold trapOf at h ⊢
  split
  · rename_i h1; rw [if_pos h1] at h; exact absurd rfl h
  · split
    · rename_i h2; exact h2.2
    · exact ⟨by decide, by decide⟩
theorem ask_rng (h : Host) (imq : Int) (rs : List UInt8) (vals : List W) (h0 : (askM h imq rs vals).2.1 ≠ 0) : 11 ≤ (askM h imq rs vals).2.1 ∧ (askM h imq rs vals).2.1 < 18 := by
  unfold askM at h0 ⊢
  split
  · dsimp only; exact ⟨by decide, by decide⟩
  · rename_i h1
    rw [if_neg h1] at h0
    split
    · rename_i h2; exact trapOf_rng _ h2
    · rename_i h2
      rw [if_neg h2] at h0
      split
      · dsimp only; exact ⟨by decide, by decide⟩
      · rename_i h3; rw [if_neg h3] at h0; exact absurd rfl h0
theorem reach_e {m : Mem} {op f l ad off : Int} (h : f ≤ op ∧ op ≤ l) : (reach m op f l ad off).2.2 = 0 ∨ (reach m op f l ad off).2.2 = 12 := by
  unfold reach
  rw [if_neg (by omega)]
  split
  · exact .inr rfl
  · exact .inl rfl
theorem alu_e {op a b : Int} (h : (29 ≤ op ∧ op ≤ 33) ∨ (40 ≤ op ∧ op < 56) ∨ (60 ≤ op ∧ op < 76)) : (alu op a b).2 = 0 ∨ (alu op a b).2 = 11 := by
  have h9 := alu_ne9 (a := a) (b := b) h
  unfold alu unitF at h9 ⊢
  repeat' split
  all_goals first | exact .inl rfl | exact .inr rfl | skip
  omega
theorem exec_trap {c : Flat} {e : Int} (hp : PreOp m c) (h : m.exec c = (m', some e)) (he : e ≠ 0) : 11 ≤ e ∧ e < 18 := by
  by_cases h0 : c.op = 0
  · rw [VM.exec, if_pos h0] at h
    simp [VM.x0] at h; omega
  by_cases h1 : c.op = 3
  · rw [VM.exec, if_neg h0, if_pos h1] at h
    unfold VM.x3 at h; split at h <;> simp [VM.next] at h
  by_cases h2 : c.op = 4
  · rw [VM.exec, if_neg h0, if_neg h1, if_pos h2] at h
    simp [VM.x4] at h
  by_cases h3 : c.op = 5 ∨ c.op = 9
  · rw [VM.exec, if_neg h0, if_neg h1, if_neg h2, if_pos h3] at h
    unfold VM.x5 at h
    simp only [Prod.mk.injEq] at h
    obtain ⟨rfl, h2⟩ := h
    split at h2
    · simp at h2; omega
    · cases h2
  by_cases h4 : c.op = 6
  · rw [VM.exec, if_neg h0, if_neg h1, if_neg h2, if_neg h3, if_pos h4] at h
    simp [VM.x6] at h
  by_cases h5 : c.op = 7
  · rw [VM.exec, if_neg h0, if_neg h1, if_neg h2, if_neg h3, if_neg h4, if_pos h5] at h
    unfold VM.x7 at h; split at h <;> simp [VM.next] at h
  by_cases h6 : c.op = 8
  · rw [VM.exec, if_neg h0, if_neg h1, if_neg h2, if_neg h3, if_neg h4, if_neg h5, if_pos h6] at h
    simp [VM.x8] at h
  by_cases h7 : c.op = 10
  · rw [VM.exec, if_neg h0, if_neg h1, if_neg h2, if_neg h3, if_neg h4, if_neg h5, if_neg h6, if_pos h7] at h
    unfold VM.x10 at h
    split at h
    · split at h
      · simp at h
      · simp at h; omega
    · split at h
      · simp [VM.next] at h
      · rename_i hne; simp only [Prod.mk.injEq, Option.some.injEq] at h; rw [← h.2]; exact ask_rng _ _ _ _ hne
  by_cases h8 : c.op = 11
  · rw [VM.exec, if_neg h0, if_neg h1, if_neg h2, if_neg h3, if_neg h4, if_neg h5, if_neg h6, if_neg h7, if_pos h8] at h
    simp [VM.x11, VM.next] at h
  by_cases h9 : c.op = 12
  · rw [VM.exec, if_neg h0, if_neg h1, if_neg h2, if_neg h3, if_neg h4, if_neg h5, if_neg h6, if_neg h7, if_neg h8, if_pos h9] at h
    unfold VM.x12 at h; split at h <;> simp [VM.next] at h
  by_cases h10 : c.op = 13
  · rw [VM.exec, if_neg h0, if_neg h1, if_neg h2, if_neg h3, if_neg h4, if_neg h5, if_neg h6, if_neg h7, if_neg h8, if_neg h9, if_pos h10] at h
    simp [VM.x13, VM.next] at h
  by_cases h11 : c.op = 14
  · rw [VM.exec, if_neg h0, if_neg h1, if_neg h2, if_neg h3, if_neg h4, if_neg h5, if_neg h6, if_neg h7, if_neg h8, if_neg h9, if_neg h10, if_pos h11] at h
    simp [VM.x14, VM.next] at h
  by_cases h12 : c.op = 15
  · rw [VM.exec, if_neg h0, if_neg h1, if_neg h2, if_neg h3, if_neg h4, if_neg h5, if_neg h6, if_neg h7, if_neg h8, if_neg h9, if_neg h10, if_neg h11, if_pos h12] at h
    simp [VM.x15, VM.next] at h
  by_cases h13 : c.op = 16
  · rw [VM.exec, if_neg h0, if_neg h1, if_neg h2, if_neg h3, if_neg h4, if_neg h5, if_neg h6, if_neg h7, if_neg h8, if_neg h9, if_neg h10, if_neg h11, if_neg h12, if_pos h13] at h
    simp [VM.x16, VM.next] at h
  by_cases h14 : c.op = 17
  · rw [VM.exec, if_neg h0, if_neg h1, if_neg h2, if_neg h3, if_neg h4, if_neg h5, if_neg h6, if_neg h7, if_neg h8, if_neg h9, if_neg h10, if_neg h11, if_neg h12, if_neg h13, if_pos h14] at h
    simp [VM.x17, VM.next] at h
  by_cases h15 : c.op = 18
  · rw [VM.exec, if_neg h0, if_neg h1, if_neg h2, if_neg h3, if_neg h4, if_neg h5, if_neg h6, if_neg h7, if_neg h8, if_neg h9, if_neg h10, if_neg h11, if_neg h12, if_neg h13, if_neg h14, if_pos h15] at h
    simp [VM.x18, VM.next] at h
  by_cases h16 : 19 ≤ c.op ∧ c.op ≤ 24
  · rw [VM.exec, if_neg h0, if_neg h1, if_neg h2, if_neg h3, if_neg h4, if_neg h5, if_neg h6, if_neg h7, if_neg h8, if_neg h9, if_neg h10, if_neg h11, if_neg h12, if_neg h13, if_neg h14, if_neg h15, if_pos h16] at h
    unfold VM.x19 at h
    split at h
    · simp [VM.next] at h
    · rename_i hne
      simp only [Prod.mk.injEq, Option.some.injEq] at h
      rw [← h.2]
      have hr := reach_e (m := m.mem) (f := 19) (l := 24) (ad := (lst m.i.st).n) (off := c.imm) (by omega : 19 ≤ c.op ∧ c.op ≤ 24)
      unfold mload at hne ⊢
      split
      · dsimp only; omega
      · rename_i h0; rw [if_neg h0] at hne; exact absurd rfl hne
  by_cases h17 : 25 ≤ c.op ∧ c.op ≤ 28
  · rw [VM.exec, if_neg h0, if_neg h1, if_neg h2, if_neg h3, if_neg h4, if_neg h5, if_neg h6, if_neg h7, if_neg h8, if_neg h9, if_neg h10, if_neg h11, if_neg h12, if_neg h13, if_neg h14, if_neg h15, if_neg h16, if_pos h17] at h
    unfold VM.x25 at h
    split at h
    · simp [VM.next] at h
    · rename_i hne
      simp only [Prod.mk.injEq, Option.some.injEq] at h
      rw [← h.2]
      have hr := reach_e (m := m.mem) (f := 25) (l := 28) (ad := (lst m.pop.i.st).n) (off := c.imm) (by omega : 25 ≤ c.op ∧ c.op ≤ 28)
      unfold mstore at hne ⊢
      split
      · dsimp only; omega
      · rename_i h0; rw [if_neg h0] at hne; exact absurd rfl hne
  by_cases h18 : aluBin c.op = true
  · rw [VM.exec, if_neg h0, if_neg h1, if_neg h2, if_neg h3, if_neg h4, if_neg h5, if_neg h6, if_neg h7, if_neg h8, if_neg h9, if_neg h10, if_neg h11, if_neg h12, if_neg h13, if_neg h14, if_neg h15, if_neg h16, if_neg h17, if_pos h18] at h
    have hcl := (hp.pal (by have := of_decide_eq_true (show decide _ = true from h18); omega)).1
    unfold VM.xb at h
    split at h
    · simp [VM.next] at h
    · rename_i hne
      simp only [Prod.mk.injEq, Option.some.injEq] at h
      rw [← h.2]
      have := alu_e (a := (lst m.pop.i.st).n) (b := (lst m.i.st).n) hcl
      omega
  rw [VM.exec, if_neg h0, if_neg h1, if_neg h2, if_neg h3, if_neg h4, if_neg h5, if_neg h6, if_neg h7, if_neg h8, if_neg h9, if_neg h10, if_neg h11, if_neg h12, if_neg h13, if_neg h14, if_neg h15, if_neg h16, if_neg h17, if_neg h18] at h
  have hno := hp.pno
  have hcl := (hp.pal (by omega)).1
  unfold VM.xu at h
  split at h
  · simp [VM.next] at h
  · rename_i hne
    simp only [Prod.mk.injEq, Option.some.injEq] at h
    rw [← h.2]
    have := alu_e (a := (lst m.i.st).n) (b := 0) hcl
    omega
end Go.Sl
