/- Walks: package run, the loop (made by program out of short notes) -/
import Derived.Test.Qxb6500572aGreatDoorWAskB
import Derived.Test.Qxb6500572aGreatDoorPVmB
import Derived.Test.Qxb6500572aGreatDoorWMachC
namespace Go.Sl
open Go Go.Wl Go.Proofs
set_option maxRecDepth 100000
set_option linter.unusedVariables false
set_option linter.unusedSimpArgs false
theorem push_inst {x : Nat} {pv kv : Value} {fa a1 : Option Addr} {i : Inst} {y : W} {fc c1 : Nat} {sf s3 : Seg} (hAr : Arr 209 1 a1 (i.st.length + 1) c1 (i.st.map W.v ++ [y.v]) s3) (hfr : Arr 257 5 fa i.fr.length fc (i.fr.flatMap frV) sf) :
    isInst x pv kv fa { i with st := i.st ++ [y] } (List.flatten [blk x 93 [pv, kv, .slice a1 (i.st.length + 1) c1, .slice fa i.fr.length fc, I i.used, I i.high], s3, sf]) := by
  refine ⟨a1, c1, fc, s3, sf, by simp only [List.length_append, List.length_cons, List.length_nil], ?_, hfr⟩
  dsimp only
  rw [st_snoc, List.length_append]; exact hAr
theorem pc_inst {x : Nat} {pv kv : Value} {bf : Nat} {i : Inst} {sa : Option Addr} {sc fc : Nat} {ss : Seg} {spf : List Value} {pc : Int} (hN : 0 < i.fr.length) (hst : Arr 209 1 sa i.st.length sc (i.st.map W.v) ss) (hfc : i.fr.length ≤ fc) (hspf : spf.length = (fc - i.fr.length) * 5) :
    isInst x pv kv (some ⟨bf, 0, none⟩) (i.setTop { i.top with pc := pc }) (List.flatten [blk x 93 [pv, kv, .slice sa i.st.length sc, .slice (some ⟨bf, 0, none⟩) i.fr.length fc, I i.used, I i.high], ss, blk bf 257 ((i.fr.flatMap frV ++ spf).set (0 + ((i.fr.length : Int) - 1).toNat * 5 + 1) (I pc))]) := by
  refine ⟨sa, sc, fc, ss, _, by rw [show (i.setTop { i.top with pc := pc }).fr.length = i.fr.length by simp [Inst.setTop]]; rfl, hst, ?_⟩
  exact fr_upd (i := i) _ rfl hN (by decide) hfc hspf (by rw [← itop_eq (by omega)]; rfl)
theorem ble_row {i : Inst} {fc q : Nat} {spf : List Value} (hN : 0 < i.fr.length) (hq : q < 5) : Nat.ble (0 + ((i.fr.length : Int) - 1).toNat * 5 + q + 1) (i.fr.flatMap frV ++ spf).length = true := by
  have hlf : (i.fr.flatMap frV).length = i.fr.length * 5 := flat_len frV_len _
  exact Nat.ble_eq_true_of_le (by simp only [List.length_append]; omega)

theorem run_alu (x pb kb bf : Nat) (m : VM) (s : Seg) (hm : isInst x (.pointer (some ⟨pb, 0, none⟩)) (.pointer (some ⟨kb, 0, none⟩)) (some ⟨bf, 0, none⟩) m.i s) (hpre : Pre m) (c : Flat) (hpo : PreOp m c) (hop : ¬ (0 ≤ c.op ∧ c.op ≤ 28)) : Spec Tryz.prog 138 [.pointer (some ⟨x, 0, none⟩), I c.op] [s] (RetP (fun v H => ∃ y s', v = .tuple #[] ∧ H = [s'] ∧ isInst x (.pointer (some ⟨pb, 0, none⟩)) (.pointer (some ⟨kb, 0, none⟩)) (some ⟨bf, 0, none⟩) (if aluBin c.op = true then m.pop.pop.push y else m.pop.push y).i s' ∧ m.exec c = (if aluBin c.op = true then m.pop.pop.push y else m.pop.push y).next) (fun c' H => ∃ e st' s', e ≠ 0 ∧ c' = trapC e ∧ H = [s'] ∧ isInst x (.pointer (some ⟨pb, 0, none⟩)) (.pointer (some ⟨kb, 0, none⟩)) (some ⟨bf, 0, none⟩) { m.i with st := st' } s' ∧ m.exec c = (m, some e))) := by
  obtain ⟨hcl, hb2, hb1⟩ := hpo.pal hop
  have hz : m.i.st.length ≤ 1000000 ∧ m.i.fr.length ≤ 1000000 := (by have := hpre.stl; have := hpre.fr4; exact ⟨by omega, by omega⟩)
  by_cases h0x : 40 ≤ c.op ∧ c.op < 56
  · have hab : aluBin c.op = true := by unfold aluBin; exact decide_eq_true (by omega)
    have haf : aluFrom c.op = false := by unfold aluFrom; exact decide_eq_false (by omega)
    have hat : aluTo c.op = 105 := by unfold aluTo; rw [if_neg (by omega)]
    obtain ⟨ht, hw1, hw2⟩ := hb2 hab
    rw [haf] at hw1 hw2
    have hl1 : m.i.st.dropLast.length = m.i.st.dropLast.dropLast.length + 1 := ht.pop.len
    have hl2 := (ht.mono (by omega : 1 ≤ 2)).len
    have ho1 := ok32 hw1 (hpre.ok _ (lst_mem (by omega)))
    have ho2 := ok32 hw2 (hpre.pops _ (lst_mem (show 0 < m.i.st.dropLast.length by omega)))
    have hst0 : m.i.st = m.i.st.dropLast.dropLast ++ [⟨false, (lst m.i.st.dropLast).n⟩, ⟨false, (lst m.i.st).n⟩] := by
      conv => lhs; rw [ht.two, w_false hw1, show lst m.i.st.dropLast = _ from w_false hw2]
    refine (run_alu_b32 x (.pointer (some ⟨pb, 0, none⟩)) (.pointer (some ⟨kb, 0, none⟩)) (some ⟨bf, 0, none⟩) m.i s hm hpre.fr0 hz c.op (lst m.i.st.dropLast).n (lst m.i.st).n ho1 ho2 (by omega) m.i.st.dropLast.dropLast (ht.floor _ (by omega)) hst0).mono fun z H hh => ?_
    cases z with
    | returned v =>
      obtain ⟨h0, s', h1, h2, h3⟩ := hh
      refine ⟨word (aluTo c.op) (alu c.op (lst m.i.st.dropLast).n (lst m.i.st).n).1, s', h1, h2, ?_, ?_⟩
      · rw [hab, hat]; exact h3
      · rw [hab, exec_xb hop hab]; unfold VM.xb; exact if_pos h0
    | panicked c' =>
      obtain ⟨h0, h1, s', h2, h3⟩ := hh
      refine ⟨_, m.i.st.dropLast.dropLast, s', h0, h1, h2, h3, ?_⟩
      rw [exec_xb hop hab]; unfold VM.xb; exact if_neg h0
    | outgrown => exact hh
  by_cases h1x : 60 ≤ c.op ∧ c.op < 73
  · have hab : aluBin c.op = true := by unfold aluBin; exact decide_eq_true (by omega)
    have haf : aluFrom c.op = true := by unfold aluFrom; exact decide_eq_true (by omega)
    have hat : aluTo c.op = 108 := by unfold aluTo; rw [if_pos (by omega)]
    obtain ⟨ht, hw1, hw2⟩ := hb2 hab
    rw [haf] at hw1 hw2
    have hl1 : m.i.st.dropLast.length = m.i.st.dropLast.dropLast.length + 1 := ht.pop.len
    have hl2 := (ht.mono (by omega : 1 ≤ 2)).len
    have ho1 := ok64 hw1 (hpre.ok _ (lst_mem (by omega)))
    have ho2 := ok64 hw2 (hpre.pops _ (lst_mem (show 0 < m.i.st.dropLast.length by omega)))
    have hst0 : m.i.st = m.i.st.dropLast.dropLast ++ [⟨true, (lst m.i.st.dropLast).n⟩, ⟨true, (lst m.i.st).n⟩] := by
      conv => lhs; rw [ht.two, w_true hw1, show lst m.i.st.dropLast = _ from w_true hw2]
    refine (run_alu_b64 x (.pointer (some ⟨pb, 0, none⟩)) (.pointer (some ⟨kb, 0, none⟩)) (some ⟨bf, 0, none⟩) m.i s hm hpre.fr0 hz c.op (lst m.i.st.dropLast).n (lst m.i.st).n ho1 ho2 (by omega) m.i.st.dropLast.dropLast (ht.floor _ (by omega)) hst0).mono fun z H hh => ?_
    cases z with
    | returned v =>
      obtain ⟨h0, s', h1, h2, h3⟩ := hh
      refine ⟨word (aluTo c.op) (alu c.op (lst m.i.st.dropLast).n (lst m.i.st).n).1, s', h1, h2, ?_, ?_⟩
      · rw [hab, hat]; exact h3
      · rw [hab, exec_xb hop hab]; unfold VM.xb; exact if_pos h0
    | panicked c' =>
      obtain ⟨h0, h1, s', h2, h3⟩ := hh
      refine ⟨_, m.i.st.dropLast.dropLast, s', h0, h1, h2, h3, ?_⟩
      rw [exec_xb hop hab]; unfold VM.xb; exact if_neg h0
    | outgrown => exact hh
  by_cases h2x : 73 ≤ c.op ∧ c.op < 76
  · have hab : aluBin c.op = true := by unfold aluBin; exact decide_eq_true (by omega)
    have haf : aluFrom c.op = true := by unfold aluFrom; exact decide_eq_true (by omega)
    have hat : aluTo c.op = 105 := by unfold aluTo; rw [if_neg (by omega)]
    obtain ⟨ht, hw1, hw2⟩ := hb2 hab
    rw [haf] at hw1 hw2
    have hl1 : m.i.st.dropLast.length = m.i.st.dropLast.dropLast.length + 1 := ht.pop.len
    have hl2 := (ht.mono (by omega : 1 ≤ 2)).len
    have ho1 := ok64 hw1 (hpre.ok _ (lst_mem (by omega)))
    have ho2 := ok64 hw2 (hpre.pops _ (lst_mem (show 0 < m.i.st.dropLast.length by omega)))
    have hst0 : m.i.st = m.i.st.dropLast.dropLast ++ [⟨true, (lst m.i.st.dropLast).n⟩, ⟨true, (lst m.i.st).n⟩] := by
      conv => lhs; rw [ht.two, w_true hw1, show lst m.i.st.dropLast = _ from w_true hw2]
    refine (run_alu_c64 x (.pointer (some ⟨pb, 0, none⟩)) (.pointer (some ⟨kb, 0, none⟩)) (some ⟨bf, 0, none⟩) m.i s hm hpre.fr0 hz c.op (lst m.i.st.dropLast).n (lst m.i.st).n ho1 ho2 (by omega) m.i.st.dropLast.dropLast (ht.floor _ (by omega)) hst0).mono fun z H hh => ?_
    cases z with
    | returned v =>
      obtain ⟨h0, s', h1, h2, h3⟩ := hh
      refine ⟨word (aluTo c.op) (alu c.op (lst m.i.st.dropLast).n (lst m.i.st).n).1, s', h1, h2, ?_, ?_⟩
      · rw [hab, hat]; exact h3
      · rw [hab, exec_xb hop hab]; unfold VM.xb; exact if_pos h0
    | panicked c' =>
      obtain ⟨h0, h1, s', h2, h3⟩ := hh
      refine ⟨_, m.i.st.dropLast.dropLast, s', h0, h1, h2, h3, ?_⟩
      rw [exec_xb hop hab]; unfold VM.xb; exact if_neg h0
    | outgrown => exact hh
  by_cases h3x : c.op = 29
  · have hab : aluBin c.op = false := by unfold aluBin; exact decide_eq_false (by omega)
    have haf : aluFrom c.op = false := by unfold aluFrom; exact decide_eq_false (by omega)
    have hat : aluTo c.op = 105 := by unfold aluTo; rw [if_neg (by omega)]
    obtain ⟨ht, hw1⟩ := hb1 hab
    rw [haf] at hw1
    have hl2 := ht.len
    have ho1 := ok32 hw1 (hpre.ok _ (lst_mem (by omega)))
    have hst0 : m.i.st = m.i.st.dropLast ++ [⟨false, (lst m.i.st).n⟩] := by
      conv => lhs; rw [ht.one, w_false hw1]
    refine (run_alu_u29 x (.pointer (some ⟨pb, 0, none⟩)) (.pointer (some ⟨kb, 0, none⟩)) (some ⟨bf, 0, none⟩) m.i s hm hpre.fr0 hz c.op (lst m.i.st).n ho1 (by omega) m.i.st.dropLast (ht.floor _ ht.len) hst0).mono fun z H hh => ?_
    cases z with
    | returned v =>
      obtain ⟨h0, s', h1, h2, h3⟩ := hh
      refine ⟨word (aluTo c.op) (alu c.op (lst m.i.st).n 0).1, s', h1, h2, ?_, ?_⟩
      · rw [hab, hat]; exact h3
      · rw [hab, exec_xu hop hab]; unfold VM.xu; exact if_pos h0
    | panicked c' =>
      obtain ⟨h0, h1, s', h2, h3⟩ := hh
      refine ⟨_, m.i.st.dropLast, s', h0, h1, h2, h3, ?_⟩
      rw [exec_xu hop hab]; unfold VM.xu; exact if_neg h0
    | outgrown => exact hh
  by_cases h4x : c.op = 30
  · have hab : aluBin c.op = false := by unfold aluBin; exact decide_eq_false (by omega)
    have haf : aluFrom c.op = true := by unfold aluFrom; exact decide_eq_true (by omega)
    have hat : aluTo c.op = 105 := by unfold aluTo; rw [if_neg (by omega)]
    obtain ⟨ht, hw1⟩ := hb1 hab
    rw [haf] at hw1
    have hl2 := ht.len
    have ho1 := ok64 hw1 (hpre.ok _ (lst_mem (by omega)))
    have hst0 : m.i.st = m.i.st.dropLast ++ [⟨true, (lst m.i.st).n⟩] := by
      conv => lhs; rw [ht.one, w_true hw1]
    refine (run_alu_u30 x (.pointer (some ⟨pb, 0, none⟩)) (.pointer (some ⟨kb, 0, none⟩)) (some ⟨bf, 0, none⟩) m.i s hm hpre.fr0 hz c.op (lst m.i.st).n ho1 (by omega) m.i.st.dropLast (ht.floor _ ht.len) hst0).mono fun z H hh => ?_
    cases z with
    | returned v =>
      obtain ⟨h0, s', h1, h2, h3⟩ := hh
      refine ⟨word (aluTo c.op) (alu c.op (lst m.i.st).n 0).1, s', h1, h2, ?_, ?_⟩
      · rw [hab, hat]; exact h3
      · rw [hab, exec_xu hop hab]; unfold VM.xu; exact if_pos h0
    | panicked c' =>
      obtain ⟨h0, h1, s', h2, h3⟩ := hh
      refine ⟨_, m.i.st.dropLast, s', h0, h1, h2, h3, ?_⟩
      rw [exec_xu hop hab]; unfold VM.xu; exact if_neg h0
    | outgrown => exact hh
  by_cases h5x : c.op = 31
  · have hab : aluBin c.op = false := by unfold aluBin; exact decide_eq_false (by omega)
    have haf : aluFrom c.op = true := by unfold aluFrom; exact decide_eq_true (by omega)
    have hat : aluTo c.op = 105 := by unfold aluTo; rw [if_neg (by omega)]
    obtain ⟨ht, hw1⟩ := hb1 hab
    rw [haf] at hw1
    have hl2 := ht.len
    have ho1 := ok64 hw1 (hpre.ok _ (lst_mem (by omega)))
    have hst0 : m.i.st = m.i.st.dropLast ++ [⟨true, (lst m.i.st).n⟩] := by
      conv => lhs; rw [ht.one, w_true hw1]
    refine (run_alu_u31 x (.pointer (some ⟨pb, 0, none⟩)) (.pointer (some ⟨kb, 0, none⟩)) (some ⟨bf, 0, none⟩) m.i s hm hpre.fr0 hz c.op (lst m.i.st).n ho1 (by omega) m.i.st.dropLast (ht.floor _ ht.len) hst0).mono fun z H hh => ?_
    cases z with
    | returned v =>
      obtain ⟨h0, s', h1, h2, h3⟩ := hh
      refine ⟨word (aluTo c.op) (alu c.op (lst m.i.st).n 0).1, s', h1, h2, ?_, ?_⟩
      · rw [hab, hat]; exact h3
      · rw [hab, exec_xu hop hab]; unfold VM.xu; exact if_pos h0
    | panicked c' =>
      obtain ⟨h0, h1, s', h2, h3⟩ := hh
      refine ⟨_, m.i.st.dropLast, s', h0, h1, h2, h3, ?_⟩
      rw [exec_xu hop hab]; unfold VM.xu; exact if_neg h0
    | outgrown => exact hh
  by_cases h6x : c.op = 32
  · have hab : aluBin c.op = false := by unfold aluBin; exact decide_eq_false (by omega)
    have haf : aluFrom c.op = false := by unfold aluFrom; exact decide_eq_false (by omega)
    have hat : aluTo c.op = 108 := by unfold aluTo; rw [if_pos (by omega)]
    obtain ⟨ht, hw1⟩ := hb1 hab
    rw [haf] at hw1
    have hl2 := ht.len
    have ho1 := ok32 hw1 (hpre.ok _ (lst_mem (by omega)))
    have hst0 : m.i.st = m.i.st.dropLast ++ [⟨false, (lst m.i.st).n⟩] := by
      conv => lhs; rw [ht.one, w_false hw1]
    refine (run_alu_u32 x (.pointer (some ⟨pb, 0, none⟩)) (.pointer (some ⟨kb, 0, none⟩)) (some ⟨bf, 0, none⟩) m.i s hm hpre.fr0 hz c.op (lst m.i.st).n ho1 (by omega) m.i.st.dropLast (ht.floor _ ht.len) hst0).mono fun z H hh => ?_
    cases z with
    | returned v =>
      obtain ⟨h0, s', h1, h2, h3⟩ := hh
      refine ⟨word (aluTo c.op) (alu c.op (lst m.i.st).n 0).1, s', h1, h2, ?_, ?_⟩
      · rw [hab, hat]; exact h3
      · rw [hab, exec_xu hop hab]; unfold VM.xu; exact if_pos h0
    | panicked c' =>
      obtain ⟨h0, h1, s', h2, h3⟩ := hh
      refine ⟨_, m.i.st.dropLast, s', h0, h1, h2, h3, ?_⟩
      rw [exec_xu hop hab]; unfold VM.xu; exact if_neg h0
    | outgrown => exact hh
  by_cases h7x : c.op = 33
  · have hab : aluBin c.op = false := by unfold aluBin; exact decide_eq_false (by omega)
    have haf : aluFrom c.op = false := by unfold aluFrom; exact decide_eq_false (by omega)
    have hat : aluTo c.op = 108 := by unfold aluTo; rw [if_pos (by omega)]
    obtain ⟨ht, hw1⟩ := hb1 hab
    rw [haf] at hw1
    have hl2 := ht.len
    have ho1 := ok32 hw1 (hpre.ok _ (lst_mem (by omega)))
    have hst0 : m.i.st = m.i.st.dropLast ++ [⟨false, (lst m.i.st).n⟩] := by
      conv => lhs; rw [ht.one, w_false hw1]
    refine (run_alu_u33 x (.pointer (some ⟨pb, 0, none⟩)) (.pointer (some ⟨kb, 0, none⟩)) (some ⟨bf, 0, none⟩) m.i s hm hpre.fr0 hz c.op (lst m.i.st).n ho1 (by omega) m.i.st.dropLast (ht.floor _ ht.len) hst0).mono fun z H hh => ?_
    cases z with
    | returned v =>
      obtain ⟨h0, s', h1, h2, h3⟩ := hh
      refine ⟨word (aluTo c.op) (alu c.op (lst m.i.st).n 0).1, s', h1, h2, ?_, ?_⟩
      · rw [hab, hat]; exact h3
      · rw [hab, exec_xu hop hab]; unfold VM.xu; exact if_pos h0
    | panicked c' =>
      obtain ⟨h0, h1, s', h2, h3⟩ := hh
      refine ⟨_, m.i.st.dropLast, s', h0, h1, h2, h3, ?_⟩
      rw [exec_xu hop hab]; unfold VM.xu; exact if_neg h0
    | outgrown => exact hh
  omega

end Go.Sl
