/- Walks: package run, the loop (made by program out of short notes) -/
import Derived.Test.Qxb6500572aGreatDoorWLoop
namespace Go.Sl
open Go Go.Wl Go.Proofs
set_option maxRecDepth 100000
set_option linter.unusedVariables false
set_option linter.unusedSimpArgs false
theorem y_lssT {P : Program} {n : Nat} {ρ : Env} {H : Hp} {ty t u : TypeId} {x y : Operand} {k : IntKind} {a b : Int} (hx : ev ρ x = some (.int k a)) (hy : ev ρ y = some (.int k b)) (h : a < b) : Yo P n (.binOp .lss t x y u) ty ρ H (.bool true) := by
  have := y_lss (P := P) (n := n) (t := t) (u := u) (ty := ty) (H := H) hx hy
  rwa [decide_eq_true h] at this
theorem y_eqlF {P : Program} {n : Nat} {ρ : Env} {H : Hp} {ty t u : TypeId} {x y : Operand} {k : IntKind} {a b : Int} (hx : ev ρ x = some (.int k a)) (hy : ev ρ y = some (.int k b)) (h : a ≠ b) : Yo P n (.binOp .eql t x y u) ty ρ H (.bool false) := by
  have := y_eql (P := P) (n := n) (t := t) (u := u) (ty := ty) (H := H) hx hy
  rwa [decide_eq_false h] at this
theorem W_one1 (y : W) : y.v.oneCell' = true := by obtain ⟨w, n⟩ := y; cases w <;> rfl
theorem leave_pre {m : VM} {c : Flat} (hpo : PreOp m c) (h : c.op = 5 ∨ c.op = 9) : ∃ mid, m.i.st = m.i.st.take m.i.top.base ++ mid ++ m.i.st.drop (m.i.st.length - m.i.top.res.length) ∧ m.i.top.base = (m.i.st.take m.i.top.base).length ∧
    m.i.top.floor ≤ (m.i.st.take m.i.top.base).length + mid.length ∧ m.i.top.res = (m.i.st.drop (m.i.st.length - m.i.top.res.length)).map W.t := by
  obtain ⟨h1, h2, h3⟩ := hpo.p5 h
  unfold Top at h2
  refine ⟨(m.i.st.take (m.i.st.length - m.i.top.res.length)).drop m.i.top.base, ?_, ?_, ?_, h3.symm⟩
  · have e : m.i.st.take m.i.top.base = (m.i.st.take (m.i.st.length - m.i.top.res.length)).take m.i.top.base := by
      rw [List.take_take, Nat.min_eq_left (by omega)]
    rw [e, List.take_append_drop, List.take_append_drop]
  · rw [List.length_take]; omega
  · rw [List.length_take, List.length_drop, List.length_take]; omega
theorem setTop_top {i : Inst} {f : Fr} (h : 0 < i.fr.length) : (i.setTop f).top = f := by
  unfold Inst.top Inst.setTop
  simp only [List.length_set]
  rw [List.getD_eq_getElem?_getD, List.getElem?_set_self (by omega)]; rfl
theorem set_row {st : List W} {bs sc k : Nat} {sps : List Value} {y : W} {v : Value} {j : Int} (hk : k < st.length) (hj : j.toNat = k) (hv : v = y.v) (hsc : st.length ≤ sc) (hsps : sps.length = (sc - st.length) * 1) :
    Arr 209 1 (some ⟨bs, 0, none⟩) (st.set k y).length sc ((st.set k y).map W.v) (blk bs 209 ((st.map W.v ++ sps).set (0 + j.toNat * 1) v)) := by
  subst hv
  rw [show 0 + j.toNat * 1 = k by omega, List.set_append_left _ _ (by simpa using hk), ← List.map_set]
  exact Arr.mk (by simp) (by simpa using hsc) (by simpa using hsps)

set_option maxHeartbeats 8000000 in
theorem run_loop (x pb kb hb : Nat) (pfa : Option Addr) (fuel : Int) (hfuel : fuel ≤ 9223372036854775807) (hv : Value) (Good : VM → Prop) (mu : VM → Nat) (hG : ∀ m, Good m → Pre m) (hS : ∀ m m', Good m → m.step fuel = (m', none) → Good m' ∧ mu m' < mu m) (m0 : VM) (g0 : Good m0) (fa : Option Addr) (s sp sk sh : Seg) (hm : isInst x (.pointer (some ⟨pb, 0, none⟩)) (.pointer (some ⟨kb, 0, none⟩)) fa m0.i s) (hp : isProg pb pfa m0.P m0.steps sp) (hk : isMach kb m0.mem sk) (hh : isHost hb m0.host sh) (hhv : hostV hb m0.host = hv) : Spec Tryz.prog 89 [.pointer (some ⟨x, 0, none⟩), I fuel, hv] [s, sp, sk, sh] (RetP (fun v H => ∃ m m' s' sp' sk' sh' fa', Good m ∧ m.step fuel = (m', some 0) ∧ v = .tuple #[] ∧ H = [s', sp', sk', sh'] ∧ isInst x (.pointer (some ⟨pb, 0, none⟩)) (.pointer (some ⟨kb, 0, none⟩)) fa' m'.i s' ∧ isProg pb pfa m'.P m'.steps sp' ∧ isMach kb m'.mem sk' ∧ isHost hb m'.host sh') (fun c H => ∃ m m' e s' sp' sk' sh' fa' st' fr', Good m ∧ m.step fuel = (m', some e) ∧ e ≠ 0 ∧ c = trapC e ∧ H = [s', sp', sk', sh'] ∧ isInst x (.pointer (some ⟨pb, 0, none⟩)) (.pointer (some ⟨kb, 0, none⟩)) fa' { m'.i with st := st', fr := fr' } s' ∧ isProg pb pfa m'.P m'.steps sp' ∧ isMach kb m'.mem sk' ∧ isHost hb m'.host sh')) := by
  refine Spec_enter Tryz.func89 rfl Tryz.ntmps89 rfl ?_
  show SP _ _ _ _ _ [(0, _), (1, _), (2, _)] _
  refine SP_scope ?_
  refine SP_seq ?_
  refine SP_label ?_
  refine thenP_n ?_
  refine SP_block ?_
  refine SP_loop (G := VM × Option Addr × Seg × Seg × Seg × Seg) (fun g => mu g.1) (fun g => [(0, .pointer (some ⟨x, 0, none⟩)), (1, I fuel), (2, hv)]) (fun g => [g.2.2.1, g.2.2.2.1, g.2.2.2.2.1, g.2.2.2.2.2]) (fun g => Good g.1 ∧ isInst x (.pointer (some ⟨pb, 0, none⟩)) (.pointer (some ⟨kb, 0, none⟩)) g.2.1 g.1.i g.2.2.1 ∧ isProg pb pfa g.1.P g.1.steps g.2.2.2.1 ∧ isMach kb g.1.mem g.2.2.2.2.1 ∧ isHost hb g.1.host g.2.2.2.2.2 ∧ hostV hb g.1.host = hv) (⟨m0, fa, s, sp, sk, sh⟩) (⟨g0, hm, hp, hk, hh, hhv⟩) (by repeat (first | exact Sub.nil _ | refine Sub.cons rfl ?_)) (by repeat (first | exact Part.nil _ | (apply Part.cons; (first | exact P0 | exact P1 | exact P2 | exact P3 | exact P4 | exact P5 | exact P6 | exact P7 | exact P8 | exact P9 | exact P10 | exact P11 | exact P12 | exact P13 | exact P14 | exact P15 | exact P16 | exact P17 | exact P18 | exact P19 | exact P20 | exact P21 | exact P22 | exact P23)) | (apply Part.flat; simp only [List.cons_append, List.nil_append]) | (apply Part.nilc))) ?_
  rintro ⟨m, fa, s, sp, sk, sh⟩ ⟨hg, hm, hp, hk, hh, hhv⟩
  dsimp only at hg hm hp hk hh hhv ⊢
  have hpre := hG m hg
  have hN := hpre.fr0
  refine SP_block ?_
  refine SP_seq ?_
  obtain ⟨sa, sc, fc, ss, sf, rfl, hst, hfr⟩ := hm
  refine SP_open (by first | exact P0 | exact P1 | exact P2 | exact P3 | exact P4 | exact P5 | exact P6 | exact P7 | exact P8 | exact P9 | exact P10 | exact P11 | exact P12 | exact P13 | exact P14 | exact P15 | exact P16 | exact P17 | exact P18 | exact P19 | exact P20 | exact P21 | exact P22 | exact P23) ?_
  simp only [List.cons_append, List.nil_append]
  obtain ⟨bf, spf, rfl, hfc, hspf, rfl⟩ := hfr.row hN
  have hl0 := hpre.fr4
  have hl1 := hpre.stl
  have hu0 := hpre.used0
  refine SP_draw 999 [(0, 0), (1, 0), (2, 0), (4, 0), (5, 0), (6, 0), (3, 1), (7, 1), (8, 0), (9, 0), (10, 0), (11, 0)] mixed (by kernel_rfl) (fun _ _ _ _ _ h => h) (Part.refl _) ?_
  refine SPO_p rfl (y_move rfl) rfl ?_
  refine SPO_p rfl (y_nil rfl) rfl ?_
  refine SPO_p rfl (y_fa fld_93_3 rfl) rfl ?_
  refine SPO_p rfl (y_move rfl) rfl ?_
  refine SPO_p rfl (y_nil rfl) rfl ?_
  refine SPO_p rfl (y_fa fld_93_3 rfl) rfl ?_
  refine SPO_h rfl (y_load Tryz.isAgg91 rfl (by repeat (first | exact Cell.head rfl | apply Cell.tail))) rfl ?_
  refine SPO_h rfl (y_load Tryz.isAgg91 rfl (by repeat (first | exact Cell.head rfl | apply Cell.tail))) rfl ?_
  refine SPO_p rfl (y_len_l Tryz.underlying91 rfl) rfl ?_
  refine SPO_p rfl (y_sub rfl rfl (by omega)) rfl ?_
  refine SPO_p rfl (y_ia Tryz.underlying91 Tryz.sizeOf257 rfl rfl (by omega)) rfl ?_
  refine SPO_p rfl (y_assign rfl) rfl ?_
  refine SPO_nil ?_
  refine thenP_n ?_
  refine SP_seq ?_
  refine SP_draw 13 [(0, 0), (1, 0), (2, 0), (3, 0), (5, 0), (6, 0), (7, 0), (4, 1), (8, 1), (9, 0), (10, 0), (11, 0), (12, 0), (13, 3)] mixed (by kernel_rfl) (fun _ _ _ _ _ h => h) (Part.refl _) ?_
  refine SPO_p rfl (y_move rfl) rfl ?_
  refine SPO_p rfl (y_move rfl) rfl ?_
  refine SPO_p rfl (y_nil rfl) rfl ?_
  refine SPO_p rfl (y_fa fld_93_5 rfl) rfl ?_
  refine SPO_p rfl (y_move rfl) rfl ?_
  refine SPO_p rfl (y_nil rfl) rfl ?_
  refine SPO_p rfl (y_fa fld_93_2 rfl) rfl ?_
  refine SPO_h rfl (y_load Tryz.isAgg3 rfl (by repeat (first | exact Cell.head rfl | apply Cell.tail))) rfl ?_
  refine SPO_h rfl (y_load Tryz.isAgg90 rfl (by repeat (first | exact Cell.head rfl | apply Cell.tail))) rfl ?_
  refine SPO_p rfl (y_len_l Tryz.underlying90 rfl) rfl ?_
  refine SPO_p rfl (y_maxE rfl rfl (show (if m.i.high < (m.i.st.length : Int) then (m.i.st.length : Int) else m.i.high) = max m.i.high m.i.st.length by rw [Int.max_def]; split <;> split <;> omega)) rfl ?_
  refine SPO_p rfl (y_nil rfl) rfl ?_
  refine SPO_p rfl (y_fa fld_93_5 rfl) rfl ?_
  refine SPO_z (k := 0) rfl rfl (SP1_store Tryz.sizeOf3 rfl rfl rfl (by first | exact U0 | exact U1 | exact U2 | exact U3 | exact U4 | exact U5 | exact U6 | exact U7 | exact U8 | exact U9 | exact U10 | exact U11 | exact U12 | exact U13 | exact U14 | exact U15 | exact U16 | exact U17 | exact U18 | exact U19 | exact U20 | exact U21 | exact U22 | exact U23) (by rfl) ?_)
  refine SPO_nil ?_
  refine thenP_n ?_
  refine SP_mid (G := Nat × Seg) (fun g => [(0, .pointer (some ⟨x, 0, none⟩)), (1, I fuel), (2, hv), (6, .pointer (some ⟨bf, 0 + ((m.i.fr.length : Int) - 1).toNat * 5, none⟩)), (7, .pointer (some ⟨g.1, 0, none⟩))]) (fun g => [blk g.1 181 (flatV m.at), List.flatten [blk x 93 [(.pointer (some ⟨pb, 0, none⟩)), (.pointer (some ⟨kb, 0, none⟩)), .slice sa m.i.st.length sc, .slice (some ⟨bf, 0, none⟩) m.i.fr.length fc, I m.i.used, I (max m.i.high m.i.st.length)], ss, blk bf 257 (m.i.fr.flatMap frV ++ spf)], g.2, sk, sh]) (fun g => isProg pb pfa m.P (IntKind.i64.wrap (m.steps + 1)) g.2) ?_ ?_
  · refine SP_drawG 12 mixed (Part.refl _) ?_
    refine SPG_pre (fuel' := 3) [(0, 0), (1, 0), (2, 0), (4, 0), (5, 0), (6, 0), (8, 0), (9, 0), (10, 0), (3, 1), (7, 1), (11, 1)] (by kernel_rfl) (fun _ _ _ _ _ h => h) ?_
    refine SPP_p rfl (y_move rfl) rfl ?_
    refine SPP_p rfl (y_nil rfl) rfl ?_
    refine SPP_p rfl (y_fa fld_93_0 rfl) rfl ?_
    refine SPP_p rfl (y_move rfl) rfl ?_
    refine SPP_p rfl (y_nil rfl) rfl ?_
    refine SPP_p rfl (y_fa fld_257_0 rfl) rfl ?_
    refine SPP_p rfl (y_move rfl) rfl ?_
    refine SPP_p rfl (y_nil rfl) rfl ?_
    refine SPP_p rfl (y_fa fld_257_1 rfl) rfl ?_
    refine SPP_h rfl (y_load Tryz.isAgg45 rfl (by repeat (first | exact Cell.head rfl | apply Cell.tail))) rfl ?_
    refine SPP_h rfl (y_load Tryz.isAgg3 rfl (by repeat (first | exact Cell.elem (q := 0) frV_len (i := m.i.fr.length - 1) (by omega) (by omega) (by rw [← itop_eq (by omega)]; rfl) | apply Cell.tail))) rfl ?_
    refine SPP_h rfl (y_load Tryz.isAgg3 rfl (by repeat (first | exact Cell.elem (q := 1) frV_len (i := m.i.fr.length - 1) (by omega) (by omega) (by rw [← itop_eq (by omega)]; rfl) | apply Cell.tail))) rfl ?_
    refine SPP_nil ?_
    refine SPG_two (i := 12) (j := 13) (by kernel_rfl) rfl rfl rfl rfl ?_ ?_
    · refine SP1_call (prep_At pb pfa m.P m.steps sp m.i.top.f m.i.top.pc hp) Tryz.call128 rfl rfl (by repeat (first | exact Part.nil _ | (apply Part.cons; (first | exact P0 | exact P1 | exact P2 | exact P3 | exact P4 | exact P5 | exact P6 | exact P7 | exact P8 | exact P9 | exact P10 | exact P11 | exact P12 | exact P13 | exact P14 | exact P15 | exact P16 | exact P17 | exact P18 | exact P19 | exact P20 | exact P21 | exact P22 | exact P23)) | (apply Part.flat; simp only [List.cons_append, List.nil_append]) | (apply Part.nilc))) ?_
      rintro v post H' ⟨rfl, sp1, rfl, hp1⟩ hH
      try simp only [List.cons_append, List.nil_append] at hH
      subst hH
      refine ⟨fun h => absurd rfl h, ?_⟩
      refine SPG_ord [(13, 3), (14, 3)] (by kernel_rfl) (fun _ _ _ _ _ h => h) ?_
      refine SPO_z (k := 0) rfl rfl (SP1_alloc Tryz.zeroValue181 rfl rfl ?_)
      intro b7
      refine SPO_z (k := 0) rfl rfl (SP1_storeAll Tryz.sizeOf181 rfl rfl rfl rfl rfl (by first | exact U0 | exact U1 | exact U2 | exact U3 | exact U4 | exact U5 | exact U6 | exact U7 | exact U8 | exact U9 | exact U10 | exact U11 | exact U12 | exact U13 | exact U14 | exact U15 | exact U16 | exact U17 | exact U18 | exact U19 | exact U20 | exact U21 | exact U22 | exact U23) (by rfl) ?_)
      refine SPO_nil ?_
      refine thenP_n ?_
      exact Mid.intro (⟨b7, sp1⟩) (hp1) (by repeat (first | exact Sub.nil _ | refine Sub.cons rfl ?_)) (by repeat (first | exact Part.nil _ | (apply Part.cons; (first | exact P0 | exact P1 | exact P2 | exact P3 | exact P4 | exact P5 | exact P6 | exact P7 | exact P8 | exact P9 | exact P10 | exact P11 | exact P12 | exact P13 | exact P14 | exact P15 | exact P16 | exact P17 | exact P18 | exact P19 | exact P20 | exact P21 | exact P22 | exact P23)) | (apply Part.flat; simp only [List.cons_append, List.nil_append]) | (apply Part.nilc)))
    refine SP1_alloc Tryz.zeroValue181 rfl rfl ?_
    intro b7
    refine ⟨fun _ => ⟨_, (by repeat (first | exact Part.nil _ | (apply Part.cons; (first | exact P0 | exact P1 | exact P2 | exact P3 | exact P4 | exact P5 | exact P6 | exact P7 | exact P8 | exact P9 | exact P10 | exact P11 | exact P12 | exact P13 | exact P14 | exact P15 | exact P16 | exact P17 | exact P18 | exact P19 | exact P20 | exact P21 | exact P22 | exact P23)) | (apply Part.flat; simp only [List.cons_append, List.nil_append]) | (apply Part.nilc)))⟩, ?_⟩
    refine SPG_ord [(12, 3), (14, 3)] (by kernel_rfl) (fun _ _ _ _ _ h => h) ?_
    refine SPO_z (k := 0) rfl rfl (SP1_call (prep_At pb pfa m.P m.steps sp m.i.top.f m.i.top.pc hp) Tryz.call128 rfl rfl (by repeat (first | exact Part.nil _ | (apply Part.cons; (first | exact P0 | exact P1 | exact P2 | exact P3 | exact P4 | exact P5 | exact P6 | exact P7 | exact P8 | exact P9 | exact P10 | exact P11 | exact P12 | exact P13 | exact P14 | exact P15 | exact P16 | exact P17 | exact P18 | exact P19 | exact P20 | exact P21 | exact P22 | exact P23)) | (apply Part.flat; simp only [List.cons_append, List.nil_append]) | (apply Part.nilc))) ?_)
    rintro v post H' ⟨rfl, sp1, rfl, hp1⟩ hH
    try simp only [List.cons_append, List.nil_append] at hH
    subst hH
    refine SPO_z (k := 0) rfl rfl (SP1_storeAll Tryz.sizeOf181 rfl rfl rfl rfl rfl (by first | exact U0 | exact U1 | exact U2 | exact U3 | exact U4 | exact U5 | exact U6 | exact U7 | exact U8 | exact U9 | exact U10 | exact U11 | exact U12 | exact U13 | exact U14 | exact U15 | exact U16 | exact U17 | exact U18 | exact U19 | exact U20 | exact U21 | exact U22 | exact U23) (by rfl) ?_)
    refine SPO_nil ?_
    refine thenP_n ?_
    exact Mid.intro (⟨b7, sp1⟩) (hp1) (by repeat (first | exact Sub.nil _ | refine Sub.cons rfl ?_)) (by repeat (first | exact Part.nil _ | (apply Part.cons; (first | exact P0 | exact P1 | exact P2 | exact P3 | exact P4 | exact P5 | exact P6 | exact P7 | exact P8 | exact P9 | exact P10 | exact P11 | exact P12 | exact P13 | exact P14 | exact P15 | exact P16 | exact P17 | exact P18 | exact P19 | exact P20 | exact P21 | exact P22 | exact P23)) | (apply Part.flat; simp only [List.cons_append, List.nil_append]) | (apply Part.nilc)))
  rintro ⟨b7, sp1⟩ hp1
  dsimp only at hp1 ⊢
  have hm1 : isInst x (.pointer (some ⟨pb, 0, none⟩)) (.pointer (some ⟨kb, 0, none⟩)) (some ⟨bf, 0, none⟩) m.fetch.i (List.flatten [blk x 93 [(.pointer (some ⟨pb, 0, none⟩)), (.pointer (some ⟨kb, 0, none⟩)), .slice sa m.i.st.length sc, .slice (some ⟨bf, 0, none⟩) m.i.fr.length fc, I m.i.used, I (max m.i.high m.i.st.length)], ss, blk bf 257 (m.i.fr.flatMap frV ++ spf)]) := ⟨sa, sc, fc, ss, _, rfl, hst, hfr⟩
  obtain ⟨s1, hs1⟩ : ∃ z, List.flatten [blk x 93 [(.pointer (some ⟨pb, 0, none⟩)), (.pointer (some ⟨kb, 0, none⟩)), .slice sa m.i.st.length sc, .slice (some ⟨bf, 0, none⟩) m.i.fr.length fc, I m.i.used, I (max m.i.high m.i.st.length)], ss, blk bf 257 (m.i.fr.flatMap frV ++ spf)] = z := ⟨_, rfl⟩
  rw [hs1] at hm1 ⊢
  refine SP_mid (G := VM × Seg) (fun g => [(0, .pointer (some ⟨x, 0, none⟩)), (1, I fuel), (2, hv), (6, .pointer (some ⟨bf, 0 + ((g.1.i.fr.length : Int) - 1).toNat * 5, none⟩)), (7, .pointer (some ⟨b7, 0, none⟩))]) (fun g => [blk b7 181 (flatV g.1.at), g.2, sp1, sk, sh]) (fun g => m.step fuel = g.1.exec g.1.at ∧ Pre g.1 ∧ isInst x (.pointer (some ⟨pb, 0, none⟩)) (.pointer (some ⟨kb, 0, none⟩)) (some ⟨bf, 0, none⟩) g.1.i g.2 ∧ isProg pb pfa g.1.P g.1.steps sp1 ∧ isMach kb g.1.mem sk ∧ isHost hb g.1.host sh ∧ hostV hb g.1.host = hv) ?_ ?_
  · refine SP_seq ?_
    refine SP_region ?_
    refine SPL_y (y_fa fld_181_0 rfl) rfl ?_
    refine SPL_y (y_load Tryz.isAgg3 rfl (by repeat (first | exact Cell.head rfl | apply Cell.tail))) rfl ?_
    refine SPL_ifn (y_neq rfl rfl) rfl ?_ ?_
    · intro h3_2
      refine SPL_y (y_move rfl) rfl ?_
      refine SPL_gn rfl rfl rfl rfl ?_
      refine SPL_gn rfl rfl rfl rfl ?_
      refine SPL_gn rfl rfl rfl rfl ?_
      refine SPL_y (y_pick_f rfl rfl) rfl ?_
      refine SPL_nil ?_
      refine thenP_n ?_
      refine SP_cond_f rfl ?_
      refine SP_skip ?_
      refine thenP_n ?_
      have hx : m.step fuel = m.fetch.exec m.fetch.at := by unfold VM.step; rw [if_pos (by omega)]; rfl
      exact Mid.intro (⟨m.fetch, s1⟩) (⟨hx, hpre.move rfl rfl rfl rfl hpre.used0, hm1, hp1, hk, hh, hhv⟩) (by repeat (first | exact Sub.nil _ | refine Sub.cons rfl ?_)) (by repeat (first | exact Part.nil _ | (apply Part.cons; (first | exact P0 | exact P1 | exact P2 | exact P3 | exact P4 | exact P5 | exact P6 | exact P7 | exact P8 | exact P9 | exact P10 | exact P11 | exact P12 | exact P13 | exact P14 | exact P15 | exact P16 | exact P17 | exact P18 | exact P19 | exact P20 | exact P21 | exact P22 | exact P23)) | (apply Part.flat; simp only [List.cons_append, List.nil_append]) | (apply Part.nilc)))
    intro h3_2
    refine SPL_y (y_move rfl) rfl ?_
    refine SPL_gy rfl rfl ?_
    refine SPL_y (y_fa fld_181_0 rfl) rfl ?_
    refine SPL_gy rfl rfl ?_
    refine SPL_y (y_load Tryz.isAgg3 rfl (by repeat (first | exact Cell.head rfl | apply Cell.tail))) rfl ?_
    refine SPL_gy rfl rfl ?_
    refine SPL_ifn (y_neq rfl rfl) rfl ?_ ?_
    · intro h3_6
      refine SPL_y (y_pick_t rfl rfl) rfl ?_
      refine SPL_nil ?_
      refine thenP_n ?_
      refine SP_cond_f rfl ?_
      refine SP_skip ?_
      refine thenP_n ?_
      have hx : m.step fuel = m.fetch.exec m.fetch.at := by unfold VM.step; rw [if_pos (by omega)]; rfl
      exact Mid.intro (⟨m.fetch, s1⟩) (⟨hx, hpre.move rfl rfl rfl rfl hpre.used0, hm1, hp1, hk, hh, hhv⟩) (by repeat (first | exact Sub.nil _ | refine Sub.cons rfl ?_)) (by repeat (first | exact Part.nil _ | (apply Part.cons; (first | exact P0 | exact P1 | exact P2 | exact P3 | exact P4 | exact P5 | exact P6 | exact P7 | exact P8 | exact P9 | exact P10 | exact P11 | exact P12 | exact P13 | exact P14 | exact P15 | exact P16 | exact P17 | exact P18 | exact P19 | exact P20 | exact P21 | exact P22 | exact P23)) | (apply Part.flat; simp only [List.cons_append, List.nil_append]) | (apply Part.nilc)))
    intro h3_6
    refine SPL_y (y_pick_t rfl rfl) rfl ?_
    refine SPL_nil ?_
    refine thenP_n ?_
    refine SP_cond_t rfl ?_
    refine SP_seq ?_
    obtain ⟨sa1, sc1, fc1, ss1, sf1, rfl, hst1, hfr1⟩ := hm1
    refine SP_open (by first | exact P0 | exact P1 | exact P2 | exact P3 | exact P4 | exact P5 | exact P6 | exact P7 | exact P8 | exact P9 | exact P10 | exact P11 | exact P12 | exact P13 | exact P14 | exact P15 | exact P16 | exact P17 | exact P18 | exact P19 | exact P20 | exact P21 | exact P22 | exact P23) ?_
    simp only [List.cons_append, List.nil_append]
    refine SP_region ?_
    refine SPL_y (y_move rfl) rfl ?_
    refine SPL_y (y_nil rfl) rfl ?_
    refine SPL_y (y_fa fld_93_4 rfl) rfl ?_
    refine SPL_y (y_load Tryz.isAgg3 rfl (by repeat (first | exact Cell.head rfl | apply Cell.tail))) rfl ?_
    refine SPL_y (y_move rfl) rfl ?_
    refine SPL_y (y_lss rfl rfl) rfl ?_
    refine SPL_one rfl (SP1_callp (run_need _ 17) Tryz.call126 rfl rfl (by repeat (first | exact Part.nil _ | (apply Part.cons; (first | exact P0 | exact P1 | exact P2 | exact P3 | exact P4 | exact P5 | exact P6 | exact P7 | exact P8 | exact P9 | exact P10 | exact P11 | exact P12 | exact P13 | exact P14 | exact P15 | exact P16 | exact P17 | exact P18 | exact P19 | exact P20 | exact P21 | exact P22 | exact P23)) | (apply Part.flat; simp only [List.cons_append, List.nil_append]) | (apply Part.nilc))) ?_ ?_)
    · rintro c' post H' ⟨hok, rfl, rfl⟩ hH
      try simp only [List.cons_append, List.nil_append] at hH
      subst hH
      refine thenP_panic (thenP_panic (inBlockP_panic (thenP_panic (inBlockP_panic (noGotoP_panic (bodyP_panic (H' := [List.flatten [blk x 93 [(.pointer (some ⟨pb, 0, none⟩)), (.pointer (some ⟨kb, 0, none⟩)), .slice sa1 m.i.st.length sc1, .slice (some ⟨bf, 0, none⟩) m.i.fr.length fc1, I m.i.used, I (max m.i.high m.i.st.length)], ss1, sf1], sp1, sk, sh]) (by repeat (first | exact Part.nil _ | (apply Part.cons; (first | exact P0 | exact P1 | exact P2 | exact P3 | exact P4 | exact P5 | exact P6 | exact P7 | exact P8 | exact P9 | exact P10 | exact P11 | exact P12 | exact P13 | exact P14 | exact P15 | exact P16 | exact P17 | exact P18 | exact P19 | exact P20 | exact P21 | exact P22 | exact P23)) | (apply Part.flat; simp only [List.cons_append, List.nil_append]) | (apply Part.nilc))) ?_))))))
      have hlt : ¬ m.i.used < fuel := of_decide_eq_false hok
      exact ⟨m, m.fetch, 17, _, _, _, _, _, _, _, hg, by unfold VM.step; rw [if_neg (by omega), if_neg hlt], by decide, rfl, rfl, ⟨sa1, sc1, fc1, ss1, sf1, rfl, hst1, hfr1⟩, hp1, hk, hh⟩
    rintro v post H' ⟨hok, rfl, rfl⟩ hH
    try simp only [List.cons_append, List.nil_append] at hH
    subst hH
    have hlt : m.i.used < fuel := of_decide_eq_true hok
    refine SPL_nil ?_
    refine thenP_n ?_
    refine SP_region ?_
    refine SPL_y (y_move rfl) rfl ?_
    refine SPL_y (y_nil rfl) rfl ?_
    refine SPL_y (y_fa fld_93_4 rfl) rfl ?_
    refine SPL_y (y_load Tryz.isAgg3 rfl (by repeat (first | exact Cell.head rfl | apply Cell.tail))) rfl ?_
    refine SPL_y (y_add rfl rfl (by have : m.fetch.i.used = m.i.used := rfl; omega)) rfl ?_
    refine SPL_y (y_nil rfl) rfl ?_
    refine SPL_y (y_fa fld_93_4 rfl) rfl ?_
    refine SPL_one rfl (SP1_store Tryz.sizeOf3 rfl rfl rfl (by first | exact U0 | exact U1 | exact U2 | exact U3 | exact U4 | exact U5 | exact U6 | exact U7 | exact U8 | exact U9 | exact U10 | exact U11 | exact U12 | exact U13 | exact U14 | exact U15 | exact U16 | exact U17 | exact U18 | exact U19 | exact U20 | exact U21 | exact U22 | exact U23) (by rfl) ?_)
    refine SPL_nil ?_
    refine thenP_n ?_
    have hx : m.step fuel = m.fetch.pay.exec m.fetch.pay.at := by unfold VM.step; rw [if_neg (by omega), if_pos hlt]; rfl
    exact Mid.intro (⟨m.fetch.pay, List.flatten [blk x 93 [(.pointer (some ⟨pb, 0, none⟩)), (.pointer (some ⟨kb, 0, none⟩)), .slice sa1 m.i.st.length sc1, .slice (some ⟨bf, 0, none⟩) m.i.fr.length fc1, I (m.i.used + 1), I (max m.i.high m.i.st.length)], ss1, sf1]⟩) (⟨hx, hpre.move rfl rfl rfl rfl (show 0 ≤ m.i.used + 1 by have := hpre.used0; omega), ⟨sa1, sc1, fc1, ss1, sf1, rfl, hst1, hfr1⟩, hp1, hk, hh, hhv⟩) (by repeat (first | exact Sub.nil _ | refine Sub.cons rfl ?_)) (by repeat (first | exact Part.nil _ | (apply Part.cons; (first | exact P0 | exact P1 | exact P2 | exact P3 | exact P4 | exact P5 | exact P6 | exact P7 | exact P8 | exact P9 | exact P10 | exact P11 | exact P12 | exact P13 | exact P14 | exact P15 | exact P16 | exact P17 | exact P18 | exact P19 | exact P20 | exact P21 | exact P22 | exact P23)) | (apply Part.flat; simp only [List.cons_append, List.nil_append]) | (apply Part.nilc)))
  clear hm1
  rintro ⟨m1, s1⟩ ⟨hstep, hpre, hm1, hp1, hk1, hh1, hhv⟩
  dsimp only at hstep hpre hm1 hp1 hk1 hh1 hhv ⊢
  obtain ⟨c, hc⟩ : ∃ c, m1.at = c := ⟨_, rfl⟩
  have hpo := hpre.op
  rw [hc] at hstep hpo ⊢
  have hN := hpre.fr0
  have hpcs := And.intro hpre.pc0 hpre.pc1
  refine SP_mid (G := VM × Seg × Seg × Seg × Seg) (fun g => [(0, .pointer (some ⟨x, 0, none⟩)), (1, I fuel), (2, hv), (6, .pointer (some ⟨bf, 0 + ((g.1.i.fr.length : Int) - 1).toNat * 5, none⟩))]) (fun g => [g.2.1, g.2.2.1, g.2.2.2.1, g.2.2.2.2]) (fun g => m.step fuel = VM.next g.1 ∧ 0 < g.1.i.fr.length ∧ (0 ≤ g.1.i.top.pc ∧ g.1.i.top.pc ≤ 1000000) ∧ isInst x (.pointer (some ⟨pb, 0, none⟩)) (.pointer (some ⟨kb, 0, none⟩)) (some ⟨bf, 0, none⟩) g.1.i g.2.1 ∧ isProg pb pfa g.1.P g.1.steps g.2.2.1 ∧ isMach kb g.1.mem g.2.2.2.1 ∧ isHost hb g.1.host g.2.2.2.2 ∧ hostV hb g.1.host = hv) ?_ ?_
  · refine SP_seq ?_
    refine SP_region ?_
    refine SPL_y (y_fa fld_181_0 rfl) rfl ?_
    refine SPL_y (y_load Tryz.isAgg3 rfl (by repeat (first | exact Cell.head rfl | apply Cell.tail))) rfl ?_
    refine SPL_nil ?_
    refine thenP_n ?_
    refine SP_block ?_
    refine SP_seq ?_
    refine SP_region ?_
    refine SPL_if (y_eql rfl rfl) rfl ?_ ?_
    · intro h8_0
      refine SPL_y (y_assign rfl) rfl ?_
      refine SPL_nil ?_
      refine thenP_n ?_
      refine SP_cond_t rfl ?_
      refine SP_region ?_
      refine SPL_y (y_mki Tryz.underlying206 rfl rfl) rfl ?_
      refine SPL_one rfl (SP1_panic rfl ?_)
      refine inBlockP_panic (thenP_panic (inBlockP_panic (thenP_panic (inBlockP_panic (noGotoP_panic (bodyP_panic (H' := [s1, sp1, sk, sh]) (by repeat (first | exact Part.nil _ | (apply Part.cons; (first | exact P0 | exact P1 | exact P2 | exact P3 | exact P4 | exact P5 | exact P6 | exact P7 | exact P8 | exact P9 | exact P10 | exact P11 | exact P12 | exact P13 | exact P14 | exact P15 | exact P16 | exact P17 | exact P18 | exact P19 | exact P20 | exact P21 | exact P22 | exact P23)) | (apply Part.flat; simp only [List.cons_append, List.nil_append]) | (apply Part.nilc))) ?_))))))
      exact ⟨m, m1, 13, _, _, _, _, _, _, _, hg, by rw [hstep]; rw [exec_x0 h8_0]; rfl, (by decide), rfl, rfl, hm1, hp1, hk1, hh1⟩
    intro h8_0
    refine SPL_y (y_assign rfl) rfl ?_
    refine SPL_nil ?_
    refine thenP_n ?_
    refine SP_cond_f rfl ?_
    refine SP_seq ?_
    refine SP_region ?_
    refine SPL_if (y_eql rfl rfl) rfl ?_ ?_
    · intro h10_0
      refine SPL_y (y_assign rfl) rfl ?_
      refine SPL_nil ?_
      refine thenP_n ?_
      refine SP_cond_t rfl ?_
      refine SP_seq ?_
      have h32 := hpo.p3 (by omega)
      refine SP_region ?_
      refine SPL_y (y_move rfl) rfl ?_
      refine SPL_one rfl (SP1_call (run_pop32 x (.pointer (some ⟨pb, 0, none⟩)) (.pointer (some ⟨kb, 0, none⟩)) (some ⟨bf, 0, none⟩) m1.i s1 hm1 hpre.fr0 (by have := hpre.stl; have := hpre.fr4; exact ⟨by omega, by omega⟩) (lst m1.i.st).n m1.i.st.dropLast (h32.1.floor _ h32.1.len) (by conv => lhs; rw [h32.1.one, w_false h32.2]) (ok32 h32.2 (hpre.ok _ (lst_mem (by have := h32.1.len; omega))))) Tryz.call129 rfl rfl (by repeat (first | exact Part.nil _ | (apply Part.cons; (first | exact P0 | exact P1 | exact P2 | exact P3 | exact P4 | exact P5 | exact P6 | exact P7 | exact P8 | exact P9 | exact P10 | exact P11 | exact P12 | exact P13 | exact P14 | exact P15 | exact P16 | exact P17 | exact P18 | exact P19 | exact P20 | exact P21 | exact P22 | exact P23)) | (apply Part.flat; simp only [List.cons_append, List.nil_append]) | (apply Part.nilc))) ?_)
      rintro v post H' ⟨s2, rfl, rfl, hm2⟩ hH
      try simp only [List.cons_append, List.nil_append] at hH
      subst hH
      refine SPL_ifn (y_eql rfl rfl) rfl ?_ ?_
      · intro h11_2
        refine SPL_nil ?_
        refine thenP_n ?_
        refine SP_cond_f rfl ?_
        refine SP_skip ?_
        refine inBlockP_n ?_
        refine thenP_n ?_
        have hx : m.step fuel = VM.next (m1.pop) := by rw [hstep]; rw [exec_x3 h10_0]; unfold VM.x3; exact if_neg h11_2
        exact Mid.intro (⟨m1.pop, s2, _, _, _⟩ : VM × Seg × Seg × Seg × Seg) ⟨hx, hN, ⟨hpre.pc0, hpre.pc1⟩, hm2, hp1, hk1, hh1, hhv⟩ (by repeat (first | exact Sub.nil _ | refine Sub.cons rfl ?_)) (by repeat (first | exact Part.nil _ | (apply Part.cons; (first | exact P0 | exact P1 | exact P2 | exact P3 | exact P4 | exact P5 | exact P6 | exact P7 | exact P8 | exact P9 | exact P10 | exact P11 | exact P12 | exact P13 | exact P14 | exact P15 | exact P16 | exact P17 | exact P18 | exact P19 | exact P20 | exact P21 | exact P22 | exact P23)) | (apply Part.flat; simp only [List.cons_append, List.nil_append]) | (apply Part.nilc)))
      intro h11_2
      refine SPL_nil ?_
      refine thenP_n ?_
      refine SP_cond_t rfl ?_
      refine SP_seq ?_
      have hm2' : isInst x (.pointer (some ⟨pb, 0, none⟩)) (.pointer (some ⟨kb, 0, none⟩)) (some ⟨bf, 0, none⟩) m1.pop.i s2 := hm2
      have hm2k := hm2'
      obtain ⟨sa6, sc6, fc6, ss6, sf6, rfl, hst6, hfr6⟩ := hm2'
      refine SP_open (by first | exact P0 | exact P1 | exact P2 | exact P3 | exact P4 | exact P5 | exact P6 | exact P7 | exact P8 | exact P9 | exact P10 | exact P11 | exact P12 | exact P13 | exact P14 | exact P15 | exact P16 | exact P17 | exact P18 | exact P19 | exact P20 | exact P21 | exact P22 | exact P23) ?_
      simp only [List.cons_append, List.nil_append]
      obtain ⟨bf', spf6, hbf6, hfc6, hspf6, rfl⟩ := hfr6.row (by exact hN)
      obtain rfl : bf = bf' := by simpa using hbf6
      clear hbf6
      refine SP_region ?_
      refine SPL_y (y_move rfl) rfl ?_
      refine SPL_y (y_fa fld_181_1 rfl) rfl ?_
      refine SPL_y (y_load Tryz.isAgg3 rfl (by repeat (first | exact Cell.head rfl | apply Cell.tail))) rfl ?_
      refine SPL_y (y_nil rfl) rfl ?_
      refine SPL_y (y_fa fld_257_1 rfl) rfl ?_
      refine SPL_one rfl (SP1_store Tryz.sizeOf3 rfl rfl rfl (by first | exact U0 | exact U1 | exact U2 | exact U3 | exact U4 | exact U5 | exact U6 | exact U7 | exact U8 | exact U9 | exact U10 | exact U11 | exact U12 | exact U13 | exact U14 | exact U15 | exact U16 | exact U17 | exact U18 | exact U19 | exact U20 | exact U21 | exact U22 | exact U23) (ble_row (fc := 0) (i := m1.pop.i) hN (by decide)) ?_)
      refine SPL_nil ?_
      refine thenP_n ?_
      refine SP_exit ?_
      refine inBlockP_miss rfl ?_
      refine thenP_exit ?_
      refine inBlockP_hit ?_
      refine thenP_n ?_
      have hx : m.step fuel = (m1.pop.setPc c.imm, none) := by rw [hstep]; rw [exec_x3 h10_0]; unfold VM.x3; exact if_pos h11_2
      have hx2 := hS m _ hg hx
      exact Again.intro (⟨m1.pop.setPc c.imm, (some ⟨bf, 0, none⟩), List.flatten [blk x 93 [(.pointer (some ⟨pb, 0, none⟩)), (.pointer (some ⟨kb, 0, none⟩)), .slice sa6 m1.pop.i.st.length sc6, .slice (some ⟨bf, 0, none⟩) m1.pop.i.fr.length fc6, I m1.pop.i.used, I m1.pop.i.high], ss6, blk bf 257 ((m1.pop.i.fr.flatMap frV ++ spf6).set (0 + ((m1.pop.i.fr.length : Int) - 1).toNat * 5 + 1) (I (c.imm)))], _, _, _⟩ : VM × Option Addr × Seg × Seg × Seg × Seg) (⟨hx2.1, pc_inst (i := m1.pop.i) hN hst6 hfc6 hspf6, hp1, hk1, hh1, hhv⟩) hx2.2 (by repeat (first | exact Sub.nil _ | refine Sub.cons rfl ?_)) (by repeat (first | exact Part.nil _ | (apply Part.cons; (first | exact P0 | exact P1 | exact P2 | exact P3 | exact P4 | exact P5 | exact P6 | exact P7 | exact P8 | exact P9 | exact P10 | exact P11 | exact P12 | exact P13 | exact P14 | exact P15 | exact P16 | exact P17 | exact P18 | exact P19 | exact P20 | exact P21 | exact P22 | exact P23)) | (apply Part.flat; simp only [List.cons_append, List.nil_append]) | (apply Part.nilc)))
    intro h10_0
    refine SPL_y (y_assign rfl) rfl ?_
    refine SPL_nil ?_
    refine thenP_n ?_
    refine SP_cond_f rfl ?_
    refine SP_seq ?_
    refine SP_region ?_
    refine SPL_if (y_eql rfl rfl) rfl ?_ ?_
    · intro h13_0
      refine SPL_y (y_assign rfl) rfl ?_
      refine SPL_nil ?_
      refine thenP_n ?_
      refine SP_cond_t rfl ?_
      refine SP_seq ?_
      have hm1k := hm1
      obtain ⟨sa6, sc6, fc6, ss6, sf6, rfl, hst6, hfr6⟩ := hm1
      refine SP_open (by first | exact P0 | exact P1 | exact P2 | exact P3 | exact P4 | exact P5 | exact P6 | exact P7 | exact P8 | exact P9 | exact P10 | exact P11 | exact P12 | exact P13 | exact P14 | exact P15 | exact P16 | exact P17 | exact P18 | exact P19 | exact P20 | exact P21 | exact P22 | exact P23) ?_
      simp only [List.cons_append, List.nil_append]
      obtain ⟨bf', spf6, hbf6, hfc6, hspf6, rfl⟩ := hfr6.row (by exact hN)
      obtain rfl : bf = bf' := by simpa using hbf6
      clear hbf6
      refine SP_region ?_
      refine SPL_y (y_move rfl) rfl ?_
      refine SPL_y (y_fa fld_181_1 rfl) rfl ?_
      refine SPL_y (y_load Tryz.isAgg3 rfl (by repeat (first | exact Cell.head rfl | apply Cell.tail))) rfl ?_
      refine SPL_y (y_nil rfl) rfl ?_
      refine SPL_y (y_fa fld_257_1 rfl) rfl ?_
      refine SPL_one rfl (SP1_store Tryz.sizeOf3 rfl rfl rfl (by first | exact U0 | exact U1 | exact U2 | exact U3 | exact U4 | exact U5 | exact U6 | exact U7 | exact U8 | exact U9 | exact U10 | exact U11 | exact U12 | exact U13 | exact U14 | exact U15 | exact U16 | exact U17 | exact U18 | exact U19 | exact U20 | exact U21 | exact U22 | exact U23) (ble_row (fc := 0) (i := m1.i) hN (by decide)) ?_)
      refine SPL_nil ?_
      refine thenP_n ?_
      refine SP_exit ?_
      refine inBlockP_miss rfl ?_
      refine thenP_exit ?_
      refine inBlockP_hit ?_
      refine thenP_n ?_
      have hx : m.step fuel = (m1.setPc c.imm, none) := by rw [hstep]; rw [exec_x4 h13_0]; rfl
      have hx2 := hS m _ hg hx
      exact Again.intro (⟨m1.setPc c.imm, (some ⟨bf, 0, none⟩), List.flatten [blk x 93 [(.pointer (some ⟨pb, 0, none⟩)), (.pointer (some ⟨kb, 0, none⟩)), .slice sa6 m1.i.st.length sc6, .slice (some ⟨bf, 0, none⟩) m1.i.fr.length fc6, I m1.i.used, I m1.i.high], ss6, blk bf 257 ((m1.i.fr.flatMap frV ++ spf6).set (0 + ((m1.i.fr.length : Int) - 1).toNat * 5 + 1) (I (c.imm)))], _, _, _⟩ : VM × Option Addr × Seg × Seg × Seg × Seg) (⟨hx2.1, pc_inst (i := m1.i) hN hst6 hfc6 hspf6, hp1, hk1, hh1, hhv⟩) hx2.2 (by repeat (first | exact Sub.nil _ | refine Sub.cons rfl ?_)) (by repeat (first | exact Part.nil _ | (apply Part.cons; (first | exact P0 | exact P1 | exact P2 | exact P3 | exact P4 | exact P5 | exact P6 | exact P7 | exact P8 | exact P9 | exact P10 | exact P11 | exact P12 | exact P13 | exact P14 | exact P15 | exact P16 | exact P17 | exact P18 | exact P19 | exact P20 | exact P21 | exact P22 | exact P23)) | (apply Part.flat; simp only [List.cons_append, List.nil_append]) | (apply Part.nilc)))
    intro h13_0
    refine SPL_y (y_assign rfl) rfl ?_
    refine SPL_nil ?_
    refine thenP_n ?_
    refine SP_cond_f rfl ?_
    refine SP_seq ?_
    refine SP_seq ?_
    refine SP_region ?_
    refine SPL_if (y_eql rfl rfl) rfl ?_ ?_
    · intro h15_0
      refine SPL_y (y_assign rfl) rfl ?_
      refine SPL_nil ?_
      refine thenP_n ?_
      refine SP_cond_t rfl ?_
      refine SP_skip ?_
      refine thenP_n ?_
      refine SP_cond_t rfl ?_
      refine SP_seq ?_
      obtain ⟨mid, hl1, hl2, hl3, hl4⟩ := leave_pre hpo (by omega)
      have hl0 := hpre.fr4
      have hl9 := hpre.stl
      refine SP_region ?_
      refine SPL_y (y_move rfl) rfl ?_
      refine SPL_one rfl (SP1_call (run_leave x (.pointer (some ⟨pb, 0, none⟩)) (.pointer (some ⟨kb, 0, none⟩)) bf m1.i s1 hm1 hN (by have := hpre.stl; have := hpre.fr4; exact ⟨by omega, by omega⟩) _ mid _ hl1 hl2 hl3 hl4) Tryz.call130 rfl rfl (by repeat (first | exact Part.nil _ | (apply Part.cons; (first | exact P0 | exact P1 | exact P2 | exact P3 | exact P4 | exact P5 | exact P6 | exact P7 | exact P8 | exact P9 | exact P10 | exact P11 | exact P12 | exact P13 | exact P14 | exact P15 | exact P16 | exact P17 | exact P18 | exact P19 | exact P20 | exact P21 | exact P22 | exact P23)) | (apply Part.flat; simp only [List.cons_append, List.nil_append]) | (apply Part.nilc))) ?_)
      rintro v post H' ⟨s9, rfl, rfl, hm9⟩ hH
      try simp only [List.cons_append, List.nil_append] at hH
      subst hH
      refine SPL_nil ?_
      refine thenP_n ?_
      refine SP_seq ?_
      refine SP_seq ?_
      have hm9k := hm9
      obtain ⟨sa9, sc9, fc9, ss9, sf9, rfl, hst9, hfr9⟩ := hm9
      refine SP_open (by first | exact P0 | exact P1 | exact P2 | exact P3 | exact P4 | exact P5 | exact P6 | exact P7 | exact P8 | exact P9 | exact P10 | exact P11 | exact P12 | exact P13 | exact P14 | exact P15 | exact P16 | exact P17 | exact P18 | exact P19 | exact P20 | exact P21 | exact P22 | exact P23) ?_
      simp only [List.cons_append, List.nil_append]
      refine SP_region ?_
      refine SPL_y (y_move rfl) rfl ?_
      refine SPL_y (y_nil rfl) rfl ?_
      refine SPL_y (y_fa fld_93_3 rfl) rfl ?_
      refine SPL_y (y_load Tryz.isAgg91 rfl (by repeat (first | exact Cell.head rfl | apply Cell.tail))) rfl ?_
      refine SPL_y (y_len_l Tryz.underlying91 rfl) rfl ?_
      refine SPL_if (y_eql rfl rfl) rfl ?_ ?_
      · intro h18_5
        refine SPL_nil ?_
        refine thenP_n ?_
        refine SP_cond_t rfl ?_
        refine SP_ret ?_
        refine thenP_ret (inBlockP_ret (thenP_ret (inBlockP_ret (thenP_ret (inBlockP_ret (noGotoP_ret (bodyP_ret (H' := [List.flatten [blk x 93 [(.pointer (some ⟨pb, 0, none⟩)), (.pointer (some ⟨kb, 0, none⟩)), .slice sa9 (m1.leave).i.st.length sc9, .slice (some ⟨bf, 0, none⟩) m1.leave.i.fr.length fc9, I m1.i.used, I m1.i.high], ss9, sf9], sp1, sk, sh]) (Res0 rfl) (by repeat (first | exact Part.nil _ | (apply Part.cons; (first | exact P0 | exact P1 | exact P2 | exact P3 | exact P4 | exact P5 | exact P6 | exact P7 | exact P8 | exact P9 | exact P10 | exact P11 | exact P12 | exact P13 | exact P14 | exact P15 | exact P16 | exact P17 | exact P18 | exact P19 | exact P20 | exact P21 | exact P22 | exact P23)) | (apply Part.flat; simp only [List.cons_append, List.nil_append]) | (apply Part.nilc))) ?_)))))))
        have hx : m.step fuel = (m1.leave, some 0) := by rw [hstep, exec_x5 (by omega)]; unfold VM.x5; rw [if_pos (by simp at h18_5; omega)]
        exact ⟨m, m1.leave, _, _, _, _, _, hg, hx, rfl, rfl, hm9k, hp1, hk1, hh1⟩
      intro h18_5
      refine SPL_nil ?_
      refine thenP_n ?_
      refine SP_cond_f rfl ?_
      refine SP_skip ?_
      refine thenP_n ?_
      refine SP_exit ?_
      refine inBlockP_miss rfl ?_
      refine thenP_exit ?_
      refine inBlockP_hit ?_
      refine thenP_n ?_
      have hx : m.step fuel = (m1.leave, none) := by rw [hstep]; rw [exec_x5 (by omega)]; unfold VM.x5; rw [if_neg (by simp at h18_5; omega)]
      have hx2 := hS m _ hg hx
      exact Again.intro (⟨m1.leave, (some ⟨bf, 0, none⟩), List.flatten [blk x 93 [(.pointer (some ⟨pb, 0, none⟩)), (.pointer (some ⟨kb, 0, none⟩)), .slice sa9 m1.leave.i.st.length sc9, .slice (some ⟨bf, 0, none⟩) m1.leave.i.fr.length fc9, I m1.leave.i.used, I m1.leave.i.high], ss9, sf9], _, _, _⟩ : VM × Option Addr × Seg × Seg × Seg × Seg) (⟨hx2.1, hm9k, hp1, hk1, hh1, hhv⟩) hx2.2 (by repeat (first | exact Sub.nil _ | refine Sub.cons rfl ?_)) (by repeat (first | exact Part.nil _ | (apply Part.cons; (first | exact P0 | exact P1 | exact P2 | exact P3 | exact P4 | exact P5 | exact P6 | exact P7 | exact P8 | exact P9 | exact P10 | exact P11 | exact P12 | exact P13 | exact P14 | exact P15 | exact P16 | exact P17 | exact P18 | exact P19 | exact P20 | exact P21 | exact P22 | exact P23)) | (apply Part.flat; simp only [List.cons_append, List.nil_append]) | (apply Part.nilc)))
    intro h15_0
    refine SPL_y (y_assign rfl) rfl ?_
    refine SPL_nil ?_
    refine thenP_n ?_
    refine SP_cond_f rfl ?_
    refine SP_region ?_
    refine SPL_if (y_eql rfl rfl) rfl ?_ ?_
    · intro h16_0
      refine SPL_y (y_assign rfl) rfl ?_
      refine SPL_nil ?_
      refine thenP_n ?_
      refine SP_cond_t rfl ?_
      refine SP_seq ?_
      obtain ⟨mid, hl1, hl2, hl3, hl4⟩ := leave_pre hpo (by omega)
      have hl0 := hpre.fr4
      have hl9 := hpre.stl
      refine SP_region ?_
      refine SPL_y (y_move rfl) rfl ?_
      refine SPL_one rfl (SP1_call (run_leave x (.pointer (some ⟨pb, 0, none⟩)) (.pointer (some ⟨kb, 0, none⟩)) bf m1.i s1 hm1 hN (by have := hpre.stl; have := hpre.fr4; exact ⟨by omega, by omega⟩) _ mid _ hl1 hl2 hl3 hl4) Tryz.call130 rfl rfl (by repeat (first | exact Part.nil _ | (apply Part.cons; (first | exact P0 | exact P1 | exact P2 | exact P3 | exact P4 | exact P5 | exact P6 | exact P7 | exact P8 | exact P9 | exact P10 | exact P11 | exact P12 | exact P13 | exact P14 | exact P15 | exact P16 | exact P17 | exact P18 | exact P19 | exact P20 | exact P21 | exact P22 | exact P23)) | (apply Part.flat; simp only [List.cons_append, List.nil_append]) | (apply Part.nilc))) ?_)
      rintro v post H' ⟨s9, rfl, rfl, hm9⟩ hH
      try simp only [List.cons_append, List.nil_append] at hH
      subst hH
      refine SPL_nil ?_
      refine thenP_n ?_
      refine SP_seq ?_
      refine SP_seq ?_
      have hm9k := hm9
      obtain ⟨sa9, sc9, fc9, ss9, sf9, rfl, hst9, hfr9⟩ := hm9
      refine SP_open (by first | exact P0 | exact P1 | exact P2 | exact P3 | exact P4 | exact P5 | exact P6 | exact P7 | exact P8 | exact P9 | exact P10 | exact P11 | exact P12 | exact P13 | exact P14 | exact P15 | exact P16 | exact P17 | exact P18 | exact P19 | exact P20 | exact P21 | exact P22 | exact P23) ?_
      simp only [List.cons_append, List.nil_append]
      refine SP_region ?_
      refine SPL_y (y_move rfl) rfl ?_
      refine SPL_y (y_nil rfl) rfl ?_
      refine SPL_y (y_fa fld_93_3 rfl) rfl ?_
      refine SPL_y (y_load Tryz.isAgg91 rfl (by repeat (first | exact Cell.head rfl | apply Cell.tail))) rfl ?_
      refine SPL_y (y_len_l Tryz.underlying91 rfl) rfl ?_
      refine SPL_if (y_eql rfl rfl) rfl ?_ ?_
      · intro h18_5
        refine SPL_nil ?_
        refine thenP_n ?_
        refine SP_cond_t rfl ?_
        refine SP_ret ?_
        refine thenP_ret (inBlockP_ret (thenP_ret (inBlockP_ret (thenP_ret (inBlockP_ret (noGotoP_ret (bodyP_ret (H' := [List.flatten [blk x 93 [(.pointer (some ⟨pb, 0, none⟩)), (.pointer (some ⟨kb, 0, none⟩)), .slice sa9 (m1.leave).i.st.length sc9, .slice (some ⟨bf, 0, none⟩) m1.leave.i.fr.length fc9, I m1.i.used, I m1.i.high], ss9, sf9], sp1, sk, sh]) (Res0 rfl) (by repeat (first | exact Part.nil _ | (apply Part.cons; (first | exact P0 | exact P1 | exact P2 | exact P3 | exact P4 | exact P5 | exact P6 | exact P7 | exact P8 | exact P9 | exact P10 | exact P11 | exact P12 | exact P13 | exact P14 | exact P15 | exact P16 | exact P17 | exact P18 | exact P19 | exact P20 | exact P21 | exact P22 | exact P23)) | (apply Part.flat; simp only [List.cons_append, List.nil_append]) | (apply Part.nilc))) ?_)))))))
        have hx : m.step fuel = (m1.leave, some 0) := by rw [hstep, exec_x5 (by omega)]; unfold VM.x5; rw [if_pos (by simp at h18_5; omega)]
        exact ⟨m, m1.leave, _, _, _, _, _, hg, hx, rfl, rfl, hm9k, hp1, hk1, hh1⟩
      intro h18_5
      refine SPL_nil ?_
      refine thenP_n ?_
      refine SP_cond_f rfl ?_
      refine SP_skip ?_
      refine thenP_n ?_
      refine SP_exit ?_
      refine inBlockP_miss rfl ?_
      refine thenP_exit ?_
      refine inBlockP_hit ?_
      refine thenP_n ?_
      have hx : m.step fuel = (m1.leave, none) := by rw [hstep]; rw [exec_x5 (by omega)]; unfold VM.x5; rw [if_neg (by simp at h18_5; omega)]
      have hx2 := hS m _ hg hx
      exact Again.intro (⟨m1.leave, (some ⟨bf, 0, none⟩), List.flatten [blk x 93 [(.pointer (some ⟨pb, 0, none⟩)), (.pointer (some ⟨kb, 0, none⟩)), .slice sa9 m1.leave.i.st.length sc9, .slice (some ⟨bf, 0, none⟩) m1.leave.i.fr.length fc9, I m1.leave.i.used, I m1.leave.i.high], ss9, sf9], _, _, _⟩ : VM × Option Addr × Seg × Seg × Seg × Seg) (⟨hx2.1, hm9k, hp1, hk1, hh1, hhv⟩) hx2.2 (by repeat (first | exact Sub.nil _ | refine Sub.cons rfl ?_)) (by repeat (first | exact Part.nil _ | (apply Part.cons; (first | exact P0 | exact P1 | exact P2 | exact P3 | exact P4 | exact P5 | exact P6 | exact P7 | exact P8 | exact P9 | exact P10 | exact P11 | exact P12 | exact P13 | exact P14 | exact P15 | exact P16 | exact P17 | exact P18 | exact P19 | exact P20 | exact P21 | exact P22 | exact P23)) | (apply Part.flat; simp only [List.cons_append, List.nil_append]) | (apply Part.nilc)))
    intro h16_0
    refine SPL_y (y_assign rfl) rfl ?_
    refine SPL_nil ?_
    refine thenP_n ?_
    refine SP_cond_f rfl ?_
    refine SP_seq ?_
    refine SP_region ?_
    refine SPL_if (y_eql rfl rfl) rfl ?_ ?_
    · intro h19_0
      refine SPL_y (y_assign rfl) rfl ?_
      refine SPL_nil ?_
      refine thenP_n ?_
      refine SP_cond_t rfl ?_
      refine SP_seq ?_
      obtain ⟨mid, hj1, hj2, hj3⟩ := (hpo.p6 h19_0).split
      refine SP_region ?_
      refine SPL_y (y_move rfl) rfl ?_
      refine SPL_y (y_move rfl) rfl ?_
      refine SPL_y (y_loads Tryz.isAgg181 Tryz.sizeOf181 rfl rfl (by repeat (first | exact Cells.all _ | exact Cells.head rfl | apply Cells.tail))) rfl ?_
      refine SPL_one rfl (SP1_call (run_jump x (.pointer (some ⟨pb, 0, none⟩)) (.pointer (some ⟨kb, 0, none⟩)) bf m1.i s1 hm1 hN (by have := hpre.stl; have := hpre.fr4; exact ⟨by omega, by omega⟩) c _ mid _ hj1 hj2 hj3) Tryz.call131 rfl rfl (by repeat (first | exact Part.nil _ | (apply Part.cons; (first | exact P0 | exact P1 | exact P2 | exact P3 | exact P4 | exact P5 | exact P6 | exact P7 | exact P8 | exact P9 | exact P10 | exact P11 | exact P12 | exact P13 | exact P14 | exact P15 | exact P16 | exact P17 | exact P18 | exact P19 | exact P20 | exact P21 | exact P22 | exact P23)) | (apply Part.flat; simp only [List.cons_append, List.nil_append]) | (apply Part.nilc))) ?_)
      rintro v post H' ⟨s9, rfl, rfl, hm9⟩ hH
      try simp only [List.cons_append, List.nil_append] at hH
      subst hH
      refine SPL_nil ?_
      refine thenP_n ?_
      refine SP_exit ?_
      refine inBlockP_miss rfl ?_
      refine thenP_exit ?_
      refine inBlockP_hit ?_
      refine thenP_n ?_
      have hx : m.step fuel = (m1.jump c, none) := by rw [hstep]; rw [exec_x6 h19_0]; rfl
      have hx2 := hS m _ hg hx
      exact Again.intro (⟨m1.jump c, (some ⟨bf, 0, none⟩), s9, _, _, _⟩ : VM × Option Addr × Seg × Seg × Seg × Seg) (⟨hx2.1, hm9, hp1, hk1, hh1, hhv⟩) hx2.2 (by repeat (first | exact Sub.nil _ | refine Sub.cons rfl ?_)) (by repeat (first | exact Part.nil _ | (apply Part.cons; (first | exact P0 | exact P1 | exact P2 | exact P3 | exact P4 | exact P5 | exact P6 | exact P7 | exact P8 | exact P9 | exact P10 | exact P11 | exact P12 | exact P13 | exact P14 | exact P15 | exact P16 | exact P17 | exact P18 | exact P19 | exact P20 | exact P21 | exact P22 | exact P23)) | (apply Part.flat; simp only [List.cons_append, List.nil_append]) | (apply Part.nilc)))
    intro h19_0
    refine SPL_y (y_assign rfl) rfl ?_
    refine SPL_nil ?_
    refine thenP_n ?_
    refine SP_cond_f rfl ?_
    refine SP_seq ?_
    refine SP_region ?_
    refine SPL_if (y_eql rfl rfl) rfl ?_ ?_
    · intro h21_0
      refine SPL_y (y_assign rfl) rfl ?_
      refine SPL_nil ?_
      refine thenP_n ?_
      refine SP_cond_t rfl ?_
      refine SP_seq ?_
      have h32 := hpo.p3 (by omega)
      refine SP_region ?_
      refine SPL_y (y_move rfl) rfl ?_
      refine SPL_one rfl (SP1_call (run_pop32 x (.pointer (some ⟨pb, 0, none⟩)) (.pointer (some ⟨kb, 0, none⟩)) (some ⟨bf, 0, none⟩) m1.i s1 hm1 hpre.fr0 (by have := hpre.stl; have := hpre.fr4; exact ⟨by omega, by omega⟩) (lst m1.i.st).n m1.i.st.dropLast (h32.1.floor _ h32.1.len) (by conv => lhs; rw [h32.1.one, w_false h32.2]) (ok32 h32.2 (hpre.ok _ (lst_mem (by have := h32.1.len; omega))))) Tryz.call129 rfl rfl (by repeat (first | exact Part.nil _ | (apply Part.cons; (first | exact P0 | exact P1 | exact P2 | exact P3 | exact P4 | exact P5 | exact P6 | exact P7 | exact P8 | exact P9 | exact P10 | exact P11 | exact P12 | exact P13 | exact P14 | exact P15 | exact P16 | exact P17 | exact P18 | exact P19 | exact P20 | exact P21 | exact P22 | exact P23)) | (apply Part.flat; simp only [List.cons_append, List.nil_append]) | (apply Part.nilc))) ?_)
      rintro v post H' ⟨s2, rfl, rfl, hm2⟩ hH
      try simp only [List.cons_append, List.nil_append] at hH
      subst hH
      refine SPL_ifn (y_neq rfl rfl) rfl ?_ ?_
      · intro h22_2
        refine SPL_nil ?_
        refine thenP_n ?_
        refine SP_cond_f rfl ?_
        refine SP_skip ?_
        refine inBlockP_n ?_
        refine thenP_n ?_
        have hx : m.step fuel = VM.next (m1.pop) := by rw [hstep]; rw [exec_x7 h21_0]; unfold VM.x7; exact if_pos (by omega)
        exact Mid.intro (⟨m1.pop, s2, _, _, _⟩ : VM × Seg × Seg × Seg × Seg) ⟨hx, hN, ⟨hpre.pc0, hpre.pc1⟩, hm2, hp1, hk1, hh1, hhv⟩ (by repeat (first | exact Sub.nil _ | refine Sub.cons rfl ?_)) (by repeat (first | exact Part.nil _ | (apply Part.cons; (first | exact P0 | exact P1 | exact P2 | exact P3 | exact P4 | exact P5 | exact P6 | exact P7 | exact P8 | exact P9 | exact P10 | exact P11 | exact P12 | exact P13 | exact P14 | exact P15 | exact P16 | exact P17 | exact P18 | exact P19 | exact P20 | exact P21 | exact P22 | exact P23)) | (apply Part.flat; simp only [List.cons_append, List.nil_append]) | (apply Part.nilc)))
      intro h22_2
      refine SPL_nil ?_
      refine thenP_n ?_
      refine SP_cond_t rfl ?_
      refine SP_seq ?_
      obtain ⟨mid, hj1, hj2, hj3⟩ := (hpo.p7 h21_0).split
      refine SP_region ?_
      refine SPL_y (y_move rfl) rfl ?_
      refine SPL_y (y_move rfl) rfl ?_
      refine SPL_y (y_loads Tryz.isAgg181 Tryz.sizeOf181 rfl rfl (by repeat (first | exact Cells.all _ | exact Cells.head rfl | apply Cells.tail))) rfl ?_
      refine SPL_one rfl (SP1_call (run_jump x (.pointer (some ⟨pb, 0, none⟩)) (.pointer (some ⟨kb, 0, none⟩)) bf m1.pop.i s2 hm2 hN (by have := hpre.stl; have := hpre.fr4; refine ⟨?_, ?_⟩; (show m1.i.st.dropLast.length ≤ 1000000; rw [List.length_dropLast]; omega); (show m1.i.fr.length ≤ 1000000; omega)) c _ mid _ hj1 hj2 hj3) Tryz.call131 rfl rfl (by repeat (first | exact Part.nil _ | (apply Part.cons; (first | exact P0 | exact P1 | exact P2 | exact P3 | exact P4 | exact P5 | exact P6 | exact P7 | exact P8 | exact P9 | exact P10 | exact P11 | exact P12 | exact P13 | exact P14 | exact P15 | exact P16 | exact P17 | exact P18 | exact P19 | exact P20 | exact P21 | exact P22 | exact P23)) | (apply Part.flat; simp only [List.cons_append, List.nil_append]) | (apply Part.nilc))) ?_)
      rintro v post H' ⟨s9, rfl, rfl, hm9⟩ hH
      try simp only [List.cons_append, List.nil_append] at hH
      subst hH
      refine SPL_nil ?_
      refine thenP_n ?_
      refine SP_exit ?_
      refine inBlockP_miss rfl ?_
      refine thenP_exit ?_
      refine inBlockP_hit ?_
      refine thenP_n ?_
      have hx : m.step fuel = (m1.pop.jump c, none) := by rw [hstep]; rw [exec_x7 h21_0]; unfold VM.x7; exact if_neg h22_2
      have hx2 := hS m _ hg hx
      exact Again.intro (⟨m1.pop.jump c, (some ⟨bf, 0, none⟩), s9, _, _, _⟩ : VM × Option Addr × Seg × Seg × Seg × Seg) (⟨hx2.1, hm9, hp1, hk1, hh1, hhv⟩) hx2.2 (by repeat (first | exact Sub.nil _ | refine Sub.cons rfl ?_)) (by repeat (first | exact Part.nil _ | (apply Part.cons; (first | exact P0 | exact P1 | exact P2 | exact P3 | exact P4 | exact P5 | exact P6 | exact P7 | exact P8 | exact P9 | exact P10 | exact P11 | exact P12 | exact P13 | exact P14 | exact P15 | exact P16 | exact P17 | exact P18 | exact P19 | exact P20 | exact P21 | exact P22 | exact P23)) | (apply Part.flat; simp only [List.cons_append, List.nil_append]) | (apply Part.nilc)))
    intro h21_0
    refine SPL_y (y_assign rfl) rfl ?_
    refine SPL_nil ?_
    refine thenP_n ?_
    refine SP_cond_f rfl ?_
    refine SP_seq ?_
    refine SP_region ?_
    refine SPL_if (y_eql rfl rfl) rfl ?_ ?_
    · intro h24_0
      refine SPL_y (y_assign rfl) rfl ?_
      refine SPL_nil ?_
      refine thenP_n ?_
      refine SP_cond_t rfl ?_
      refine SP_seq ?_
      have h32 := hpo.p3 (by omega)
      refine SP_region ?_
      refine SPL_y (y_move rfl) rfl ?_
      refine SPL_one rfl (SP1_call (run_pop32 x (.pointer (some ⟨pb, 0, none⟩)) (.pointer (some ⟨kb, 0, none⟩)) (some ⟨bf, 0, none⟩) m1.i s1 hm1 hpre.fr0 (by have := hpre.stl; have := hpre.fr4; exact ⟨by omega, by omega⟩) (lst m1.i.st).n m1.i.st.dropLast (h32.1.floor _ h32.1.len) (by conv => lhs; rw [h32.1.one, w_false h32.2]) (ok32 h32.2 (hpre.ok _ (lst_mem (by have := h32.1.len; omega))))) Tryz.call129 rfl rfl (by repeat (first | exact Part.nil _ | (apply Part.cons; (first | exact P0 | exact P1 | exact P2 | exact P3 | exact P4 | exact P5 | exact P6 | exact P7 | exact P8 | exact P9 | exact P10 | exact P11 | exact P12 | exact P13 | exact P14 | exact P15 | exact P16 | exact P17 | exact P18 | exact P19 | exact P20 | exact P21 | exact P22 | exact P23)) | (apply Part.flat; simp only [List.cons_append, List.nil_append]) | (apply Part.nilc))) ?_)
      rintro v post H' ⟨s2, rfl, rfl, hm2⟩ hH
      try simp only [List.cons_append, List.nil_append] at hH
      subst hH
      refine SPL_y (y_and rfl rfl (bit_andU32 _)) rfl ?_
      refine SPL_y (y_assign rfl) rfl ?_
      refine SPL_nil ?_
      refine thenP_n ?_
      refine SP_seq ?_
      refine SP_region ?_
      refine SPL_y (y_move rfl) rfl ?_
      refine SPL_y (y_fa fld_181_1 rfl) rfl ?_
      refine SPL_y (y_load Tryz.isAgg3 rfl (by repeat (first | exact Cell.head rfl | apply Cell.tail))) rfl ?_
      refine SPL_y (y_minE rfl rfl (show _ = min ((lst m1.i.st).n % 4294967296) c.imm by rw [Int.min_def]; split <;> split <;> omega)) rfl ?_
      refine SPL_y (y_assign rfl) rfl ?_
      refine SPL_nil ?_
      refine thenP_n ?_
      refine SP_seq ?_
      have hp8 := hpo.p8 h24_0
      have hpf : m1.pop.i.fr.length = m1.i.fr.length := rfl
      have hpt : m1.pop.i.top.pc = m1.i.top.pc := rfl
      have hm2' : isInst x (.pointer (some ⟨pb, 0, none⟩)) (.pointer (some ⟨kb, 0, none⟩)) (some ⟨bf, 0, none⟩) m1.pop.i s2 := hm2
      have hm2k := hm2'
      obtain ⟨sa3, sc3, fc3, ss3, sf3, rfl, hst3, hfr3⟩ := hm2'
      refine SP_open (by first | exact P0 | exact P1 | exact P2 | exact P3 | exact P4 | exact P5 | exact P6 | exact P7 | exact P8 | exact P9 | exact P10 | exact P11 | exact P12 | exact P13 | exact P14 | exact P15 | exact P16 | exact P17 | exact P18 | exact P19 | exact P20 | exact P21 | exact P22 | exact P23) ?_
      simp only [List.cons_append, List.nil_append]
      obtain ⟨bf', spf3, hbf3, hfc3, hspf3, rfl⟩ := hfr3.row (by exact hN)
      obtain rfl : bf = bf' := by simpa using hbf3
      clear hbf3
      refine SP_drawG 15 mixed (Part.refl _) ?_
      refine SPG_pre (fuel' := 3) [(0, 0), (1, 0), (2, 0), (4, 0), (5, 0), (6, 0), (8, 0), (9, 0), (10, 0), (13, 0), (3, 1), (7, 1), (11, 1), (12, 0), (14, 0)] (by kernel_rfl) (fun _ _ _ _ _ h => h) ?_
      refine SPP_p rfl (y_move rfl) rfl ?_
      refine SPP_p rfl (y_nil rfl) rfl ?_
      refine SPP_p rfl (y_fa fld_93_0 rfl) rfl ?_
      refine SPP_p rfl (y_move rfl) rfl ?_
      refine SPP_p rfl (y_nil rfl) rfl ?_
      refine SPP_p rfl (y_fa fld_257_0 rfl) rfl ?_
      refine SPP_p rfl (y_move rfl) rfl ?_
      refine SPP_p rfl (y_nil rfl) rfl ?_
      refine SPP_p rfl (y_fa fld_257_1 rfl) rfl ?_
      refine SPP_p rfl (y_move rfl) rfl ?_
      refine SPP_h rfl (y_load Tryz.isAgg45 rfl (by repeat (first | exact Cell.head rfl | apply Cell.tail))) rfl ?_
      refine SPP_h rfl (y_load Tryz.isAgg3 rfl (by repeat (first | exact Cell.elem (q := 0) frV_len (i := m1.pop.i.fr.length - 1) (by omega) (by omega) (by rw [← itop_eq (by omega)]; rfl) | apply Cell.tail))) rfl ?_
      refine SPP_h rfl (y_load Tryz.isAgg3 rfl (by repeat (first | exact Cell.elem (q := 1) frV_len (i := m1.pop.i.fr.length - 1) (by omega) (by omega) (by rw [← itop_eq (by omega)]; rfl) | apply Cell.tail))) rfl ?_
      refine SPP_p rfl (y_add rfl rfl (by omega)) rfl ?_
      refine SPP_p rfl (y_add rfl rfl (by omega)) rfl ?_
      refine SPP_nil ?_
      refine SPG_two (i := 15) (j := 16) (by kernel_rfl) rfl rfl rfl rfl ?_ ?_
      · refine SP1_call (prep_At pb pfa m1.P m1.steps sp1 m1.i.top.f (m1.i.top.pc + 1 + min ((lst m1.i.st).n % 4294967296) c.imm) hp1) Tryz.call128 rfl rfl (by repeat (first | exact Part.nil _ | (apply Part.cons; (first | exact P0 | exact P1 | exact P2 | exact P3 | exact P4 | exact P5 | exact P6 | exact P7 | exact P8 | exact P9 | exact P10 | exact P11 | exact P12 | exact P13 | exact P14 | exact P15 | exact P16 | exact P17 | exact P18 | exact P19 | exact P20 | exact P21 | exact P22 | exact P23)) | (apply Part.flat; simp only [List.cons_append, List.nil_append]) | (apply Part.nilc))) ?_
        rintro v post H' ⟨rfl, sp2, rfl, hp2⟩ hH
        try simp only [List.cons_append, List.nil_append] at hH
        subst hH
        refine ⟨fun h => absurd rfl h, ?_⟩
        refine SPG_ord [(16, 3), (17, 3)] (by kernel_rfl) (fun _ _ _ _ _ h => h) ?_
        refine SPO_z (k := 0) rfl rfl (SP1_alloc Tryz.zeroValue181 rfl rfl ?_)
        intro b9
        refine SPO_z (k := 0) rfl rfl (SP1_storeAll Tryz.sizeOf181 rfl rfl rfl rfl rfl (by first | exact U0 | exact U1 | exact U2 | exact U3 | exact U4 | exact U5 | exact U6 | exact U7 | exact U8 | exact U9 | exact U10 | exact U11 | exact U12 | exact U13 | exact U14 | exact U15 | exact U16 | exact U17 | exact U18 | exact U19 | exact U20 | exact U21 | exact U22 | exact U23) (by rfl) ?_)
        refine SPO_nil ?_
        refine thenP_n ?_
        refine SP_seq ?_
        refine SP_region ?_
        refine SPL_y (y_fa fld_181_0 rfl) rfl ?_
        refine SPL_y (y_load Tryz.isAgg3 rfl (by repeat (first | exact Cell.head rfl | apply Cell.tail))) rfl ?_
        refine SPL_y (y_eqlT rfl rfl hp8.2.2.1) rfl ?_
        refine SPL_one rfl (SP1_call (run_needT 10) Tryz.call126 rfl rfl (by repeat (first | exact Part.nil _ | (apply Part.cons; (first | exact P0 | exact P1 | exact P2 | exact P3 | exact P4 | exact P5 | exact P6 | exact P7 | exact P8 | exact P9 | exact P10 | exact P11 | exact P12 | exact P13 | exact P14 | exact P15 | exact P16 | exact P17 | exact P18 | exact P19 | exact P20 | exact P21 | exact P22 | exact P23)) | (apply Part.flat; simp only [List.cons_append, List.nil_append]) | (apply Part.nilc))) ?_)
        rintro v post H' ⟨rfl, rfl⟩ hH
        try simp only [List.cons_append, List.nil_append] at hH
        subst hH
        refine SPL_nil ?_
        refine thenP_n ?_
        refine SP_seq ?_
        obtain ⟨mid, hj1, hj2, hj3⟩ := hp8.2.2.2.split
        refine SP_region ?_
        refine SPL_y (y_move rfl) rfl ?_
        refine SPL_y (y_move rfl) rfl ?_
        refine SPL_y (y_loads Tryz.isAgg181 Tryz.sizeOf181 rfl rfl (by repeat (first | exact Cells.all _ | exact Cells.head rfl | apply Cells.tail))) rfl ?_
        refine SPL_one rfl (SP1_call (run_jump x (.pointer (some ⟨pb, 0, none⟩)) (.pointer (some ⟨kb, 0, none⟩)) bf m1.pop.i _ hm2k hN (by have := hpre.stl; have := hpre.fr4; refine ⟨?_, ?_⟩; (show m1.i.st.dropLast.length ≤ 1000000; rw [List.length_dropLast]; omega); (show m1.i.fr.length ≤ 1000000; omega)) (m1.P.at m1.i.top.f (m1.i.top.pc + 1 + min ((lst m1.i.st).n % 4294967296) c.imm)) _ mid _ hj1 hj2 hj3) Tryz.call131 rfl rfl (by repeat (first | exact Part.nil _ | (apply Part.cons; (first | exact P0 | exact P1 | exact P2 | exact P3 | exact P4 | exact P5 | exact P6 | exact P7 | exact P8 | exact P9 | exact P10 | exact P11 | exact P12 | exact P13 | exact P14 | exact P15 | exact P16 | exact P17 | exact P18 | exact P19 | exact P20 | exact P21 | exact P22 | exact P23)) | (apply Part.flat; simp only [List.cons_append, List.nil_append]) | (apply Part.nilc))) ?_)
        rintro v post H' ⟨s9, rfl, rfl, hm9⟩ hH
        try simp only [List.cons_append, List.nil_append] at hH
        subst hH
        refine SPL_nil ?_
        refine thenP_n ?_
        refine SP_exit ?_
        refine inBlockP_miss rfl ?_
        refine thenP_exit ?_
        refine inBlockP_hit ?_
        refine thenP_n ?_
        have hx : m.step fuel = (({ m1 with steps := IntKind.i64.wrap (m1.steps + 1) } : VM).pop.jump (m1.P.at m1.i.top.f (m1.i.top.pc + 1 + min ((lst m1.i.st).n % 4294967296) c.imm)), none) := by rw [hstep]; rw [exec_x8 h24_0]; rfl
        have hx2 := hS m _ hg hx
        exact Again.intro (⟨({ m1 with steps := IntKind.i64.wrap (m1.steps + 1) } : VM).pop.jump (m1.P.at m1.i.top.f (m1.i.top.pc + 1 + min ((lst m1.i.st).n % 4294967296) c.imm)), (some ⟨bf, 0, none⟩), s9, _, _, _⟩ : VM × Option Addr × Seg × Seg × Seg × Seg) (⟨hx2.1, hm9, hp2, hk1, hh1, hhv⟩) hx2.2 (by repeat (first | exact Sub.nil _ | refine Sub.cons rfl ?_)) (by repeat (first | exact Part.nil _ | (apply Part.cons; (first | exact P0 | exact P1 | exact P2 | exact P3 | exact P4 | exact P5 | exact P6 | exact P7 | exact P8 | exact P9 | exact P10 | exact P11 | exact P12 | exact P13 | exact P14 | exact P15 | exact P16 | exact P17 | exact P18 | exact P19 | exact P20 | exact P21 | exact P22 | exact P23)) | (apply Part.flat; simp only [List.cons_append, List.nil_append]) | (apply Part.nilc)))
      refine SP1_alloc Tryz.zeroValue181 rfl rfl ?_
      intro b9
      refine ⟨fun _ => ⟨_, (by repeat (first | exact Part.nil _ | (apply Part.cons; (first | exact P0 | exact P1 | exact P2 | exact P3 | exact P4 | exact P5 | exact P6 | exact P7 | exact P8 | exact P9 | exact P10 | exact P11 | exact P12 | exact P13 | exact P14 | exact P15 | exact P16 | exact P17 | exact P18 | exact P19 | exact P20 | exact P21 | exact P22 | exact P23)) | (apply Part.flat; simp only [List.cons_append, List.nil_append]) | (apply Part.nilc)))⟩, ?_⟩
      refine SPG_ord [(15, 3), (17, 3)] (by kernel_rfl) (fun _ _ _ _ _ h => h) ?_
      refine SPO_z (k := 0) rfl rfl (SP1_call (prep_At pb pfa m1.P m1.steps sp1 m1.i.top.f (m1.i.top.pc + 1 + min ((lst m1.i.st).n % 4294967296) c.imm) hp1) Tryz.call128 rfl rfl (by repeat (first | exact Part.nil _ | (apply Part.cons; (first | exact P0 | exact P1 | exact P2 | exact P3 | exact P4 | exact P5 | exact P6 | exact P7 | exact P8 | exact P9 | exact P10 | exact P11 | exact P12 | exact P13 | exact P14 | exact P15 | exact P16 | exact P17 | exact P18 | exact P19 | exact P20 | exact P21 | exact P22 | exact P23)) | (apply Part.flat; simp only [List.cons_append, List.nil_append]) | (apply Part.nilc))) ?_)
      rintro v post H' ⟨rfl, sp2, rfl, hp2⟩ hH
      try simp only [List.cons_append, List.nil_append] at hH
      subst hH
      refine SPO_z (k := 0) rfl rfl (SP1_storeAll Tryz.sizeOf181 rfl rfl rfl rfl rfl (by first | exact U0 | exact U1 | exact U2 | exact U3 | exact U4 | exact U5 | exact U6 | exact U7 | exact U8 | exact U9 | exact U10 | exact U11 | exact U12 | exact U13 | exact U14 | exact U15 | exact U16 | exact U17 | exact U18 | exact U19 | exact U20 | exact U21 | exact U22 | exact U23) (by rfl) ?_)
      refine SPO_nil ?_
      refine thenP_n ?_
      refine SP_seq ?_
      refine SP_region ?_
      refine SPL_y (y_fa fld_181_0 rfl) rfl ?_
      refine SPL_y (y_load Tryz.isAgg3 rfl (by repeat (first | exact Cell.head rfl | apply Cell.tail))) rfl ?_
      refine SPL_y (y_eqlT rfl rfl hp8.2.2.1) rfl ?_
      refine SPL_one rfl (SP1_call (run_needT 10) Tryz.call126 rfl rfl (by repeat (first | exact Part.nil _ | (apply Part.cons; (first | exact P0 | exact P1 | exact P2 | exact P3 | exact P4 | exact P5 | exact P6 | exact P7 | exact P8 | exact P9 | exact P10 | exact P11 | exact P12 | exact P13 | exact P14 | exact P15 | exact P16 | exact P17 | exact P18 | exact P19 | exact P20 | exact P21 | exact P22 | exact P23)) | (apply Part.flat; simp only [List.cons_append, List.nil_append]) | (apply Part.nilc))) ?_)
      rintro v post H' ⟨rfl, rfl⟩ hH
      try simp only [List.cons_append, List.nil_append] at hH
      subst hH
      refine SPL_nil ?_
      refine thenP_n ?_
      refine SP_seq ?_
      obtain ⟨mid, hj1, hj2, hj3⟩ := hp8.2.2.2.split
      refine SP_region ?_
      refine SPL_y (y_move rfl) rfl ?_
      refine SPL_y (y_move rfl) rfl ?_
      refine SPL_y (y_loads Tryz.isAgg181 Tryz.sizeOf181 rfl rfl (by repeat (first | exact Cells.all _ | exact Cells.head rfl | apply Cells.tail))) rfl ?_
      refine SPL_one rfl (SP1_call (run_jump x (.pointer (some ⟨pb, 0, none⟩)) (.pointer (some ⟨kb, 0, none⟩)) bf m1.pop.i _ hm2k hN (by have := hpre.stl; have := hpre.fr4; refine ⟨?_, ?_⟩; (show m1.i.st.dropLast.length ≤ 1000000; rw [List.length_dropLast]; omega); (show m1.i.fr.length ≤ 1000000; omega)) (m1.P.at m1.i.top.f (m1.i.top.pc + 1 + min ((lst m1.i.st).n % 4294967296) c.imm)) _ mid _ hj1 hj2 hj3) Tryz.call131 rfl rfl (by repeat (first | exact Part.nil _ | (apply Part.cons; (first | exact P0 | exact P1 | exact P2 | exact P3 | exact P4 | exact P5 | exact P6 | exact P7 | exact P8 | exact P9 | exact P10 | exact P11 | exact P12 | exact P13 | exact P14 | exact P15 | exact P16 | exact P17 | exact P18 | exact P19 | exact P20 | exact P21 | exact P22 | exact P23)) | (apply Part.flat; simp only [List.cons_append, List.nil_append]) | (apply Part.nilc))) ?_)
      rintro v post H' ⟨s9, rfl, rfl, hm9⟩ hH
      try simp only [List.cons_append, List.nil_append] at hH
      subst hH
      refine SPL_nil ?_
      refine thenP_n ?_
      refine SP_exit ?_
      refine inBlockP_miss rfl ?_
      refine thenP_exit ?_
      refine inBlockP_hit ?_
      refine thenP_n ?_
      have hx : m.step fuel = (({ m1 with steps := IntKind.i64.wrap (m1.steps + 1) } : VM).pop.jump (m1.P.at m1.i.top.f (m1.i.top.pc + 1 + min ((lst m1.i.st).n % 4294967296) c.imm)), none) := by rw [hstep]; rw [exec_x8 h24_0]; rfl
      have hx2 := hS m _ hg hx
      exact Again.intro (⟨({ m1 with steps := IntKind.i64.wrap (m1.steps + 1) } : VM).pop.jump (m1.P.at m1.i.top.f (m1.i.top.pc + 1 + min ((lst m1.i.st).n % 4294967296) c.imm)), (some ⟨bf, 0, none⟩), s9, _, _, _⟩ : VM × Option Addr × Seg × Seg × Seg × Seg) (⟨hx2.1, hm9, hp2, hk1, hh1, hhv⟩) hx2.2 (by repeat (first | exact Sub.nil _ | refine Sub.cons rfl ?_)) (by repeat (first | exact Part.nil _ | (apply Part.cons; (first | exact P0 | exact P1 | exact P2 | exact P3 | exact P4 | exact P5 | exact P6 | exact P7 | exact P8 | exact P9 | exact P10 | exact P11 | exact P12 | exact P13 | exact P14 | exact P15 | exact P16 | exact P17 | exact P18 | exact P19 | exact P20 | exact P21 | exact P22 | exact P23)) | (apply Part.flat; simp only [List.cons_append, List.nil_append]) | (apply Part.nilc)))
    intro h24_0
    refine SPL_y (y_assign rfl) rfl ?_
    refine SPL_nil ?_
    refine thenP_n ?_
    refine SP_cond_f rfl ?_
    refine SP_seq ?_
    refine SP_region ?_
    refine SPL_if (y_eql rfl rfl) rfl ?_ ?_
    · intro h30_0
      refine SPL_y (y_assign rfl) rfl ?_
      refine SPL_nil ?_
      refine thenP_n ?_
      refine SP_cond_t rfl ?_
      refine SP_seq ?_
      refine SP_seq ?_
      obtain ⟨hi0, hi1, hsk, hps, hrs, hls, htp, hty⟩ := hpo.p10 h30_0
      obtain ⟨⟨ps, rs, ls, okb⟩, hsig⟩ : ∃ z, m1.P.sig c.imm = z := ⟨_, rfl⟩
      rw [hsig] at hsk hps hrs hls htp hty
      dsimp only at hsk hps hrs hls htp hty
      subst hsk
      have hsig2 : m1.P.sig c.imm = ((m1.i.st.drop (m1.i.st.length - ps.length)).map W.t, rs, ls, true) := by rw [hty]; exact hsig
      have hm1k := hm1
      obtain ⟨sa3, sc3, fc3, ss3, sf3, rfl, hst3, hfr3⟩ := hm1
      refine SP_open (by first | exact P0 | exact P1 | exact P2 | exact P3 | exact P4 | exact P5 | exact P6 | exact P7 | exact P8 | exact P9 | exact P10 | exact P11 | exact P12 | exact P13 | exact P14 | exact P15 | exact P16 | exact P17 | exact P18 | exact P19 | exact P20 | exact P21 | exact P22 | exact P23) ?_
      simp only [List.cons_append, List.nil_append]
      obtain ⟨bf', spf3, hbf3, hfc3, hspf3, rfl⟩ := hfr3.row (by exact hN)
      obtain rfl : bf = bf' := by simpa using hbf3
      clear hbf3
      have hl0 := hpre.fr4
      have hl9 := hpre.stl
      refine SP_draw 999 [(0, 0), (2, 0), (3, 0), (4, 0), (1, 1), (5, 1), (6, 2), (7, 0)] mixed (by kernel_rfl) (fun _ _ _ _ _ h => h) (Part.refl _) ?_
      refine SPO_p rfl (y_fa fld_181_1 rfl) rfl ?_
      refine SPO_p rfl (y_move rfl) rfl ?_
      refine SPO_p rfl (y_nil rfl) rfl ?_
      refine SPO_p rfl (y_fa fld_93_0 rfl) rfl ?_
      refine SPO_h rfl (y_load Tryz.isAgg3 rfl (by repeat (first | exact Cell.head rfl | apply Cell.tail))) rfl ?_
      refine SPO_h rfl (y_load Tryz.isAgg45 rfl (by repeat (first | exact Cell.head rfl | apply Cell.tail))) rfl ?_
      refine SPO_a rfl rfl (SP1_call (prep_NImports pb pfa m1.P m1.steps sp1 hp1) Tryz.call19 rfl rfl (by repeat (first | exact Part.nil _ | (apply Part.cons; (first | exact P0 | exact P1 | exact P2 | exact P3 | exact P4 | exact P5 | exact P6 | exact P7 | exact P8 | exact P9 | exact P10 | exact P11 | exact P12 | exact P13 | exact P14 | exact P15 | exact P16 | exact P17 | exact P18 | exact P19 | exact P20 | exact P21 | exact P22 | exact P23)) | (apply Part.flat; simp only [List.cons_append, List.nil_append]) | (apply Part.nilc))) ?_)
      rintro v post H' ⟨rfl, rfl⟩ hH
      try simp only [List.cons_append, List.nil_append] at hH
      subst hH
      refine ⟨⟨_, (by repeat (first | exact Part.nil _ | (apply Part.cons; (first | exact P0 | exact P1 | exact P2 | exact P3 | exact P4 | exact P5 | exact P6 | exact P7 | exact P8 | exact P9 | exact P10 | exact P11 | exact P12 | exact P13 | exact P14 | exact P15 | exact P16 | exact P17 | exact P18 | exact P19 | exact P20 | exact P21 | exact P22 | exact P23)) | (apply Part.flat; simp only [List.cons_append, List.nil_append]) | (apply Part.nilc)))⟩, ?_⟩
      refine SPO_ifn rfl (y_geq rfl rfl) rfl ?_ ?_
      · intro h31_7
        refine SPO_nil ?_
        refine thenP_n ?_
        refine SP_cond_f rfl ?_
        refine SP_skip ?_
        refine thenP_n ?_
        have hflo : ∀ h : m1.i.fr.length - 1 < m1.i.fr.length, m1.i.fr[m1.i.fr.length - 1].floor ≤ (m1.i.st.take (m1.i.st.length - ps.length)).length := fun h => by
          rw [← itop_eq h, List.length_take]; unfold Top at htp; omega
        have hi01 := And.intro hi0 hi1
        refine SP_region ?_
        refine SPL_y (y_move rfl) rfl ?_
        refine SPL_y (y_fa fld_181_1 rfl) rfl ?_
        refine SPL_y (y_load Tryz.isAgg3 rfl (by repeat (first | exact Cell.head rfl | apply Cell.tail))) rfl ?_
        refine SPL_y (y_move rfl) rfl ?_
        refine SPL_one rfl (SP1_callp ((by have := run_ask x (.pointer (some ⟨kb, 0, none⟩)) pb pfa m1.P m1.steps sp1 hp1 (some ⟨bf, 0, none⟩) m1.i _ hm1k hN (by have := hpre.stl; have := hpre.fr4; exact ⟨by omega, by omega⟩) hb m1.host sh hh1 hpre.hb c.imm hi01 (m1.i.st.take (m1.i.st.length - ps.length)) (m1.i.st.drop (m1.i.st.length - ps.length)) rs ls last_cut hflo hsig2 (fun y hy => hpre.ok y (List.mem_of_mem_drop hy)) (by rw [List.length_drop]; omega) hrs; rw [hhv] at this; exact this)) Tryz.call132 rfl rfl (by repeat (first | exact Part.nil _ | (apply Part.cons; (first | exact P0 | exact P1 | exact P2 | exact P3 | exact P4 | exact P5 | exact P6 | exact P7 | exact P8 | exact P9 | exact P10 | exact P11 | exact P12 | exact P13 | exact P14 | exact P15 | exact P16 | exact P17 | exact P18 | exact P19 | exact P20 | exact P21 | exact P22 | exact P23)) | (apply Part.flat; simp only [List.cons_append, List.nil_append]) | (apply Part.nilc))) ?_ ?_)
        · rintro c' post H' ⟨s9, sh9, st9, rfl, hne, rfl, hm9, hh9⟩ hH
          try simp only [List.cons_append, List.nil_append] at hH
          subst hH
          refine inBlockP_panic (thenP_panic (inBlockP_panic (thenP_panic (inBlockP_panic (noGotoP_panic (bodyP_panic (H' := [s9, sp1, sk, sh9]) (by repeat (first | exact Part.nil _ | (apply Part.cons; (first | exact P0 | exact P1 | exact P2 | exact P3 | exact P4 | exact P5 | exact P6 | exact P7 | exact P8 | exact P9 | exact P10 | exact P11 | exact P12 | exact P13 | exact P14 | exact P15 | exact P16 | exact P17 | exact P18 | exact P19 | exact P20 | exact P21 | exact P22 | exact P23)) | (apply Part.flat; simp only [List.cons_append, List.nil_append]) | (apply Part.nilc))) ?_))))))
          exact ⟨m, ({ m1 with host := (askM m1.host c.imm rs (m1.i.st.drop (m1.i.st.length - ps.length))).1 } : VM), _, _, _, _, _, _, _, _, hg, by rw [hstep]; rw [exec_x10 h30_0]; unfold VM.x10; rw [if_neg h31_7, hsig]; exact if_neg hne, hne, rfl, rfl, hm9, hp1, hk1, hh9⟩
        rintro v post H' ⟨s9, sh9, rfl, rfl, he0, hm9, hh9⟩ hH
        try simp only [List.cons_append, List.nil_append] at hH
        subst hH
        refine SPL_nil ?_
        refine inBlockP_n ?_
        refine thenP_n ?_
        have hx : m.step fuel = VM.next (({ m1 with host := (askM m1.host c.imm rs (m1.i.st.drop (m1.i.st.length - ps.length))).1 } : VM).setSt (m1.i.st.take (m1.i.st.length - ps.length) ++ (askM m1.host c.imm rs (m1.i.st.drop (m1.i.st.length - ps.length))).2.2)) := by rw [hstep]; rw [exec_x10 h30_0]; unfold VM.x10; rw [if_neg h31_7, hsig]; exact if_pos he0
        exact Mid.intro (⟨({ m1 with host := (askM m1.host c.imm rs (m1.i.st.drop (m1.i.st.length - ps.length))).1 } : VM).setSt (m1.i.st.take (m1.i.st.length - ps.length) ++ (askM m1.host c.imm rs (m1.i.st.drop (m1.i.st.length - ps.length))).2.2), s9, _, _, _⟩ : VM × Seg × Seg × Seg × Seg) ⟨hx, hN, ⟨hpre.pc0, hpre.pc1⟩, hm9, hp1, hk1, hh9, (hostV_kind (askM_kind _ _ _ _)).trans hhv⟩ (by repeat (first | exact Sub.nil _ | refine Sub.cons rfl ?_)) (by repeat (first | exact Part.nil _ | (apply Part.cons; (first | exact P0 | exact P1 | exact P2 | exact P3 | exact P4 | exact P5 | exact P6 | exact P7 | exact P8 | exact P9 | exact P10 | exact P11 | exact P12 | exact P13 | exact P14 | exact P15 | exact P16 | exact P17 | exact P18 | exact P19 | exact P20 | exact P21 | exact P22 | exact P23)) | (apply Part.flat; simp only [List.cons_append, List.nil_append]) | (apply Part.nilc)))
      intro h31_7
      refine SPO_nil ?_
      refine thenP_n ?_
      refine SP_cond_t rfl ?_
      refine SP_seq ?_
      refine SP_region ?_
      refine SPL_y (y_move rfl) rfl ?_
      refine SPL_y (y_nil rfl) rfl ?_
      refine SPL_y (y_fa fld_93_3 rfl) rfl ?_
      refine SPL_y (y_load Tryz.isAgg91 rfl (by repeat (first | exact Cell.head rfl | apply Cell.tail))) rfl ?_
      refine SPL_y (y_len_l Tryz.underlying91 rfl) rfl ?_
      refine SPL_y (y_lss rfl rfl) rfl ?_
      refine SPL_one rfl (SP1_callp (run_need _ 14) Tryz.call126 rfl rfl (by repeat (first | exact Part.nil _ | (apply Part.cons; (first | exact P0 | exact P1 | exact P2 | exact P3 | exact P4 | exact P5 | exact P6 | exact P7 | exact P8 | exact P9 | exact P10 | exact P11 | exact P12 | exact P13 | exact P14 | exact P15 | exact P16 | exact P17 | exact P18 | exact P19 | exact P20 | exact P21 | exact P22 | exact P23)) | (apply Part.flat; simp only [List.cons_append, List.nil_append]) | (apply Part.nilc))) ?_ ?_)
      · rintro c' post H' ⟨hok, rfl, rfl⟩ hH
        try simp only [List.cons_append, List.nil_append] at hH
        subst hH
        refine thenP_panic (thenP_panic (inBlockP_panic (thenP_panic (inBlockP_panic (thenP_panic (inBlockP_panic (noGotoP_panic (bodyP_panic (H' := [List.flatten [blk x 93 [(.pointer (some ⟨pb, 0, none⟩)), (.pointer (some ⟨kb, 0, none⟩)), .slice sa3 m1.i.st.length sc3, .slice (some ⟨bf, 0, none⟩) m1.i.fr.length fc3, I m1.i.used, I m1.i.high], ss3, blk bf 257 (m1.i.fr.flatMap frV ++ spf3)], sp1, sk, sh]) (by repeat (first | exact Part.nil _ | (apply Part.cons; (first | exact P0 | exact P1 | exact P2 | exact P3 | exact P4 | exact P5 | exact P6 | exact P7 | exact P8 | exact P9 | exact P10 | exact P11 | exact P12 | exact P13 | exact P14 | exact P15 | exact P16 | exact P17 | exact P18 | exact P19 | exact P20 | exact P21 | exact P22 | exact P23)) | (apply Part.flat; simp only [List.cons_append, List.nil_append]) | (apply Part.nilc))) ?_))))))))
        have hlt : ¬ m1.i.fr.length < 4 := by have := of_decide_eq_false hok; omega
        exact ⟨m, m1, 14, _, _, _, _, _, _, _, hg, by rw [hstep]; rw [exec_x10 h30_0]; unfold VM.x10; rw [if_pos h31_7, if_neg hlt], (by decide), rfl, rfl, hm1k, hp1, hk1, hh1⟩
      rintro v post H' ⟨hok, rfl, rfl⟩ hH
      try simp only [List.cons_append, List.nil_append] at hH
      subst hH
      have hlt : m1.i.fr.length < 4 := by have := of_decide_eq_true hok; omega
      refine SPL_nil ?_
      refine thenP_n ?_
      refine SP_seq ?_
      refine SP_region ?_
      refine SPL_y (y_move rfl) rfl ?_
      refine SPL_y (y_nil rfl) rfl ?_
      refine SPL_y (y_fa fld_257_1 rfl) rfl ?_
      refine SPL_y (y_load Tryz.isAgg3 rfl (by repeat (first | exact Cell.elem (q := 1) frV_len (i := m1.i.fr.length - 1) (by omega) (by omega) (by rw [← itop_eq (by omega)]; rfl) | apply Cell.tail))) rfl ?_
      refine SPL_y (y_add rfl rfl (by omega)) rfl ?_
      refine SPL_y (y_nil rfl) rfl ?_
      refine SPL_y (y_fa fld_257_1 rfl) rfl ?_
      refine SPL_one rfl (SP1_store Tryz.sizeOf3 rfl rfl rfl (by first | exact U0 | exact U1 | exact U2 | exact U3 | exact U4 | exact U5 | exact U6 | exact U7 | exact U8 | exact U9 | exact U10 | exact U11 | exact U12 | exact U13 | exact U14 | exact U15 | exact U16 | exact U17 | exact U18 | exact U19 | exact U20 | exact U21 | exact U22 | exact U23) (ble_row (fc := 0) (i := m1.i) hN (by decide)) ?_)
      refine SPL_nil ?_
      refine thenP_n ?_
      refine SP_seq ?_
      have hm4 : isInst x (.pointer (some ⟨pb, 0, none⟩)) (.pointer (some ⟨kb, 0, none⟩)) (some ⟨bf, 0, none⟩) (m1.setPc (m1.i.top.pc + 1)).i _ := pc_inst (i := m1.i) hN hst3 hfc3 hspf3
      obtain ⟨s4, hs4⟩ : ∃ z, List.flatten [blk x 93 [(.pointer (some ⟨pb, 0, none⟩)), (.pointer (some ⟨kb, 0, none⟩)), .slice sa3 m1.i.st.length sc3, .slice (some ⟨bf, 0, none⟩) m1.i.fr.length fc3, I m1.i.used, I m1.i.high], ss3, blk bf 257 ((m1.i.fr.flatMap frV ++ spf3).set (0 + ((m1.i.fr.length : Int) - 1).toNat * 5 + 1) (I (m1.i.top.pc + 1)))] = z := ⟨_, rfl⟩
      refine SP_part (H' := [blk b7 181 (flatV c), List.flatten [blk x 93 [(.pointer (some ⟨pb, 0, none⟩)), (.pointer (some ⟨kb, 0, none⟩)), .slice sa3 m1.i.st.length sc3, .slice (some ⟨bf, 0, none⟩) m1.i.fr.length fc3, I m1.i.used, I m1.i.high], ss3, blk bf 257 ((m1.i.fr.flatMap frV ++ spf3).set (0 + ((m1.i.fr.length : Int) - 1).toNat * 5 + 1) (I (m1.i.top.pc + 1)))], sp1, sk, sh]) (by repeat (first | exact Part.nil _ | (apply Part.cons; (first | exact P0 | exact P1 | exact P2 | exact P3 | exact P4 | exact P5 | exact P6 | exact P7 | exact P8 | exact P9 | exact P10 | exact P11 | exact P12 | exact P13 | exact P14 | exact P15 | exact P16 | exact P17 | exact P18 | exact P19 | exact P20 | exact P21 | exact P22 | exact P23)) | (apply Part.flat; simp only [List.cons_append, List.nil_append]) | (apply Part.nilc))) ?_
      rw [hs4] at hm4 ⊢
      have hm4k := hm4
      obtain ⟨sa5, sc5, fc5, ss5, sf5, rfl, hst5, hfr5⟩ := hm4
      refine SP_open (by first | exact P0 | exact P1 | exact P2 | exact P3 | exact P4 | exact P5 | exact P6 | exact P7 | exact P8 | exact P9 | exact P10 | exact P11 | exact P12 | exact P13 | exact P14 | exact P15 | exact P16 | exact P17 | exact P18 | exact P19 | exact P20 | exact P21 | exact P22 | exact P23) ?_
      simp only [List.cons_append, List.nil_append]
      have hN4 : 0 < (m1.setPc (m1.i.top.pc + 1)).i.fr.length := by show 0 < (m1.i.fr.set _ _).length; rw [List.length_set]; exact hN
      have hN5 : (m1.setPc (m1.i.top.pc + 1)).i.fr.length = m1.i.fr.length := List.length_set ..
      obtain ⟨bf', spf5, hbf5, hfc5, hspf5, rfl⟩ := hfr5.row hN4
      obtain rfl : bf = bf' := by simpa using hbf5
      have hlow : (m1.setPc (m1.i.top.pc + 1)).i.top.floor ≤ (m1.i.st.take (m1.i.st.length - ps.length)).length := by
        rw [show (m1.setPc (m1.i.top.pc + 1)).i.top = { m1.i.top with pc := m1.i.top.pc + 1 } from setTop_top hN, List.length_take]
        unfold Top at htp; dsimp only; omega
      refine SP_draw 7 [(0, 0), (1, 0), (3, 0), (4, 0), (5, 0), (2, 1), (6, 1), (7, 3)] mixed (by kernel_rfl) (fun _ _ _ _ _ h => h) (Part.refl _) ?_
      refine SPO_p rfl (y_move rfl) rfl ?_
      refine SPO_p rfl (y_fa fld_181_1 rfl) rfl ?_
      refine SPO_p rfl (y_move rfl) rfl ?_
      refine SPO_p rfl (y_nil rfl) rfl ?_
      refine SPO_p rfl (y_fa fld_257_3 rfl) rfl ?_
      refine SPO_h rfl (y_load Tryz.isAgg3 rfl (by repeat (first | exact Cell.head rfl | apply Cell.tail))) rfl ?_
      refine SPO_h rfl (y_load Tryz.isAgg3 rfl (by repeat (first | exact Cell.elem (q := 3) frV_len (i := (m1.setPc (m1.i.top.pc + 1)).i.fr.length - 1) (by omega) (by omega) (by rw [← itop_eq (by omega)]; rfl) | apply Cell.tail))) rfl ?_
      refine SPO_z (k := 0) rfl rfl (SP1_call (run_enter x (.pointer (some ⟨kb, 0, none⟩)) pb pfa m1.P m1.steps sp1 hp1 (some ⟨bf, 0, none⟩) (m1.setPc (m1.i.top.pc + 1)).i _ hm4k (by have := hpre.stl; have := hpre.fr4; refine ⟨?_, ?_⟩; (show m1.i.st.length ≤ 1000000; omega); (show (m1.i.fr.set _ _).length ≤ 1000000; rw [List.length_set]; omega)) c.imm (m1.setPc (m1.i.top.pc + 1)).i.top.floor (m1.i.st.take (m1.i.st.length - ps.length)) (m1.i.st.drop (m1.i.st.length - ps.length)) rs ls last_cut hlow hsig2 hls) Tryz.call88 rfl rfl (by repeat (first | exact Part.nil _ | (apply Part.cons; (first | exact P0 | exact P1 | exact P2 | exact P3 | exact P4 | exact P5 | exact P6 | exact P7 | exact P8 | exact P9 | exact P10 | exact P11 | exact P12 | exact P13 | exact P14 | exact P15 | exact P16 | exact P17 | exact P18 | exact P19 | exact P20 | exact P21 | exact P22 | exact P23)) | (apply Part.flat; simp only [List.cons_append, List.nil_append]) | (apply Part.nilc))) ?_)
      rintro v post H' ⟨s9, fa9, rfl, rfl, hm9⟩ hH
      try simp only [List.cons_append, List.nil_append] at hH
      subst hH
      refine SPO_nil ?_
      refine thenP_n ?_
      refine SP_exit ?_
      refine thenP_exit ?_
      refine inBlockP_miss rfl ?_
      refine thenP_exit ?_
      refine inBlockP_hit ?_
      refine thenP_n ?_
      have hx : m.step fuel = ((m1.setPc (m1.i.top.pc + 1)).enter c.imm, none) := by rw [hstep]; rw [exec_x10 h30_0]; unfold VM.x10; rw [if_pos h31_7, if_pos hlt]
      have hx2 := hS m _ hg hx
      exact Again.intro (⟨(m1.setPc (m1.i.top.pc + 1)).enter c.imm, fa9, s9, _, _, _⟩ : VM × Option Addr × Seg × Seg × Seg × Seg) (⟨hx2.1, (by have e : (m1.i.st.take (m1.i.st.length - ps.length)).length = m1.i.st.length - ps.length := (by rw [List.length_take]; omega); rw [e] at hm9; unfold VM.enter; rw [show (m1.setPc (m1.i.top.pc + 1)).P = m1.P from rfl, hsig]; exact hm9), hp1, hk1, hh1, hhv⟩) hx2.2 (by repeat (first | exact Sub.nil _ | refine Sub.cons rfl ?_)) (by repeat (first | exact Part.nil _ | (apply Part.cons; (first | exact P0 | exact P1 | exact P2 | exact P3 | exact P4 | exact P5 | exact P6 | exact P7 | exact P8 | exact P9 | exact P10 | exact P11 | exact P12 | exact P13 | exact P14 | exact P15 | exact P16 | exact P17 | exact P18 | exact P19 | exact P20 | exact P21 | exact P22 | exact P23)) | (apply Part.flat; simp only [List.cons_append, List.nil_append]) | (apply Part.nilc)))
    intro h30_0
    refine SPL_y (y_assign rfl) rfl ?_
    refine SPL_nil ?_
    refine thenP_n ?_
    refine SP_cond_f rfl ?_
    refine SP_seq ?_
    refine SP_region ?_
    refine SPL_if (y_eql rfl rfl) rfl ?_ ?_
    · intro h36_0
      refine SPL_y (y_assign rfl) rfl ?_
      refine SPL_nil ?_
      refine thenP_n ?_
      refine SP_cond_t rfl ?_
      have ht1 := hpo.p11 h36_0
      refine SP_region ?_
      refine SPL_y (y_move rfl) rfl ?_
      refine SPL_one rfl (SP1_call (run_pop x (.pointer (some ⟨pb, 0, none⟩)) (.pointer (some ⟨kb, 0, none⟩)) (some ⟨bf, 0, none⟩) m1.i s1 hm1 hN (by have := hpre.stl; have := hpre.fr4; exact ⟨by omega, by omega⟩) m1.i.st.dropLast (lst m1.i.st) ht1.one (ht1.floor _ ht1.len)) Tryz.call133 rfl rfl (by repeat (first | exact Part.nil _ | (apply Part.cons; (first | exact P0 | exact P1 | exact P2 | exact P3 | exact P4 | exact P5 | exact P6 | exact P7 | exact P8 | exact P9 | exact P10 | exact P11 | exact P12 | exact P13 | exact P14 | exact P15 | exact P16 | exact P17 | exact P18 | exact P19 | exact P20 | exact P21 | exact P22 | exact P23)) | (apply Part.flat; simp only [List.cons_append, List.nil_append]) | (apply Part.nilc))) ?_)
      rintro v post H' ⟨s2, rfl, rfl, hm2⟩ hH
      try simp only [List.cons_append, List.nil_append] at hH
      subst hH
      refine SPL_nil ?_
      refine inBlockP_n ?_
      refine thenP_n ?_
      have hx : m.step fuel = VM.next (m1.pop) := by rw [hstep]; rw [exec_x11 h36_0]; rfl
      exact Mid.intro (⟨m1.pop, s2, _, _, _⟩ : VM × Seg × Seg × Seg × Seg) ⟨hx, hN, ⟨hpre.pc0, hpre.pc1⟩, hm2, hp1, hk1, hh1, hhv⟩ (by repeat (first | exact Sub.nil _ | refine Sub.cons rfl ?_)) (by repeat (first | exact Part.nil _ | (apply Part.cons; (first | exact P0 | exact P1 | exact P2 | exact P3 | exact P4 | exact P5 | exact P6 | exact P7 | exact P8 | exact P9 | exact P10 | exact P11 | exact P12 | exact P13 | exact P14 | exact P15 | exact P16 | exact P17 | exact P18 | exact P19 | exact P20 | exact P21 | exact P22 | exact P23)) | (apply Part.flat; simp only [List.cons_append, List.nil_append]) | (apply Part.nilc)))
    intro h36_0
    refine SPL_y (y_assign rfl) rfl ?_
    refine SPL_nil ?_
    refine thenP_n ?_
    refine SP_cond_f rfl ?_
    refine SP_seq ?_
    refine SP_region ?_
    refine SPL_if (y_eql rfl rfl) rfl ?_ ?_
    · intro h38_0
      refine SPL_y (y_assign rfl) rfl ?_
      refine SPL_nil ?_
      refine thenP_n ?_
      refine SP_cond_t rfl ?_
      refine SP_seq ?_
      obtain ⟨ht3, hw3, hww⟩ := hpo.p12 h38_0
      have h32 : Top m1 1 ∧ (lst m1.i.st).w = false := ⟨ht3.mono (by omega), hw3⟩
      have hl1 := (ht3.mono (by omega : 1 ≤ 3)).len
      have hl2 : m1.pop.i.st.length = m1.i.st.dropLast.dropLast.length + 1 := (ht3.pop.mono (by omega : 1 ≤ 2)).len
      have hl3 : m1.pop.pop.i.st.length = m1.i.st.dropLast.dropLast.dropLast.length + 1 := ht3.pop.pop.len
      have htt : (lst m1.i.st.dropLast.dropLast).t = (lst m1.i.st.dropLast).t := by unfold W.t; rw [show (lst m1.i.st.dropLast.dropLast).w = (lst m1.i.st.dropLast).w from hww]
      have hok3 : (lst m1.i.st.dropLast.dropLast).ok := hpre.ok _ (drop_mem (drop_mem (lst_mem (show 0 < m1.pop.pop.i.st.length by omega))))
      refine SP_region ?_
      refine SPL_y (y_move rfl) rfl ?_
      refine SPL_one rfl (SP1_call (run_pop32 x (.pointer (some ⟨pb, 0, none⟩)) (.pointer (some ⟨kb, 0, none⟩)) (some ⟨bf, 0, none⟩) m1.i s1 hm1 hpre.fr0 (by have := hpre.stl; have := hpre.fr4; exact ⟨by omega, by omega⟩) (lst m1.i.st).n m1.i.st.dropLast (h32.1.floor _ h32.1.len) (by conv => lhs; rw [h32.1.one, w_false h32.2]) (ok32 h32.2 (hpre.ok _ (lst_mem (by have := h32.1.len; omega))))) Tryz.call129 rfl rfl (by repeat (first | exact Part.nil _ | (apply Part.cons; (first | exact P0 | exact P1 | exact P2 | exact P3 | exact P4 | exact P5 | exact P6 | exact P7 | exact P8 | exact P9 | exact P10 | exact P11 | exact P12 | exact P13 | exact P14 | exact P15 | exact P16 | exact P17 | exact P18 | exact P19 | exact P20 | exact P21 | exact P22 | exact P23)) | (apply Part.flat; simp only [List.cons_append, List.nil_append]) | (apply Part.nilc))) ?_)
      rintro v post H' ⟨s2, rfl, rfl, hm2⟩ hH
      try simp only [List.cons_append, List.nil_append] at hH
      subst hH
      refine SPL_y (y_assign rfl) rfl ?_
      refine SPL_nil ?_
      refine thenP_n ?_
      refine SP_seq ?_
      have hm2' : isInst x (.pointer (some ⟨pb, 0, none⟩)) (.pointer (some ⟨kb, 0, none⟩)) (some ⟨bf, 0, none⟩) m1.pop.i s2 := hm2
      refine SP_region ?_
      refine SPL_y (y_move rfl) rfl ?_
      refine SPL_one rfl (SP1_call (run_pop x (.pointer (some ⟨pb, 0, none⟩)) (.pointer (some ⟨kb, 0, none⟩)) (some ⟨bf, 0, none⟩) m1.pop.i s2 hm2 hN (by have := hpre.stl; have := hpre.fr4; refine ⟨?_, ?_⟩; (show m1.i.st.dropLast.length ≤ 1000000; rw [List.length_dropLast]; omega); (show m1.i.fr.length ≤ 1000000; omega)) m1.i.st.dropLast.dropLast (lst m1.i.st.dropLast) (Top.one (m := m1.pop) (ht3.pop.mono (by omega))) (Top.floor (m := m1.pop) (n := 1) (ht3.pop.mono (by omega)) _ hl2)) Tryz.call133 rfl rfl (by repeat (first | exact Part.nil _ | (apply Part.cons; (first | exact P0 | exact P1 | exact P2 | exact P3 | exact P4 | exact P5 | exact P6 | exact P7 | exact P8 | exact P9 | exact P10 | exact P11 | exact P12 | exact P13 | exact P14 | exact P15 | exact P16 | exact P17 | exact P18 | exact P19 | exact P20 | exact P21 | exact P22 | exact P23)) | (apply Part.flat; simp only [List.cons_append, List.nil_append]) | (apply Part.nilc))) ?_)
      rintro v post H' ⟨s3, rfl, rfl, hm3⟩ hH
      try simp only [List.cons_append, List.nil_append] at hH
      subst hH
      refine SPL_y (y_assign rfl) rfl ?_
      refine SPL_nil ?_
      refine thenP_n ?_
      refine SP_seq ?_
      refine SP_region ?_
      refine SPL_y (y_move rfl) rfl ?_
      refine SPL_one rfl (SP1_kind (y := lst m1.i.st.dropLast) rfl rfl ?_)
      refine SPL_y (y_assign rfl) rfl ?_
      refine SPL_nil ?_
      refine thenP_n ?_
      refine SP_seq ?_
      refine SP_region ?_
      refine SPL_y (y_move rfl) rfl ?_
      refine SPL_y (y_move rfl) rfl ?_
      refine SPL_one rfl (SP1_call ((by have := run_num x (.pointer (some ⟨pb, 0, none⟩)) (.pointer (some ⟨kb, 0, none⟩)) (some ⟨bf, 0, none⟩) m1.pop.pop.i s3 hm3 hN (by have := hpre.stl; have := hpre.fr4; refine ⟨?_, ?_⟩; (show m1.i.st.dropLast.dropLast.length ≤ 1000000; rw [List.length_dropLast, List.length_dropLast]; omega); (show m1.i.fr.length ≤ 1000000; omega)) (lst m1.i.st.dropLast.dropLast) hok3 m1.i.st.dropLast.dropLast.dropLast (Top.floor (m := m1.pop.pop) (n := 1) (ht3.pop.pop.mono (by omega)) _ hl3) (Top.one (m := m1.pop.pop) (ht3.pop.pop.mono (by omega))); rw [htt] at this; exact this)) Tryz.call134 rfl rfl (by repeat (first | exact Part.nil _ | (apply Part.cons; (first | exact P0 | exact P1 | exact P2 | exact P3 | exact P4 | exact P5 | exact P6 | exact P7 | exact P8 | exact P9 | exact P10 | exact P11 | exact P12 | exact P13 | exact P14 | exact P15 | exact P16 | exact P17 | exact P18 | exact P19 | exact P20 | exact P21 | exact P22 | exact P23)) | (apply Part.flat; simp only [List.cons_append, List.nil_append]) | (apply Part.nilc))) ?_)
      rintro v post H' ⟨s4, rfl, rfl, hm4⟩ hH
      try simp only [List.cons_append, List.nil_append] at hH
      subst hH
      refine SPL_y (y_assign rfl) rfl ?_
      refine SPL_nil ?_
      refine thenP_n ?_
      refine SP_seq ?_
      refine SP_seq ?_
      refine SP_region ?_
      refine SPL_y (y_move rfl) rfl ?_
      refine SPL_ifn (y_neq rfl rfl) rfl ?_ ?_
      · intro h43_1
        refine SPL_nil ?_
        refine thenP_n ?_
        refine SP_cond_f rfl ?_
        refine SP_skip ?_
        refine thenP_n ?_
        have hm4' : isInst x (.pointer (some ⟨pb, 0, none⟩)) (.pointer (some ⟨kb, 0, none⟩)) (some ⟨bf, 0, none⟩) m1.pop.pop.pop.i s4 := hm4
        obtain ⟨sa5, sc5, fc5, ss5, sf5, rfl, hst5, hfr5⟩ := hm4'
        refine SP_open (by first | exact P0 | exact P1 | exact P2 | exact P3 | exact P4 | exact P5 | exact P6 | exact P7 | exact P8 | exact P9 | exact P10 | exact P11 | exact P12 | exact P13 | exact P14 | exact P15 | exact P16 | exact P17 | exact P18 | exact P19 | exact P20 | exact P21 | exact P22 | exact P23) ?_
        simp only [List.cons_append, List.nil_append]
        refine SP_region ?_
        refine SPL_y (y_move rfl) rfl ?_
        refine SPL_y (y_move rfl) rfl ?_
        refine SPL_y (y_nil rfl) rfl ?_
        refine SPL_y (y_fa fld_93_2 rfl) rfl ?_
        refine SPL_y (y_load Tryz.isAgg90 rfl (by repeat (first | exact Cell.head rfl | apply Cell.tail))) rfl ?_
        refine SPL_y (y_move rfl) rfl ?_
        refine SPL_one rfl (SP1_slice1 el_90 rfl (W_cells _) rfl rfl rfl ?_)
        intro b232
        refine SPL_one rfl (SP1_append el_90 (.inl Tryz.underlying90) rfl rfl hst5 (by first | exact P0 | exact P1 | exact P2 | exact P3 | exact P4 | exact P5 | exact P6 | exact P7 | exact P8 | exact P9 | exact P10 | exact P11 | exact P12 | exact P13 | exact P14 | exact P15 | exact P16 | exact P17 | exact P18 | exact P19 | exact P20 | exact P21 | exact P22 | exact P23) (Src.of (by repeat (first | exact Cells.all _ | exact Cells.head rfl | apply Cells.tail)) (by rfl)) (W_one _) (by have := hpre.stl; first | omega | (show (List.length (List.dropLast _) + 1) * _ ≤ _; simp only [List.length_dropLast]; omega) | (simp only [VM.pop, VM.setSt, List.length_dropLast]; omega)) rfl ?_)
        intro a1 c1 s3 hAr
        refine SPL_y (y_nil rfl) rfl ?_
        refine SPL_y (y_fa fld_93_2 rfl) rfl ?_
        refine SPL_one rfl (SP1_store Tryz.sizeOf90 rfl rfl rfl (by first | exact U0 | exact U1 | exact U2 | exact U3 | exact U4 | exact U5 | exact U6 | exact U7 | exact U8 | exact U9 | exact U10 | exact U11 | exact U12 | exact U13 | exact U14 | exact U15 | exact U16 | exact U17 | exact U18 | exact U19 | exact U20 | exact U21 | exact U22 | exact U23) (by rfl) ?_)
        refine SPL_nil ?_
        refine inBlockP_n ?_
        refine thenP_n ?_
        have hx : m.step fuel = VM.next (m1.pop.pop.pop.push (lst m1.i.st.dropLast)) := by rw [hstep]; rw [exec_x12 h38_0]; unfold VM.x12; exact if_pos (by omega)
        exact Mid.intro (⟨m1.pop.pop.pop.push (lst m1.i.st.dropLast), List.flatten [blk x 93 [(.pointer (some ⟨pb, 0, none⟩)), (.pointer (some ⟨kb, 0, none⟩)), .slice a1 (m1.pop.pop.pop.i.st.length + 1) c1, .slice (some ⟨bf, 0, none⟩) m1.pop.pop.pop.i.fr.length fc5, I m1.pop.pop.pop.i.used, I m1.pop.pop.pop.i.high], s3, sf5], _, _, _⟩ : VM × Seg × Seg × Seg × Seg) ⟨hx, hN, ⟨hpre.pc0, hpre.pc1⟩, push_inst (i := m1.pop.pop.pop.i) hAr hfr5, hp1, hk1, hh1, hhv⟩ (by repeat (first | exact Sub.nil _ | refine Sub.cons rfl ?_)) (by repeat (first | exact Part.nil _ | (apply Part.cons; (first | exact P0 | exact P1 | exact P2 | exact P3 | exact P4 | exact P5 | exact P6 | exact P7 | exact P8 | exact P9 | exact P10 | exact P11 | exact P12 | exact P13 | exact P14 | exact P15 | exact P16 | exact P17 | exact P18 | exact P19 | exact P20 | exact P21 | exact P22 | exact P23)) | (apply Part.flat; simp only [List.cons_append, List.nil_append]) | (apply Part.nilc)))
      intro h43_1
      refine SPL_nil ?_
      refine thenP_n ?_
      refine SP_cond_t rfl ?_
      refine SP_region ?_
      refine SPL_y (y_move rfl) rfl ?_
      refine SPL_y (y_move rfl) rfl ?_
      refine SPL_one rfl (SP1_call (run_word (lst m1.i.st.dropLast).t (lst m1.i.st.dropLast.dropLast).n) Tryz.call87 rfl rfl (by repeat (first | exact Part.nil _ | (apply Part.cons; (first | exact P0 | exact P1 | exact P2 | exact P3 | exact P4 | exact P5 | exact P6 | exact P7 | exact P8 | exact P9 | exact P10 | exact P11 | exact P12 | exact P13 | exact P14 | exact P15 | exact P16 | exact P17 | exact P18 | exact P19 | exact P20 | exact P21 | exact P22 | exact P23)) | (apply Part.flat; simp only [List.cons_append, List.nil_append]) | (apply Part.nilc))) ?_)
      rintro v post H' ⟨rfl, rfl⟩ hH
      try simp only [List.cons_append, List.nil_append] at hH
      subst hH
      rw [show word (lst m1.i.st.dropLast).t (lst m1.i.st.dropLast.dropLast).n = lst m1.i.st.dropLast.dropLast by rw [← htt]; exact word_ok hok3]
      refine SPL_y (y_assign rfl) rfl ?_
      refine SPL_nil ?_
      refine thenP_n ?_
      have hm4' : isInst x (.pointer (some ⟨pb, 0, none⟩)) (.pointer (some ⟨kb, 0, none⟩)) (some ⟨bf, 0, none⟩) m1.pop.pop.pop.i s4 := hm4
      obtain ⟨sa5, sc5, fc5, ss5, sf5, rfl, hst5, hfr5⟩ := hm4'
      refine SP_open (by first | exact P0 | exact P1 | exact P2 | exact P3 | exact P4 | exact P5 | exact P6 | exact P7 | exact P8 | exact P9 | exact P10 | exact P11 | exact P12 | exact P13 | exact P14 | exact P15 | exact P16 | exact P17 | exact P18 | exact P19 | exact P20 | exact P21 | exact P22 | exact P23) ?_
      simp only [List.cons_append, List.nil_append]
      refine SP_region ?_
      refine SPL_y (y_move rfl) rfl ?_
      refine SPL_y (y_move rfl) rfl ?_
      refine SPL_y (y_nil rfl) rfl ?_
      refine SPL_y (y_fa fld_93_2 rfl) rfl ?_
      refine SPL_y (y_load Tryz.isAgg90 rfl (by repeat (first | exact Cell.head rfl | apply Cell.tail))) rfl ?_
      refine SPL_y (y_move rfl) rfl ?_
      refine SPL_one rfl (SP1_slice1 el_90 rfl (W_cells _) rfl rfl rfl ?_)
      intro b232
      refine SPL_one rfl (SP1_append el_90 (.inl Tryz.underlying90) rfl rfl hst5 (by first | exact P0 | exact P1 | exact P2 | exact P3 | exact P4 | exact P5 | exact P6 | exact P7 | exact P8 | exact P9 | exact P10 | exact P11 | exact P12 | exact P13 | exact P14 | exact P15 | exact P16 | exact P17 | exact P18 | exact P19 | exact P20 | exact P21 | exact P22 | exact P23) (Src.of (by repeat (first | exact Cells.all _ | exact Cells.head rfl | apply Cells.tail)) (by rfl)) (W_one _) (by have := hpre.stl; first | omega | (show (List.length (List.dropLast _) + 1) * _ ≤ _; simp only [List.length_dropLast]; omega) | (simp only [VM.pop, VM.setSt, List.length_dropLast]; omega)) rfl ?_)
      intro a1 c1 s3 hAr
      refine SPL_y (y_nil rfl) rfl ?_
      refine SPL_y (y_fa fld_93_2 rfl) rfl ?_
      refine SPL_one rfl (SP1_store Tryz.sizeOf90 rfl rfl rfl (by first | exact U0 | exact U1 | exact U2 | exact U3 | exact U4 | exact U5 | exact U6 | exact U7 | exact U8 | exact U9 | exact U10 | exact U11 | exact U12 | exact U13 | exact U14 | exact U15 | exact U16 | exact U17 | exact U18 | exact U19 | exact U20 | exact U21 | exact U22 | exact U23) (by rfl) ?_)
      refine SPL_nil ?_
      refine inBlockP_n ?_
      refine thenP_n ?_
      have hx : m.step fuel = VM.next (m1.pop.pop.pop.push (lst m1.i.st.dropLast.dropLast)) := by rw [hstep]; rw [exec_x12 h38_0]; unfold VM.x12; exact if_neg h43_1
      exact Mid.intro (⟨m1.pop.pop.pop.push (lst m1.i.st.dropLast.dropLast), List.flatten [blk x 93 [(.pointer (some ⟨pb, 0, none⟩)), (.pointer (some ⟨kb, 0, none⟩)), .slice a1 (m1.pop.pop.pop.i.st.length + 1) c1, .slice (some ⟨bf, 0, none⟩) m1.pop.pop.pop.i.fr.length fc5, I m1.pop.pop.pop.i.used, I m1.pop.pop.pop.i.high], s3, sf5], _, _, _⟩ : VM × Seg × Seg × Seg × Seg) ⟨hx, hN, ⟨hpre.pc0, hpre.pc1⟩, push_inst (i := m1.pop.pop.pop.i) hAr hfr5, hp1, hk1, hh1, hhv⟩ (by repeat (first | exact Sub.nil _ | refine Sub.cons rfl ?_)) (by repeat (first | exact Part.nil _ | (apply Part.cons; (first | exact P0 | exact P1 | exact P2 | exact P3 | exact P4 | exact P5 | exact P6 | exact P7 | exact P8 | exact P9 | exact P10 | exact P11 | exact P12 | exact P13 | exact P14 | exact P15 | exact P16 | exact P17 | exact P18 | exact P19 | exact P20 | exact P21 | exact P22 | exact P23)) | (apply Part.flat; simp only [List.cons_append, List.nil_append]) | (apply Part.nilc)))
    intro h38_0
    refine SPL_y (y_assign rfl) rfl ?_
    refine SPL_nil ?_
    refine thenP_n ?_
    refine SP_cond_f rfl ?_
    refine SP_seq ?_
    refine SP_seq ?_
    refine SP_region ?_
    refine SPL_if (y_eql rfl rfl) rfl ?_ ?_
    · intro h46_0
      refine SPL_y (y_assign rfl) rfl ?_
      refine SPL_nil ?_
      refine thenP_n ?_
      refine SP_cond_t rfl ?_
      refine SP_skip ?_
      refine thenP_n ?_
      refine SP_cond_t rfl ?_
      refine SP_seq ?_
      have hp13 := hpo.p13 (by omega)
      have hatl : (m1.i.top.base + c.imm).toNat < m1.i.st.length := by omega
      have hm1k := hm1
      obtain ⟨sa3, sc3, fc3, ss3, sf3, rfl, hst3, hfr3⟩ := hm1
      refine SP_open (by first | exact P0 | exact P1 | exact P2 | exact P3 | exact P4 | exact P5 | exact P6 | exact P7 | exact P8 | exact P9 | exact P10 | exact P11 | exact P12 | exact P13 | exact P14 | exact P15 | exact P16 | exact P17 | exact P18 | exact P19 | exact P20 | exact P21 | exact P22 | exact P23) ?_
      simp only [List.cons_append, List.nil_append]
      obtain ⟨bf', spf3, hbf3, hfc3, hspf3, rfl⟩ := hfr3.row (by exact hN)
      obtain rfl : bf = bf' := by simpa using hbf3
      clear hbf3
      have hl9 := hpre.stl
      refine SP_draw 999 [(0, 0), (1, 0), (2, 0), (4, 0), (3, 1), (5, 1), (6, 0), (7, 0)] mixed (by kernel_rfl) (fun _ _ _ _ _ h => h) (Part.refl _) ?_
      refine SPO_p rfl (y_move rfl) rfl ?_
      refine SPO_p rfl (y_nil rfl) rfl ?_
      refine SPO_p rfl (y_fa fld_257_2 rfl) rfl ?_
      refine SPO_p rfl (y_fa fld_181_1 rfl) rfl ?_
      refine SPO_h rfl (y_load Tryz.isAgg3 rfl (by repeat (first | exact Cell.elem (q := 2) frV_len (i := m1.i.fr.length - 1) (by omega) (by omega) (by rw [← itop_eq (by omega)]; rfl) | apply Cell.tail))) rfl ?_
      refine SPO_h rfl (y_load Tryz.isAgg3 rfl (by repeat (first | exact Cell.head rfl | apply Cell.tail))) rfl ?_
      refine SPO_p rfl (y_add rfl rfl (by omega)) rfl ?_
      refine SPO_p rfl (y_assign rfl) rfl ?_
      refine SPO_nil ?_
      refine thenP_n ?_
      refine SP_seq ?_
      refine SP_region ?_
      refine SPL_y (y_fa fld_181_1 rfl) rfl ?_
      refine SPL_y (y_load Tryz.isAgg3 rfl (by repeat (first | exact Cell.head rfl | apply Cell.tail))) rfl ?_
      refine SPL_y (y_geqT rfl rfl hp13.1) rfl ?_
      refine SPL_y (y_move rfl) rfl ?_
      refine SPL_gy rfl rfl ?_
      refine SPL_y (y_move rfl) rfl ?_
      refine SPL_gy rfl rfl ?_
      refine SPL_y (y_move rfl) rfl ?_
      refine SPL_gy rfl rfl ?_
      refine SPL_y (y_nil rfl) rfl ?_
      refine SPL_gy rfl rfl ?_
      refine SPL_y (y_fa fld_257_3 rfl) rfl ?_
      refine SPL_gy rfl rfl ?_
      refine SPL_y (y_load Tryz.isAgg3 rfl (by repeat (first | exact Cell.elem (q := 3) frV_len (i := m1.i.fr.length - 1) (by omega) (by omega) (by rw [← itop_eq (by omega)]; rfl) | apply Cell.tail))) rfl ?_
      refine SPL_gy rfl rfl ?_
      refine SPL_y (y_lssT rfl rfl hp13.2.1) rfl ?_
      refine SPL_y (y_pick_t rfl rfl) rfl ?_
      refine SPL_one rfl (SP1_call (run_needT 10) Tryz.call126 rfl rfl (by repeat (first | exact Part.nil _ | (apply Part.cons; (first | exact P0 | exact P1 | exact P2 | exact P3 | exact P4 | exact P5 | exact P6 | exact P7 | exact P8 | exact P9 | exact P10 | exact P11 | exact P12 | exact P13 | exact P14 | exact P15 | exact P16 | exact P17 | exact P18 | exact P19 | exact P20 | exact P21 | exact P22 | exact P23)) | (apply Part.flat; simp only [List.cons_append, List.nil_append]) | (apply Part.nilc))) ?_)
      rintro v post H' ⟨rfl, rfl⟩ hH
      try simp only [List.cons_append, List.nil_append] at hH
      subst hH
      refine SPL_nil ?_
      refine thenP_n ?_
      refine SP_seq ?_
      refine SP_region ?_
      refine SPL_y (y_fa fld_181_0 rfl) rfl ?_
      refine SPL_y (y_load Tryz.isAgg3 rfl (by repeat (first | exact Cell.head rfl | apply Cell.tail))) rfl ?_
      refine SPL_y (y_eqlT rfl rfl h46_0) rfl ?_
      refine SPL_nil ?_
      refine thenP_n ?_
      refine SP_cond_t rfl ?_
      obtain ⟨bs, sps, rfl, hsc, hsps, rfl⟩ := hst3.row (by omega)
      refine SP_draw 13 [(0, 0), (1, 0), (2, 0), (3, 0), (5, 0), (6, 0), (7, 0), (9, 0), (4, 1), (8, 1), (10, 0), (11, 1), (12, 2), (13, 3), (14, 0), (15, 0), (16, 3)] mixed (by kernel_rfl) (fun _ _ _ _ _ h => h) (Part.refl _) ?_
      refine SPO_p rfl (y_move rfl) rfl ?_
      refine SPO_p rfl (y_move rfl) rfl ?_
      refine SPO_p rfl (y_nil rfl) rfl ?_
      refine SPO_p rfl (y_fa fld_93_2 rfl) rfl ?_
      refine SPO_p rfl (y_move rfl) rfl ?_
      refine SPO_p rfl (y_nil rfl) rfl ?_
      refine SPO_p rfl (y_fa fld_93_2 rfl) rfl ?_
      refine SPO_p rfl (y_move rfl) rfl ?_
      refine SPO_h rfl (y_load Tryz.isAgg90 rfl (by repeat (first | exact Cell.head rfl | apply Cell.tail))) rfl ?_
      refine SPO_h rfl (y_load Tryz.isAgg90 rfl (by repeat (first | exact Cell.head rfl | apply Cell.tail))) rfl ?_
      refine SPO_p rfl (y_ia Tryz.underlying90 Tryz.sizeOf209 rfl rfl (by omega)) rfl ?_
      refine SPO_h rfl (y_load Tryz.isAgg209 rfl (by repeat (first | exact Cell.head (show (m1.i.st.map W.v ++ sps)[0 + ((m1.i.top.base : Int) + c.imm).toNat * 1]? = some (m1.i.st.getD (m1.i.top.base + c.imm).toNat ⟨false, 0⟩).v by rw [show 0 + ((m1.i.top.base : Int) + c.imm).toNat * 1 = (m1.i.top.base + c.imm).toNat by omega, List.getElem?_append_left (by simpa using hatl), List.getElem?_map, List.getD_eq_getElem?_getD, List.getElem?_eq_getElem hatl]; rfl) | apply Cell.tail))) rfl ?_
      refine SPO_a rfl rfl (SP1_slice1 el_90 rfl (W_cells _) rfl rfl rfl ?_)
      intro b273
      refine ⟨⟨_, (by repeat (first | exact Part.nil _ | (apply Part.cons; (first | exact P0 | exact P1 | exact P2 | exact P3 | exact P4 | exact P5 | exact P6 | exact P7 | exact P8 | exact P9 | exact P10 | exact P11 | exact P12 | exact P13 | exact P14 | exact P15 | exact P16 | exact P17 | exact P18 | exact P19 | exact P20 | exact P21 | exact P22 | exact P23)) | (apply Part.flat; simp only [List.cons_append, List.nil_append]) | (apply Part.nilc)))⟩, ?_⟩
      refine SPO_z (k := 0) rfl rfl (SP1_append el_90 (.inl Tryz.underlying90) rfl rfl hst3 (by first | exact P0 | exact P1 | exact P2 | exact P3 | exact P4 | exact P5 | exact P6 | exact P7 | exact P8 | exact P9 | exact P10 | exact P11 | exact P12 | exact P13 | exact P14 | exact P15 | exact P16 | exact P17 | exact P18 | exact P19 | exact P20 | exact P21 | exact P22 | exact P23) (Src.of (by repeat (first | exact Cells.all _ | exact Cells.head rfl | apply Cells.tail)) (by rfl)) (W_one _) (by have := hpre.stl; first | omega | (show (List.length (List.dropLast _) + 1) * _ ≤ _; simp only [List.length_dropLast]; omega) | (simp only [VM.pop, VM.setSt, List.length_dropLast]; omega)) rfl ?_)
      intro a1 c1 s3 hAr
      refine SPO_p rfl (y_nil rfl) rfl ?_
      refine SPO_p rfl (y_fa fld_93_2 rfl) rfl ?_
      refine SPO_z (k := 0) rfl rfl (SP1_store Tryz.sizeOf90 rfl rfl rfl (by first | exact U0 | exact U1 | exact U2 | exact U3 | exact U4 | exact U5 | exact U6 | exact U7 | exact U8 | exact U9 | exact U10 | exact U11 | exact U12 | exact U13 | exact U14 | exact U15 | exact U16 | exact U17 | exact U18 | exact U19 | exact U20 | exact U21 | exact U22 | exact U23) (by rfl) ?_)
      refine SPO_nil ?_
      refine inBlockP_n ?_
      refine thenP_n ?_
      have hx : m.step fuel = VM.next (m1.push (m1.i.st.getD (m1.i.top.base + c.imm).toNat ⟨false, 0⟩)) := by rw [hstep]; rw [exec_x13 h46_0]; rfl
      exact Mid.intro (⟨m1.push (m1.i.st.getD (m1.i.top.base + c.imm).toNat ⟨false, 0⟩), List.flatten [blk x 93 [(.pointer (some ⟨pb, 0, none⟩)), (.pointer (some ⟨kb, 0, none⟩)), .slice a1 (m1.i.st.length + 1) c1, .slice (some ⟨bf, 0, none⟩) m1.i.fr.length fc3, I m1.i.used, I m1.i.high], s3, blk bf 257 (m1.i.fr.flatMap frV ++ spf3)], _, _, _⟩ : VM × Seg × Seg × Seg × Seg) ⟨hx, hN, ⟨hpre.pc0, hpre.pc1⟩, push_inst (i := m1.i) hAr hfr3, hp1, hk1, hh1, hhv⟩ (by repeat (first | exact Sub.nil _ | refine Sub.cons rfl ?_)) (by repeat (first | exact Part.nil _ | (apply Part.cons; (first | exact P0 | exact P1 | exact P2 | exact P3 | exact P4 | exact P5 | exact P6 | exact P7 | exact P8 | exact P9 | exact P10 | exact P11 | exact P12 | exact P13 | exact P14 | exact P15 | exact P16 | exact P17 | exact P18 | exact P19 | exact P20 | exact P21 | exact P22 | exact P23)) | (apply Part.flat; simp only [List.cons_append, List.nil_append]) | (apply Part.nilc)))
    intro h46_0
    refine SPL_y (y_assign rfl) rfl ?_
    refine SPL_nil ?_
    refine thenP_n ?_
    refine SP_cond_f rfl ?_
    refine SP_region ?_
    refine SPL_if (y_eql rfl rfl) rfl ?_ ?_
    · intro h47_0
      refine SPL_y (y_assign rfl) rfl ?_
      refine SPL_nil ?_
      refine thenP_n ?_
      refine SP_cond_t rfl ?_
      refine SP_seq ?_
      have hp13 := hpo.p13 (by omega)
      have hatl : (m1.i.top.base + c.imm).toNat < m1.i.st.length := by omega
      have hm1k := hm1
      obtain ⟨sa3, sc3, fc3, ss3, sf3, rfl, hst3, hfr3⟩ := hm1
      refine SP_open (by first | exact P0 | exact P1 | exact P2 | exact P3 | exact P4 | exact P5 | exact P6 | exact P7 | exact P8 | exact P9 | exact P10 | exact P11 | exact P12 | exact P13 | exact P14 | exact P15 | exact P16 | exact P17 | exact P18 | exact P19 | exact P20 | exact P21 | exact P22 | exact P23) ?_
      simp only [List.cons_append, List.nil_append]
      obtain ⟨bf', spf3, hbf3, hfc3, hspf3, rfl⟩ := hfr3.row (by exact hN)
      obtain rfl : bf = bf' := by simpa using hbf3
      clear hbf3
      have hl9 := hpre.stl
      refine SP_draw 999 [(0, 0), (1, 0), (2, 0), (4, 0), (3, 1), (5, 1), (6, 0), (7, 0)] mixed (by kernel_rfl) (fun _ _ _ _ _ h => h) (Part.refl _) ?_
      refine SPO_p rfl (y_move rfl) rfl ?_
      refine SPO_p rfl (y_nil rfl) rfl ?_
      refine SPO_p rfl (y_fa fld_257_2 rfl) rfl ?_
      refine SPO_p rfl (y_fa fld_181_1 rfl) rfl ?_
      refine SPO_h rfl (y_load Tryz.isAgg3 rfl (by repeat (first | exact Cell.elem (q := 2) frV_len (i := m1.i.fr.length - 1) (by omega) (by omega) (by rw [← itop_eq (by omega)]; rfl) | apply Cell.tail))) rfl ?_
      refine SPO_h rfl (y_load Tryz.isAgg3 rfl (by repeat (first | exact Cell.head rfl | apply Cell.tail))) rfl ?_
      refine SPO_p rfl (y_add rfl rfl (by omega)) rfl ?_
      refine SPO_p rfl (y_assign rfl) rfl ?_
      refine SPO_nil ?_
      refine thenP_n ?_
      refine SP_seq ?_
      refine SP_region ?_
      refine SPL_y (y_fa fld_181_1 rfl) rfl ?_
      refine SPL_y (y_load Tryz.isAgg3 rfl (by repeat (first | exact Cell.head rfl | apply Cell.tail))) rfl ?_
      refine SPL_y (y_geqT rfl rfl hp13.1) rfl ?_
      refine SPL_y (y_move rfl) rfl ?_
      refine SPL_gy rfl rfl ?_
      refine SPL_y (y_move rfl) rfl ?_
      refine SPL_gy rfl rfl ?_
      refine SPL_y (y_move rfl) rfl ?_
      refine SPL_gy rfl rfl ?_
      refine SPL_y (y_nil rfl) rfl ?_
      refine SPL_gy rfl rfl ?_
      refine SPL_y (y_fa fld_257_3 rfl) rfl ?_
      refine SPL_gy rfl rfl ?_
      refine SPL_y (y_load Tryz.isAgg3 rfl (by repeat (first | exact Cell.elem (q := 3) frV_len (i := m1.i.fr.length - 1) (by omega) (by omega) (by rw [← itop_eq (by omega)]; rfl) | apply Cell.tail))) rfl ?_
      refine SPL_gy rfl rfl ?_
      refine SPL_y (y_lssT rfl rfl hp13.2.1) rfl ?_
      refine SPL_y (y_pick_t rfl rfl) rfl ?_
      refine SPL_one rfl (SP1_call (run_needT 10) Tryz.call126 rfl rfl (by repeat (first | exact Part.nil _ | (apply Part.cons; (first | exact P0 | exact P1 | exact P2 | exact P3 | exact P4 | exact P5 | exact P6 | exact P7 | exact P8 | exact P9 | exact P10 | exact P11 | exact P12 | exact P13 | exact P14 | exact P15 | exact P16 | exact P17 | exact P18 | exact P19 | exact P20 | exact P21 | exact P22 | exact P23)) | (apply Part.flat; simp only [List.cons_append, List.nil_append]) | (apply Part.nilc))) ?_)
      rintro v post H' ⟨rfl, rfl⟩ hH
      try simp only [List.cons_append, List.nil_append] at hH
      subst hH
      refine SPL_nil ?_
      refine thenP_n ?_
      refine SP_seq ?_
      refine SP_region ?_
      refine SPL_y (y_fa fld_181_0 rfl) rfl ?_
      refine SPL_y (y_load Tryz.isAgg3 rfl (by repeat (first | exact Cell.head rfl | apply Cell.tail))) rfl ?_
      refine SPL_y (y_eqlF rfl rfl (by omega)) rfl ?_
      refine SPL_nil ?_
      refine thenP_n ?_
      refine SP_cond_f rfl ?_
      refine SP_seq ?_
      obtain ⟨ht1, hww⟩ := hpo.p14 h47_0
      have htl := ht1.len
      have hokl := hpre.ok _ (lst_mem (show 0 < m1.i.st.length by omega))
      have htt : (lst m1.i.st).t = (m1.i.st.getD (m1.i.top.base + c.imm).toNat ⟨false, 0⟩).t := by unfold W.t; rw [hww]
      obtain ⟨bs0, sps0, rfl, hsc0, hsps0, rfl⟩ := hst3.row (by omega)
      refine SP_region ?_
      refine SPL_y (y_move rfl) rfl ?_
      refine SPL_y (y_nil rfl) rfl ?_
      refine SPL_y (y_fa fld_93_2 rfl) rfl ?_
      refine SPL_y (y_load Tryz.isAgg90 rfl (by repeat (first | exact Cell.head rfl | apply Cell.tail))) rfl ?_
      refine SPL_y (y_move rfl) rfl ?_
      refine SPL_y (y_ia Tryz.underlying90 Tryz.sizeOf209 rfl rfl (by omega)) rfl ?_
      refine SPL_y (y_load Tryz.isAgg209 rfl (by repeat (first | exact Cell.head (show (m1.i.st.map W.v ++ sps0)[0 + ((m1.i.top.base : Int) + c.imm).toNat * 1]? = some (m1.i.st.getD (m1.i.top.base + c.imm).toNat ⟨false, 0⟩).v by rw [show 0 + ((m1.i.top.base : Int) + c.imm).toNat * 1 = (m1.i.top.base + c.imm).toNat by omega, List.getElem?_append_left (by simpa using hatl), List.getElem?_map, List.getD_eq_getElem?_getD, List.getElem?_eq_getElem hatl]; rfl) | apply Cell.tail))) rfl ?_
      refine SPL_one rfl (SP1_kind (y := m1.i.st.getD (m1.i.top.base + c.imm).toNat ⟨false, 0⟩) rfl rfl ?_)
      refine SPL_y (y_assign rfl) rfl ?_
      refine SPL_nil ?_
      refine thenP_n ?_
      refine SP_seq ?_
      refine SP_region ?_
      refine SPL_y (y_move rfl) rfl ?_
      refine SPL_y (y_move rfl) rfl ?_
      refine SPL_one rfl (SP1_call ((by have := run_num x (.pointer (some ⟨pb, 0, none⟩)) (.pointer (some ⟨kb, 0, none⟩)) (some ⟨bf, 0, none⟩) m1.i _ hm1k hN (by have := hpre.stl; have := hpre.fr4; exact ⟨by omega, by omega⟩) (lst m1.i.st) hokl m1.i.st.dropLast (ht1.floor _ ht1.len) ht1.one; rw [htt] at this; exact this)) Tryz.call134 rfl rfl (by repeat (first | exact Part.nil _ | (apply Part.cons; (first | exact P0 | exact P1 | exact P2 | exact P3 | exact P4 | exact P5 | exact P6 | exact P7 | exact P8 | exact P9 | exact P10 | exact P11 | exact P12 | exact P13 | exact P14 | exact P15 | exact P16 | exact P17 | exact P18 | exact P19 | exact P20 | exact P21 | exact P22 | exact P23)) | (apply Part.flat; simp only [List.cons_append, List.nil_append]) | (apply Part.nilc))) ?_)
      rintro v post H' ⟨s4, rfl, rfl, hm4⟩ hH
      try simp only [List.cons_append, List.nil_append] at hH
      subst hH
      refine SPL_y (y_assign rfl) rfl ?_
      refine SPL_nil ?_
      refine thenP_n ?_
      have hm4' : isInst x (.pointer (some ⟨pb, 0, none⟩)) (.pointer (some ⟨kb, 0, none⟩)) (some ⟨bf, 0, none⟩) m1.pop.i s4 := hm4
      have hm4k := hm4'
      obtain ⟨sa5, sc5, fc5, ss5, sf5, rfl, hst5, hfr5⟩ := hm4'
      refine SP_open (by first | exact P0 | exact P1 | exact P2 | exact P3 | exact P4 | exact P5 | exact P6 | exact P7 | exact P8 | exact P9 | exact P10 | exact P11 | exact P12 | exact P13 | exact P14 | exact P15 | exact P16 | exact P17 | exact P18 | exact P19 | exact P20 | exact P21 | exact P22 | exact P23) ?_
      simp only [List.cons_append, List.nil_append]
      obtain ⟨bf', spf5, hbf5, hfc5, hspf5, rfl⟩ := hfr5.row (by exact hN)
      obtain rfl : bf = bf' := by simpa using hbf5
      clear hbf5
      have hatd : (m1.i.top.base + c.imm).toNat < m1.i.st.dropLast.length := by unfold Top at ht1; omega
      have hpl : m1.pop.i.st.length = m1.i.st.dropLast.length := rfl
      obtain ⟨bs, sps, rfl, hsc, hsps, rfl⟩ := hst5.row (by omega)
      have hwv : (word (m1.i.st.getD (m1.i.top.base + c.imm).toNat ⟨false, 0⟩).t (lst m1.i.st).n).v = (lst m1.i.st).v := by rw [← htt, word_ok hokl]
      refine SP_draw 9 [(0, 0), (1, 0), (2, 0), (4, 0), (5, 0), (6, 0), (3, 1), (7, 2), (8, 0), (9, 3)] mixed (by kernel_rfl) (fun _ _ _ _ _ h => h) (Part.refl _) ?_
      refine SPO_p rfl (y_move rfl) rfl ?_
      refine SPO_p rfl (y_nil rfl) rfl ?_
      refine SPO_p rfl (y_fa fld_93_2 rfl) rfl ?_
      refine SPO_p rfl (y_move rfl) rfl ?_
      refine SPO_p rfl (y_move rfl) rfl ?_
      refine SPO_p rfl (y_move rfl) rfl ?_
      refine SPO_h rfl (y_load Tryz.isAgg90 rfl (by repeat (first | exact Cell.head rfl | apply Cell.tail))) rfl ?_
      refine SPO_a rfl rfl (SP1_call (run_word (m1.i.st.getD (m1.i.top.base + c.imm).toNat ⟨false, 0⟩).t (lst m1.i.st).n) Tryz.call87 rfl rfl (by repeat (first | exact Part.nil _ | (apply Part.cons; (first | exact P0 | exact P1 | exact P2 | exact P3 | exact P4 | exact P5 | exact P6 | exact P7 | exact P8 | exact P9 | exact P10 | exact P11 | exact P12 | exact P13 | exact P14 | exact P15 | exact P16 | exact P17 | exact P18 | exact P19 | exact P20 | exact P21 | exact P22 | exact P23)) | (apply Part.flat; simp only [List.cons_append, List.nil_append]) | (apply Part.nilc))) ?_)
      rintro v post H' ⟨rfl, rfl⟩ hH
      try simp only [List.cons_append, List.nil_append] at hH
      subst hH
      refine ⟨⟨_, (by repeat (first | exact Part.nil _ | (apply Part.cons; (first | exact P0 | exact P1 | exact P2 | exact P3 | exact P4 | exact P5 | exact P6 | exact P7 | exact P8 | exact P9 | exact P10 | exact P11 | exact P12 | exact P13 | exact P14 | exact P15 | exact P16 | exact P17 | exact P18 | exact P19 | exact P20 | exact P21 | exact P22 | exact P23)) | (apply Part.flat; simp only [List.cons_append, List.nil_append]) | (apply Part.nilc)))⟩, ?_⟩
      refine SPO_p rfl (y_ia Tryz.underlying90 Tryz.sizeOf209 rfl rfl (by omega)) rfl ?_
      refine SPO_z (k := 0) rfl rfl (SP1_store Tryz.sizeOf209 rfl rfl (W_one1 _) (by first | exact U0 | exact U1 | exact U2 | exact U3 | exact U4 | exact U5 | exact U6 | exact U7 | exact U8 | exact U9 | exact U10 | exact U11 | exact U12 | exact U13 | exact U14 | exact U15 | exact U16 | exact U17 | exact U18 | exact U19 | exact U20 | exact U21 | exact U22 | exact U23) (Nat.ble_eq_true_of_le (by rw [List.length_append, List.length_map]; omega)) ?_)
      refine SPO_nil ?_
      refine inBlockP_n ?_
      refine thenP_n ?_
      have hx : m.step fuel = VM.next (m1.setSt (m1.i.st.dropLast.set (m1.i.top.base + c.imm).toNat (lst m1.i.st))) := by rw [hstep]; rw [exec_x14 h47_0]; rfl
      exact Mid.intro (⟨m1.setSt (m1.i.st.dropLast.set (m1.i.top.base + c.imm).toNat (lst m1.i.st)), List.flatten [blk x 93 [(.pointer (some ⟨pb, 0, none⟩)), (.pointer (some ⟨kb, 0, none⟩)), .slice (some ⟨bs, 0, none⟩) m1.pop.i.st.length sc5, .slice (some ⟨bf, 0, none⟩) m1.pop.i.fr.length fc5, I m1.pop.i.used, I m1.pop.i.high], blk bs 209 ((m1.pop.i.st.map W.v ++ sps).set (0 + ((m1.i.top.base : Int) + c.imm).toNat * 1) (word (m1.i.st.getD (m1.i.top.base + c.imm).toNat ⟨false, 0⟩).t (lst m1.i.st).n).v), blk bf 257 (m1.pop.i.fr.flatMap frV ++ spf5)], _, _, _⟩ : VM × Seg × Seg × Seg × Seg) ⟨hx, hN, ⟨hpre.pc0, hpre.pc1⟩, ⟨some ⟨bs, 0, none⟩, sc5, fc5, _, _, by rw [show (m1.setSt (m1.i.st.dropLast.set (m1.i.top.base + c.imm).toNat (lst m1.i.st))).i.st.length = m1.pop.i.st.length from List.length_set ..]; rfl, set_row hatd rfl hwv hsc hsps, hfr5⟩, hp1, hk1, hh1, hhv⟩ (by repeat (first | exact Sub.nil _ | refine Sub.cons rfl ?_)) (by repeat (first | exact Part.nil _ | (apply Part.cons; (first | exact P0 | exact P1 | exact P2 | exact P3 | exact P4 | exact P5 | exact P6 | exact P7 | exact P8 | exact P9 | exact P10 | exact P11 | exact P12 | exact P13 | exact P14 | exact P15 | exact P16 | exact P17 | exact P18 | exact P19 | exact P20 | exact P21 | exact P22 | exact P23)) | (apply Part.flat; simp only [List.cons_append, List.nil_append]) | (apply Part.nilc)))
    intro h47_0
    refine SPL_y (y_assign rfl) rfl ?_
    refine SPL_nil ?_
    refine thenP_n ?_
    refine SP_cond_f rfl ?_
    refine SP_seq ?_
    refine SP_region ?_
    refine SPL_if (y_eql rfl rfl) rfl ?_ ?_
    · intro h55_0
      refine SPL_y (y_assign rfl) rfl ?_
      refine SPL_nil ?_
      refine thenP_n ?_
      refine SP_cond_t rfl ?_
      obtain ⟨sa3, sc3, fc3, ss3, sf3, rfl, hst3, hfr3⟩ := hm1
      refine SP_open (by first | exact P0 | exact P1 | exact P2 | exact P3 | exact P4 | exact P5 | exact P6 | exact P7 | exact P8 | exact P9 | exact P10 | exact P11 | exact P12 | exact P13 | exact P14 | exact P15 | exact P16 | exact P17 | exact P18 | exact P19 | exact P20 | exact P21 | exact P22 | exact P23) ?_
      simp only [List.cons_append, List.nil_append]
      refine SP_draw 13 [(0, 0), (1, 0), (2, 0), (3, 0), (5, 0), (6, 0), (7, 0), (4, 1), (8, 1), (9, 2), (10, 0), (11, 0), (12, 2), (13, 3), (14, 0), (15, 0), (16, 3)] mixed (by kernel_rfl) (fun _ _ _ _ _ h => h) (Part.refl _) ?_
      refine SPO_p rfl (y_move rfl) rfl ?_
      refine SPO_p rfl (y_move rfl) rfl ?_
      refine SPO_p rfl (y_nil rfl) rfl ?_
      refine SPO_p rfl (y_fa fld_93_2 rfl) rfl ?_
      refine SPO_p rfl (y_move rfl) rfl ?_
      refine SPO_p rfl (y_nil rfl) rfl ?_
      refine SPO_p rfl (y_fa fld_93_1 rfl) rfl ?_
      refine SPO_h rfl (y_load Tryz.isAgg90 rfl (by repeat (first | exact Cell.head rfl | apply Cell.tail))) rfl ?_
      refine SPO_h rfl (y_load Tryz.isAgg46 rfl (by repeat (first | exact Cell.head rfl | apply Cell.tail))) rfl ?_
      refine SPO_a rfl rfl (SP1_call (mach_Size kb m1.mem sk hk1) Tryz.call135 rfl rfl (by repeat (first | exact Part.nil _ | (apply Part.cons; (first | exact P0 | exact P1 | exact P2 | exact P3 | exact P4 | exact P5 | exact P6 | exact P7 | exact P8 | exact P9 | exact P10 | exact P11 | exact P12 | exact P13 | exact P14 | exact P15 | exact P16 | exact P17 | exact P18 | exact P19 | exact P20 | exact P21 | exact P22 | exact P23)) | (apply Part.flat; simp only [List.cons_append, List.nil_append]) | (apply Part.nilc))) ?_)
      rintro v post H' ⟨rfl, rfl⟩ hH
      try simp only [List.cons_append, List.nil_append] at hH
      subst hH
      refine ⟨⟨_, (by repeat (first | exact Part.nil _ | (apply Part.cons; (first | exact P0 | exact P1 | exact P2 | exact P3 | exact P4 | exact P5 | exact P6 | exact P7 | exact P8 | exact P9 | exact P10 | exact P11 | exact P12 | exact P13 | exact P14 | exact P15 | exact P16 | exact P17 | exact P18 | exact P19 | exact P20 | exact P21 | exact P22 | exact P23)) | (apply Part.flat; simp only [List.cons_append, List.nil_append]) | (apply Part.nilc)))⟩, ?_⟩
      refine SPO_p rfl (y_conv Tryz.underlying3 Tryz.underlying252 rfl rfl) rfl ?_
      refine SPO_p rfl (y_mki Tryz.underlying252 rfl rfl) rfl ?_
      refine SPO_a rfl rfl (SP1_slice1 el_90 rfl rfl rfl rfl rfl ?_)
      intro b311
      refine ⟨⟨_, (by repeat (first | exact Part.nil _ | (apply Part.cons; (first | exact P0 | exact P1 | exact P2 | exact P3 | exact P4 | exact P5 | exact P6 | exact P7 | exact P8 | exact P9 | exact P10 | exact P11 | exact P12 | exact P13 | exact P14 | exact P15 | exact P16 | exact P17 | exact P18 | exact P19 | exact P20 | exact P21 | exact P22 | exact P23)) | (apply Part.flat; simp only [List.cons_append, List.nil_append]) | (apply Part.nilc)))⟩, ?_⟩
      refine SPO_z (k := 0) rfl rfl (SP1_append el_90 (.inl Tryz.underlying90) rfl rfl hst3 (by first | exact P0 | exact P1 | exact P2 | exact P3 | exact P4 | exact P5 | exact P6 | exact P7 | exact P8 | exact P9 | exact P10 | exact P11 | exact P12 | exact P13 | exact P14 | exact P15 | exact P16 | exact P17 | exact P18 | exact P19 | exact P20 | exact P21 | exact P22 | exact P23) (Src.of (by repeat (first | exact Cells.all _ | exact Cells.head rfl | apply Cells.tail)) (by rfl)) (by rfl) (by have := hpre.stl; first | omega | (show (List.length (List.dropLast _) + 1) * _ ≤ _; simp only [List.length_dropLast]; omega) | (simp only [VM.pop, VM.setSt, List.length_dropLast]; omega)) rfl ?_)
      intro a1 c1 s3 hAr
      refine SPO_p rfl (y_nil rfl) rfl ?_
      refine SPO_p rfl (y_fa fld_93_2 rfl) rfl ?_
      refine SPO_z (k := 0) rfl rfl (SP1_store Tryz.sizeOf90 rfl rfl rfl (by first | exact U0 | exact U1 | exact U2 | exact U3 | exact U4 | exact U5 | exact U6 | exact U7 | exact U8 | exact U9 | exact U10 | exact U11 | exact U12 | exact U13 | exact U14 | exact U15 | exact U16 | exact U17 | exact U18 | exact U19 | exact U20 | exact U21 | exact U22 | exact U23) (by rfl) ?_)
      refine SPO_nil ?_
      refine inBlockP_n ?_
      refine thenP_n ?_
      have hx : m.step fuel = VM.next (m1.push ⟨false, IntKind.i32.wrap (m1.mem.bytes.length / 8 : Nat)⟩) := by rw [hstep]; rw [exec_x15 h55_0]; rfl
      exact Mid.intro (⟨m1.push ⟨false, IntKind.i32.wrap (m1.mem.bytes.length / 8 : Nat)⟩, List.flatten [blk x 93 [(.pointer (some ⟨pb, 0, none⟩)), (.pointer (some ⟨kb, 0, none⟩)), .slice a1 (m1.i.st.length + 1) c1, .slice (some ⟨bf, 0, none⟩) m1.i.fr.length fc3, I m1.i.used, I m1.i.high], s3, sf3], _, _, _⟩ : VM × Seg × Seg × Seg × Seg) ⟨hx, hN, ⟨hpre.pc0, hpre.pc1⟩, push_inst (i := m1.i) (y := ⟨false, _⟩) hAr hfr3, hp1, hk1, hh1, hhv⟩ (by repeat (first | exact Sub.nil _ | refine Sub.cons rfl ?_)) (by repeat (first | exact Part.nil _ | (apply Part.cons; (first | exact P0 | exact P1 | exact P2 | exact P3 | exact P4 | exact P5 | exact P6 | exact P7 | exact P8 | exact P9 | exact P10 | exact P11 | exact P12 | exact P13 | exact P14 | exact P15 | exact P16 | exact P17 | exact P18 | exact P19 | exact P20 | exact P21 | exact P22 | exact P23)) | (apply Part.flat; simp only [List.cons_append, List.nil_append]) | (apply Part.nilc)))
    intro h55_0
    refine SPL_y (y_assign rfl) rfl ?_
    refine SPL_nil ?_
    refine thenP_n ?_
    refine SP_cond_f rfl ?_
    refine SP_seq ?_
    refine SP_region ?_
    refine SPL_if (y_eql rfl rfl) rfl ?_ ?_
    · intro h57_0
      refine SPL_y (y_assign rfl) rfl ?_
      refine SPL_nil ?_
      refine thenP_n ?_
      refine SP_cond_t rfl ?_
      refine SP_seq ?_
      have h32 := hpo.p3 (by omega)
      refine SP_region ?_
      refine SPL_y (y_move rfl) rfl ?_
      refine SPL_one rfl (SP1_call (run_pop32 x (.pointer (some ⟨pb, 0, none⟩)) (.pointer (some ⟨kb, 0, none⟩)) (some ⟨bf, 0, none⟩) m1.i s1 hm1 hpre.fr0 (by have := hpre.stl; have := hpre.fr4; exact ⟨by omega, by omega⟩) (lst m1.i.st).n m1.i.st.dropLast (h32.1.floor _ h32.1.len) (by conv => lhs; rw [h32.1.one, w_false h32.2]) (ok32 h32.2 (hpre.ok _ (lst_mem (by have := h32.1.len; omega))))) Tryz.call129 rfl rfl (by repeat (first | exact Part.nil _ | (apply Part.cons; (first | exact P0 | exact P1 | exact P2 | exact P3 | exact P4 | exact P5 | exact P6 | exact P7 | exact P8 | exact P9 | exact P10 | exact P11 | exact P12 | exact P13 | exact P14 | exact P15 | exact P16 | exact P17 | exact P18 | exact P19 | exact P20 | exact P21 | exact P22 | exact P23)) | (apply Part.flat; simp only [List.cons_append, List.nil_append]) | (apply Part.nilc))) ?_)
      rintro v post H' ⟨s2, rfl, rfl, hm2⟩ hH
      try simp only [List.cons_append, List.nil_append] at hH
      subst hH
      refine SPL_y (y_assign rfl) rfl ?_
      refine SPL_nil ?_
      refine thenP_n ?_
      have hm2' : isInst x (.pointer (some ⟨pb, 0, none⟩)) (.pointer (some ⟨kb, 0, none⟩)) (some ⟨bf, 0, none⟩) m1.pop.i s2 := hm2
      obtain ⟨sa3, sc3, fc3, ss3, sf3, rfl, hst3, hfr3⟩ := hm2'
      refine SP_open (by first | exact P0 | exact P1 | exact P2 | exact P3 | exact P4 | exact P5 | exact P6 | exact P7 | exact P8 | exact P9 | exact P10 | exact P11 | exact P12 | exact P13 | exact P14 | exact P15 | exact P16 | exact P17 | exact P18 | exact P19 | exact P20 | exact P21 | exact P22 | exact P23) ?_
      simp only [List.cons_append, List.nil_append]
      refine SP_draw (Hs := [blk x 93 [(.pointer (some ⟨pb, 0, none⟩)), (.pointer (some ⟨kb, 0, none⟩)), .slice sa3 m1.pop.i.st.length sc3, .slice (some ⟨bf, 0, none⟩) m1.pop.i.fr.length fc3, I m1.pop.i.used, I m1.pop.i.high]]) 14 [(0, 0), (1, 0), (2, 0), (3, 0), (5, 0), (6, 0), (7, 0), (9, 0), (4, 1), (8, 1), (10, 2), (11, 0), (12, 0), (13, 2), (14, 3), (15, 0), (16, 0), (17, 3)] mixed (by kernel_rfl) (fun _ _ _ _ _ h => h) (by repeat (first | exact Part.nil _ | (apply Part.cons; (first | exact P0 | exact P1 | exact P2 | exact P3 | exact P4 | exact P5 | exact P6 | exact P7 | exact P8 | exact P9 | exact P10 | exact P11 | exact P12 | exact P13 | exact P14 | exact P15 | exact P16 | exact P17 | exact P18 | exact P19 | exact P20 | exact P21 | exact P22 | exact P23)) | (apply Part.flat; simp only [List.cons_append, List.nil_append]) | (apply Part.nilc))) ?_
      refine SPO_p rfl (y_move rfl) rfl ?_
      refine SPO_p rfl (y_move rfl) rfl ?_
      refine SPO_p rfl (y_nil rfl) rfl ?_
      refine SPO_p rfl (y_fa fld_93_2 rfl) rfl ?_
      refine SPO_p rfl (y_move rfl) rfl ?_
      refine SPO_p rfl (y_nil rfl) rfl ?_
      refine SPO_p rfl (y_fa fld_93_1 rfl) rfl ?_
      refine SPO_p rfl (y_move rfl) rfl ?_
      refine SPO_h rfl (y_load Tryz.isAgg90 rfl (by repeat (first | exact Cell.head rfl | apply Cell.tail))) rfl ?_
      refine SPO_h rfl (y_load Tryz.isAgg46 rfl (by repeat (first | exact Cell.head rfl | apply Cell.tail))) rfl ?_
      refine SPO_a rfl rfl (SP1_call (mach_Grow kb m1.mem sk (lst m1.i.st).n hk1) Tryz.call136 rfl rfl (by repeat (first | exact Part.nil _ | (apply Part.cons; (first | exact P0 | exact P1 | exact P2 | exact P3 | exact P4 | exact P5 | exact P6 | exact P7 | exact P8 | exact P9 | exact P10 | exact P11 | exact P12 | exact P13 | exact P14 | exact P15 | exact P16 | exact P17 | exact P18 | exact P19 | exact P20 | exact P21 | exact P22 | exact P23)) | (apply Part.flat; simp only [List.cons_append, List.nil_append]) | (apply Part.nilc))) ?_)
      rintro v post H' ⟨sk2, rfl, rfl, hk2⟩ hH
      try simp only [List.cons_append, List.nil_append] at hH
      subst hH
      refine ⟨⟨_, (by repeat (first | exact Part.nil _ | (apply Part.cons; (first | exact P0 | exact P1 | exact P2 | exact P3 | exact P4 | exact P5 | exact P6 | exact P7 | exact P8 | exact P9 | exact P10 | exact P11 | exact P12 | exact P13 | exact P14 | exact P15 | exact P16 | exact P17 | exact P18 | exact P19 | exact P20 | exact P21 | exact P22 | exact P23)) | (apply Part.flat; simp only [List.cons_append, List.nil_append]) | (apply Part.nilc)))⟩, ?_⟩
      refine SPO_p rfl (y_conv Tryz.underlying3 Tryz.underlying252 rfl rfl) rfl ?_
      refine SPO_p rfl (y_mki Tryz.underlying252 rfl rfl) rfl ?_
      refine SPO_a rfl rfl (SP1_slice1 el_90 rfl rfl rfl rfl rfl ?_)
      intro b332
      refine ⟨⟨_, (by repeat (first | exact Part.nil _ | (apply Part.cons; (first | exact P0 | exact P1 | exact P2 | exact P3 | exact P4 | exact P5 | exact P6 | exact P7 | exact P8 | exact P9 | exact P10 | exact P11 | exact P12 | exact P13 | exact P14 | exact P15 | exact P16 | exact P17 | exact P18 | exact P19 | exact P20 | exact P21 | exact P22 | exact P23)) | (apply Part.flat; simp only [List.cons_append, List.nil_append]) | (apply Part.nilc)))⟩, ?_⟩
      refine SPO_z (k := 0) rfl rfl (SP1_append el_90 (.inl Tryz.underlying90) rfl rfl hst3 (by first | exact P0 | exact P1 | exact P2 | exact P3 | exact P4 | exact P5 | exact P6 | exact P7 | exact P8 | exact P9 | exact P10 | exact P11 | exact P12 | exact P13 | exact P14 | exact P15 | exact P16 | exact P17 | exact P18 | exact P19 | exact P20 | exact P21 | exact P22 | exact P23) (Src.of (by repeat (first | exact Cells.all _ | exact Cells.head rfl | apply Cells.tail)) (by rfl)) (by rfl) (by have := hpre.stl; first | omega | (show (List.length (List.dropLast _) + 1) * _ ≤ _; simp only [List.length_dropLast]; omega) | (simp only [VM.pop, VM.setSt, List.length_dropLast]; omega)) rfl ?_)
      intro a1 c1 s3 hAr
      refine SPO_p rfl (y_nil rfl) rfl ?_
      refine SPO_p rfl (y_fa fld_93_2 rfl) rfl ?_
      refine SPO_z (k := 0) rfl rfl (SP1_store Tryz.sizeOf90 rfl rfl rfl (by first | exact U0 | exact U1 | exact U2 | exact U3 | exact U4 | exact U5 | exact U6 | exact U7 | exact U8 | exact U9 | exact U10 | exact U11 | exact U12 | exact U13 | exact U14 | exact U15 | exact U16 | exact U17 | exact U18 | exact U19 | exact U20 | exact U21 | exact U22 | exact U23) (by rfl) ?_)
      refine SPO_nil ?_
      refine inBlockP_n ?_
      refine thenP_n ?_
      have hx : m.step fuel = VM.next (({ m1 with mem := (grow m1.mem (lst m1.i.st).n).1 } : VM).pop.push ⟨false, IntKind.i32.wrap (grow m1.mem (lst m1.i.st).n).2⟩) := by rw [hstep]; rw [exec_x16 h57_0]; rfl
      exact Mid.intro (⟨({ m1 with mem := (grow m1.mem (lst m1.i.st).n).1 } : VM).pop.push ⟨false, IntKind.i32.wrap (grow m1.mem (lst m1.i.st).n).2⟩, List.flatten [blk x 93 [(.pointer (some ⟨pb, 0, none⟩)), (.pointer (some ⟨kb, 0, none⟩)), .slice a1 (m1.pop.i.st.length + 1) c1, .slice (some ⟨bf, 0, none⟩) m1.pop.i.fr.length fc3, I m1.pop.i.used, I m1.pop.i.high], s3, sf3], _, _, _⟩ : VM × Seg × Seg × Seg × Seg) ⟨hx, hN, ⟨hpre.pc0, hpre.pc1⟩, push_inst (i := m1.pop.i) (y := ⟨false, _⟩) hAr hfr3, hp1, hk2, hh1, hhv⟩ (by repeat (first | exact Sub.nil _ | refine Sub.cons rfl ?_)) (by repeat (first | exact Part.nil _ | (apply Part.cons; (first | exact P0 | exact P1 | exact P2 | exact P3 | exact P4 | exact P5 | exact P6 | exact P7 | exact P8 | exact P9 | exact P10 | exact P11 | exact P12 | exact P13 | exact P14 | exact P15 | exact P16 | exact P17 | exact P18 | exact P19 | exact P20 | exact P21 | exact P22 | exact P23)) | (apply Part.flat; simp only [List.cons_append, List.nil_append]) | (apply Part.nilc)))
    intro h57_0
    refine SPL_y (y_assign rfl) rfl ?_
    refine SPL_nil ?_
    refine thenP_n ?_
    refine SP_cond_f rfl ?_
    refine SP_seq ?_
    refine SP_region ?_
    refine SPL_if (y_eql rfl rfl) rfl ?_ ?_
    · intro h60_0
      refine SPL_y (y_assign rfl) rfl ?_
      refine SPL_nil ?_
      refine thenP_n ?_
      refine SP_cond_t rfl ?_
      obtain ⟨sa3, sc3, fc3, ss3, sf3, rfl, hst3, hfr3⟩ := hm1
      refine SP_open (by first | exact P0 | exact P1 | exact P2 | exact P3 | exact P4 | exact P5 | exact P6 | exact P7 | exact P8 | exact P9 | exact P10 | exact P11 | exact P12 | exact P13 | exact P14 | exact P15 | exact P16 | exact P17 | exact P18 | exact P19 | exact P20 | exact P21 | exact P22 | exact P23) ?_
      simp only [List.cons_append, List.nil_append]
      refine SP_draw 10 [(0, 0), (1, 0), (2, 0), (3, 0), (5, 0), (4, 1), (6, 1), (7, 0), (8, 0), (9, 2), (10, 3), (11, 0), (12, 0), (13, 3)] mixed (by kernel_rfl) (fun _ _ _ _ _ h => h) (Part.refl _) ?_
      refine SPO_p rfl (y_move rfl) rfl ?_
      refine SPO_p rfl (y_move rfl) rfl ?_
      refine SPO_p rfl (y_nil rfl) rfl ?_
      refine SPO_p rfl (y_fa fld_93_2 rfl) rfl ?_
      refine SPO_p rfl (y_fa fld_181_1 rfl) rfl ?_
      refine SPO_h rfl (y_load Tryz.isAgg90 rfl (by repeat (first | exact Cell.head rfl | apply Cell.tail))) rfl ?_
      refine SPO_h rfl (y_load Tryz.isAgg3 rfl (by repeat (first | exact Cell.head rfl | apply Cell.tail))) rfl ?_
      refine SPO_p rfl (y_conv Tryz.underlying3 Tryz.underlying252 rfl rfl) rfl ?_
      refine SPO_p rfl (y_mki Tryz.underlying252 rfl rfl) rfl ?_
      refine SPO_a rfl rfl (SP1_slice1 el_90 rfl rfl rfl rfl rfl ?_)
      intro b347
      refine ⟨⟨_, (by repeat (first | exact Part.nil _ | (apply Part.cons; (first | exact P0 | exact P1 | exact P2 | exact P3 | exact P4 | exact P5 | exact P6 | exact P7 | exact P8 | exact P9 | exact P10 | exact P11 | exact P12 | exact P13 | exact P14 | exact P15 | exact P16 | exact P17 | exact P18 | exact P19 | exact P20 | exact P21 | exact P22 | exact P23)) | (apply Part.flat; simp only [List.cons_append, List.nil_append]) | (apply Part.nilc)))⟩, ?_⟩
      refine SPO_z (k := 0) rfl rfl (SP1_append el_90 (.inl Tryz.underlying90) rfl rfl hst3 (by first | exact P0 | exact P1 | exact P2 | exact P3 | exact P4 | exact P5 | exact P6 | exact P7 | exact P8 | exact P9 | exact P10 | exact P11 | exact P12 | exact P13 | exact P14 | exact P15 | exact P16 | exact P17 | exact P18 | exact P19 | exact P20 | exact P21 | exact P22 | exact P23) (Src.of (by repeat (first | exact Cells.all _ | exact Cells.head rfl | apply Cells.tail)) (by rfl)) (by rfl) (by have := hpre.stl; first | omega | (show (List.length (List.dropLast _) + 1) * _ ≤ _; simp only [List.length_dropLast]; omega) | (simp only [VM.pop, VM.setSt, List.length_dropLast]; omega)) rfl ?_)
      intro a1 c1 s3 hAr
      refine SPO_p rfl (y_nil rfl) rfl ?_
      refine SPO_p rfl (y_fa fld_93_2 rfl) rfl ?_
      refine SPO_z (k := 0) rfl rfl (SP1_store Tryz.sizeOf90 rfl rfl rfl (by first | exact U0 | exact U1 | exact U2 | exact U3 | exact U4 | exact U5 | exact U6 | exact U7 | exact U8 | exact U9 | exact U10 | exact U11 | exact U12 | exact U13 | exact U14 | exact U15 | exact U16 | exact U17 | exact U18 | exact U19 | exact U20 | exact U21 | exact U22 | exact U23) (by rfl) ?_)
      refine SPO_nil ?_
      refine inBlockP_n ?_
      refine thenP_n ?_
      have hx : m.step fuel = VM.next (m1.push ⟨false, IntKind.i32.wrap c.imm⟩) := by rw [hstep]; rw [exec_x17 h60_0]; rfl
      exact Mid.intro (⟨m1.push ⟨false, IntKind.i32.wrap c.imm⟩, List.flatten [blk x 93 [(.pointer (some ⟨pb, 0, none⟩)), (.pointer (some ⟨kb, 0, none⟩)), .slice a1 (m1.i.st.length + 1) c1, .slice (some ⟨bf, 0, none⟩) m1.i.fr.length fc3, I m1.i.used, I m1.i.high], s3, sf3], _, _, _⟩ : VM × Seg × Seg × Seg × Seg) ⟨hx, hN, ⟨hpre.pc0, hpre.pc1⟩, push_inst (i := m1.i) (y := ⟨false, _⟩) hAr hfr3, hp1, hk1, hh1, hhv⟩ (by repeat (first | exact Sub.nil _ | refine Sub.cons rfl ?_)) (by repeat (first | exact Part.nil _ | (apply Part.cons; (first | exact P0 | exact P1 | exact P2 | exact P3 | exact P4 | exact P5 | exact P6 | exact P7 | exact P8 | exact P9 | exact P10 | exact P11 | exact P12 | exact P13 | exact P14 | exact P15 | exact P16 | exact P17 | exact P18 | exact P19 | exact P20 | exact P21 | exact P22 | exact P23)) | (apply Part.flat; simp only [List.cons_append, List.nil_append]) | (apply Part.nilc)))
    intro h60_0
    refine SPL_y (y_assign rfl) rfl ?_
    refine SPL_nil ?_
    refine thenP_n ?_
    refine SP_cond_f rfl ?_
    refine SP_seq ?_
    refine SP_region ?_
    refine SPL_if (y_eql rfl rfl) rfl ?_ ?_
    · intro h62_0
      refine SPL_y (y_assign rfl) rfl ?_
      refine SPL_nil ?_
      refine thenP_n ?_
      refine SP_cond_t rfl ?_
      obtain ⟨sa3, sc3, fc3, ss3, sf3, rfl, hst3, hfr3⟩ := hm1
      refine SP_open (by first | exact P0 | exact P1 | exact P2 | exact P3 | exact P4 | exact P5 | exact P6 | exact P7 | exact P8 | exact P9 | exact P10 | exact P11 | exact P12 | exact P13 | exact P14 | exact P15 | exact P16 | exact P17 | exact P18 | exact P19 | exact P20 | exact P21 | exact P22 | exact P23) ?_
      simp only [List.cons_append, List.nil_append]
      refine SP_draw 9 [(0, 0), (1, 0), (2, 0), (3, 0), (5, 0), (4, 1), (6, 1), (7, 0), (8, 2), (9, 3), (10, 0), (11, 0), (12, 3)] mixed (by kernel_rfl) (fun _ _ _ _ _ h => h) (Part.refl _) ?_
      refine SPO_p rfl (y_move rfl) rfl ?_
      refine SPO_p rfl (y_move rfl) rfl ?_
      refine SPO_p rfl (y_nil rfl) rfl ?_
      refine SPO_p rfl (y_fa fld_93_2 rfl) rfl ?_
      refine SPO_p rfl (y_fa fld_181_1 rfl) rfl ?_
      refine SPO_h rfl (y_load Tryz.isAgg90 rfl (by repeat (first | exact Cell.head rfl | apply Cell.tail))) rfl ?_
      refine SPO_h rfl (y_load Tryz.isAgg3 rfl (by repeat (first | exact Cell.head rfl | apply Cell.tail))) rfl ?_
      refine SPO_p rfl (y_mki Tryz.underlying253 rfl rfl) rfl ?_
      refine SPO_a rfl rfl (SP1_slice1 el_90 rfl rfl rfl rfl rfl ?_)
      intro b361
      refine ⟨⟨_, (by repeat (first | exact Part.nil _ | (apply Part.cons; (first | exact P0 | exact P1 | exact P2 | exact P3 | exact P4 | exact P5 | exact P6 | exact P7 | exact P8 | exact P9 | exact P10 | exact P11 | exact P12 | exact P13 | exact P14 | exact P15 | exact P16 | exact P17 | exact P18 | exact P19 | exact P20 | exact P21 | exact P22 | exact P23)) | (apply Part.flat; simp only [List.cons_append, List.nil_append]) | (apply Part.nilc)))⟩, ?_⟩
      refine SPO_z (k := 0) rfl rfl (SP1_append el_90 (.inl Tryz.underlying90) rfl rfl hst3 (by first | exact P0 | exact P1 | exact P2 | exact P3 | exact P4 | exact P5 | exact P6 | exact P7 | exact P8 | exact P9 | exact P10 | exact P11 | exact P12 | exact P13 | exact P14 | exact P15 | exact P16 | exact P17 | exact P18 | exact P19 | exact P20 | exact P21 | exact P22 | exact P23) (Src.of (by repeat (first | exact Cells.all _ | exact Cells.head rfl | apply Cells.tail)) (by rfl)) (by rfl) (by have := hpre.stl; first | omega | (show (List.length (List.dropLast _) + 1) * _ ≤ _; simp only [List.length_dropLast]; omega) | (simp only [VM.pop, VM.setSt, List.length_dropLast]; omega)) rfl ?_)
      intro a1 c1 s3 hAr
      refine SPO_p rfl (y_nil rfl) rfl ?_
      refine SPO_p rfl (y_fa fld_93_2 rfl) rfl ?_
      refine SPO_z (k := 0) rfl rfl (SP1_store Tryz.sizeOf90 rfl rfl rfl (by first | exact U0 | exact U1 | exact U2 | exact U3 | exact U4 | exact U5 | exact U6 | exact U7 | exact U8 | exact U9 | exact U10 | exact U11 | exact U12 | exact U13 | exact U14 | exact U15 | exact U16 | exact U17 | exact U18 | exact U19 | exact U20 | exact U21 | exact U22 | exact U23) (by rfl) ?_)
      refine SPO_nil ?_
      refine inBlockP_n ?_
      refine thenP_n ?_
      have hx : m.step fuel = VM.next (m1.push ⟨true, c.imm⟩) := by rw [hstep]; rw [exec_x18 h62_0]; rfl
      exact Mid.intro (⟨m1.push ⟨true, c.imm⟩, List.flatten [blk x 93 [(.pointer (some ⟨pb, 0, none⟩)), (.pointer (some ⟨kb, 0, none⟩)), .slice a1 (m1.i.st.length + 1) c1, .slice (some ⟨bf, 0, none⟩) m1.i.fr.length fc3, I m1.i.used, I m1.i.high], s3, sf3], _, _, _⟩ : VM × Seg × Seg × Seg × Seg) ⟨hx, hN, ⟨hpre.pc0, hpre.pc1⟩, push_inst (i := m1.i) (y := ⟨true, _⟩) hAr hfr3, hp1, hk1, hh1, hhv⟩ (by repeat (first | exact Sub.nil _ | refine Sub.cons rfl ?_)) (by repeat (first | exact Part.nil _ | (apply Part.cons; (first | exact P0 | exact P1 | exact P2 | exact P3 | exact P4 | exact P5 | exact P6 | exact P7 | exact P8 | exact P9 | exact P10 | exact P11 | exact P12 | exact P13 | exact P14 | exact P15 | exact P16 | exact P17 | exact P18 | exact P19 | exact P20 | exact P21 | exact P22 | exact P23)) | (apply Part.flat; simp only [List.cons_append, List.nil_append]) | (apply Part.nilc)))
    intro h62_0
    refine SPL_y (y_assign rfl) rfl ?_
    refine SPL_nil ?_
    refine thenP_n ?_
    refine SP_cond_f rfl ?_
    refine SP_seq ?_
    refine SP_seq ?_
    refine SP_region ?_
    refine SPL_if (y_eql rfl rfl) rfl ?_ ?_
    · intro h64_0
      refine SPL_y (y_assign rfl) rfl ?_
      refine SPL_nil ?_
      refine thenP_n ?_
      refine SP_cond_t rfl ?_
      refine SP_skip ?_
      refine thenP_n ?_
      refine SP_cond_t rfl ?_
      refine SP_seq ?_
      have h32 := hpo.p3 (by omega)
      refine SP_region ?_
      refine SPL_y (y_move rfl) rfl ?_
      refine SPL_one rfl (SP1_call (run_pop32 x (.pointer (some ⟨pb, 0, none⟩)) (.pointer (some ⟨kb, 0, none⟩)) (some ⟨bf, 0, none⟩) m1.i s1 hm1 hpre.fr0 (by have := hpre.stl; have := hpre.fr4; exact ⟨by omega, by omega⟩) (lst m1.i.st).n m1.i.st.dropLast (h32.1.floor _ h32.1.len) (by conv => lhs; rw [h32.1.one, w_false h32.2]) (ok32 h32.2 (hpre.ok _ (lst_mem (by have := h32.1.len; omega))))) Tryz.call129 rfl rfl (by repeat (first | exact Part.nil _ | (apply Part.cons; (first | exact P0 | exact P1 | exact P2 | exact P3 | exact P4 | exact P5 | exact P6 | exact P7 | exact P8 | exact P9 | exact P10 | exact P11 | exact P12 | exact P13 | exact P14 | exact P15 | exact P16 | exact P17 | exact P18 | exact P19 | exact P20 | exact P21 | exact P22 | exact P23)) | (apply Part.flat; simp only [List.cons_append, List.nil_append]) | (apply Part.nilc))) ?_)
      rintro v post H' ⟨s2, rfl, rfl, hm2⟩ hH
      try simp only [List.cons_append, List.nil_append] at hH
      subst hH
      refine SPL_y (y_assign rfl) rfl ?_
      refine SPL_nil ?_
      refine thenP_n ?_
      refine SP_seq ?_
      have hm2' : isInst x (.pointer (some ⟨pb, 0, none⟩)) (.pointer (some ⟨kb, 0, none⟩)) (some ⟨bf, 0, none⟩) m1.pop.i s2 := hm2
      have hm2k := hm2'
      obtain ⟨sa3, sc3, fc3, ss3, sf3, rfl, hst3, hfr3⟩ := hm2'
      refine SP_open (by first | exact P0 | exact P1 | exact P2 | exact P3 | exact P4 | exact P5 | exact P6 | exact P7 | exact P8 | exact P9 | exact P10 | exact P11 | exact P12 | exact P13 | exact P14 | exact P15 | exact P16 | exact P17 | exact P18 | exact P19 | exact P20 | exact P21 | exact P22 | exact P23) ?_
      simp only [List.cons_append, List.nil_append]
      refine SP_draw 9 [(0, 0), (1, 0), (2, 0), (4, 0), (6, 0), (7, 0), (3, 1), (5, 1), (8, 1), (9, 3), (10, 0), (11, 0), (12, 0), (13, 0), (14, 0)] mixed (by kernel_rfl) (fun _ _ _ _ _ h => h) (Part.refl _) ?_
      refine SPO_p rfl (y_move rfl) rfl ?_
      refine SPO_p rfl (y_nil rfl) rfl ?_
      refine SPO_p rfl (y_fa fld_93_1 rfl) rfl ?_
      refine SPO_p rfl (y_fa fld_181_0 rfl) rfl ?_
      refine SPO_p rfl (y_move rfl) rfl ?_
      refine SPO_p rfl (y_fa fld_181_1 rfl) rfl ?_
      refine SPO_h rfl (y_load Tryz.isAgg46 rfl (by repeat (first | exact Cell.head rfl | apply Cell.tail))) rfl ?_
      refine SPO_h rfl (y_load Tryz.isAgg3 rfl (by repeat (first | exact Cell.head rfl | apply Cell.tail))) rfl ?_
      refine SPO_h rfl (y_load Tryz.isAgg3 rfl (by repeat (first | exact Cell.head rfl | apply Cell.tail))) rfl ?_
      refine SPO_z (k := 0) rfl rfl (SP1_call (mach_Load kb m1.mem sk c.op (lst m1.i.st).n c.imm hk1) Tryz.call42 rfl rfl (by repeat (first | exact Part.nil _ | (apply Part.cons; (first | exact P0 | exact P1 | exact P2 | exact P3 | exact P4 | exact P5 | exact P6 | exact P7 | exact P8 | exact P9 | exact P10 | exact P11 | exact P12 | exact P13 | exact P14 | exact P15 | exact P16 | exact P17 | exact P18 | exact P19 | exact P20 | exact P21 | exact P22 | exact P23)) | (apply Part.flat; simp only [List.cons_append, List.nil_append]) | (apply Part.nilc))) ?_)
      rintro v post H' ⟨rfl, rfl⟩ hH
      try simp only [List.cons_append, List.nil_append] at hH
      subst hH
      refine SPO_p rfl (y_move rfl) rfl ?_
      refine SPO_p rfl (y_ext rfl rfl) rfl ?_
      refine SPO_p rfl (y_ext rfl rfl) rfl ?_
      refine SPO_p rfl (y_assign rfl) rfl ?_
      refine SPO_p rfl (y_assign rfl) rfl ?_
      refine SPO_nil ?_
      refine thenP_n ?_
      refine SP_seq ?_
      refine SP_region ?_
      refine SPL_y (y_move rfl) rfl ?_
      refine SPL_y (y_eql rfl rfl) rfl ?_
      refine SPL_y (y_move rfl) rfl ?_
      refine SPL_one rfl (SP1_callp (run_need _ _) Tryz.call126 rfl rfl (by repeat (first | exact Part.nil _ | (apply Part.cons; (first | exact P0 | exact P1 | exact P2 | exact P3 | exact P4 | exact P5 | exact P6 | exact P7 | exact P8 | exact P9 | exact P10 | exact P11 | exact P12 | exact P13 | exact P14 | exact P15 | exact P16 | exact P17 | exact P18 | exact P19 | exact P20 | exact P21 | exact P22 | exact P23)) | (apply Part.flat; simp only [List.cons_append, List.nil_append]) | (apply Part.nilc))) ?_ ?_)
      · rintro c' post H' ⟨hok, rfl, rfl⟩ hH
        try simp only [List.cons_append, List.nil_append] at hH
        subst hH
        refine thenP_panic (inBlockP_panic (thenP_panic (inBlockP_panic (thenP_panic (inBlockP_panic (noGotoP_panic (bodyP_panic (H' := [List.flatten [blk x 93 [(.pointer (some ⟨pb, 0, none⟩)), (.pointer (some ⟨kb, 0, none⟩)), .slice sa3 m1.pop.i.st.length sc3, .slice (some ⟨bf, 0, none⟩) m1.i.fr.length fc3, I m1.i.used, I m1.i.high], ss3, sf3], sp1, sk, sh]) (by repeat (first | exact Part.nil _ | (apply Part.cons; (first | exact P0 | exact P1 | exact P2 | exact P3 | exact P4 | exact P5 | exact P6 | exact P7 | exact P8 | exact P9 | exact P10 | exact P11 | exact P12 | exact P13 | exact P14 | exact P15 | exact P16 | exact P17 | exact P18 | exact P19 | exact P20 | exact P21 | exact P22 | exact P23)) | (apply Part.flat; simp only [List.cons_append, List.nil_append]) | (apply Part.nilc))) ?_)))))))
        have he0 : ¬ (mload m1.mem c.op (lst m1.i.st).n c.imm).2 = 0 := of_decide_eq_false hok
        exact ⟨m, m1, _, _, _, _, _, _, _, _, hg, by rw [hstep]; rw [exec_x19 (by omega)]; unfold VM.x19; exact if_neg he0, he0, rfl, rfl, hm2k, hp1, hk1, hh1⟩
      rintro v post H' ⟨hok, rfl, rfl⟩ hH
      try simp only [List.cons_append, List.nil_append] at hH
      subst hH
      have he0 : (mload m1.mem c.op (lst m1.i.st).n c.imm).2 = 0 := of_decide_eq_true hok
      refine SPL_nil ?_
      refine thenP_n ?_
      refine SP_seq ?_
      refine SP_region ?_
      refine SPL_y (y_fa fld_181_0 rfl) rfl ?_
      refine SPL_y (y_load Tryz.isAgg3 rfl (by repeat (first | exact Cell.head rfl | apply Cell.tail))) rfl ?_
      refine SPL_if (y_eql rfl rfl) rfl ?_ ?_
      · intro h73_2
        refine SPL_nil ?_
        refine thenP_n ?_
        refine SP_cond_t rfl ?_
        refine SP_region ?_
        refine SPL_y (y_move rfl) rfl ?_
        refine SPL_y (y_move rfl) rfl ?_
        refine SPL_y (y_nil rfl) rfl ?_
        refine SPL_y (y_fa fld_93_2 rfl) rfl ?_
        refine SPL_y (y_load Tryz.isAgg90 rfl (by repeat (first | exact Cell.head rfl | apply Cell.tail))) rfl ?_
        refine SPL_y (y_move rfl) rfl ?_
        refine SPL_y (y_mki Tryz.underlying253 rfl rfl) rfl ?_
        refine SPL_one rfl (SP1_slice1 el_90 rfl rfl rfl rfl rfl ?_)
        intro b401
        refine SPL_one rfl (SP1_append el_90 (.inl Tryz.underlying90) rfl rfl hst3 (by first | exact P0 | exact P1 | exact P2 | exact P3 | exact P4 | exact P5 | exact P6 | exact P7 | exact P8 | exact P9 | exact P10 | exact P11 | exact P12 | exact P13 | exact P14 | exact P15 | exact P16 | exact P17 | exact P18 | exact P19 | exact P20 | exact P21 | exact P22 | exact P23) (Src.of (by repeat (first | exact Cells.all _ | exact Cells.head rfl | apply Cells.tail)) (by rfl)) (by rfl) (by have := hpre.stl; first | omega | (show (List.length (List.dropLast _) + 1) * _ ≤ _; simp only [List.length_dropLast]; omega) | (simp only [VM.pop, VM.setSt, List.length_dropLast]; omega)) rfl ?_)
        intro a1 c1 s3 hAr
        refine SPL_y (y_nil rfl) rfl ?_
        refine SPL_y (y_fa fld_93_2 rfl) rfl ?_
        refine SPL_one rfl (SP1_store Tryz.sizeOf90 rfl rfl rfl (by first | exact U0 | exact U1 | exact U2 | exact U3 | exact U4 | exact U5 | exact U6 | exact U7 | exact U8 | exact U9 | exact U10 | exact U11 | exact U12 | exact U13 | exact U14 | exact U15 | exact U16 | exact U17 | exact U18 | exact U19 | exact U20 | exact U21 | exact U22 | exact U23) (by rfl) ?_)
        refine SPL_nil ?_
        refine inBlockP_n ?_
        refine thenP_n ?_
        have hx : m.step fuel = VM.next (m1.pop.push ⟨true, (mload m1.mem c.op (lst m1.i.st).n c.imm).1⟩) := by rw [hstep]; rw [exec_x19 (by omega)]; unfold VM.x19; rw [if_pos he0, if_pos h73_2]
        exact Mid.intro (⟨m1.pop.push ⟨true, (mload m1.mem c.op (lst m1.i.st).n c.imm).1⟩, List.flatten [blk x 93 [(.pointer (some ⟨pb, 0, none⟩)), (.pointer (some ⟨kb, 0, none⟩)), .slice a1 (m1.pop.i.st.length + 1) c1, .slice (some ⟨bf, 0, none⟩) m1.pop.i.fr.length fc3, I m1.pop.i.used, I m1.pop.i.high], s3, sf3], _, _, _⟩ : VM × Seg × Seg × Seg × Seg) ⟨hx, hN, ⟨hpre.pc0, hpre.pc1⟩, push_inst (i := m1.pop.i) (y := ⟨true, _⟩) hAr hfr3, hp1, hk1, hh1, hhv⟩ (by repeat (first | exact Sub.nil _ | refine Sub.cons rfl ?_)) (by repeat (first | exact Part.nil _ | (apply Part.cons; (first | exact P0 | exact P1 | exact P2 | exact P3 | exact P4 | exact P5 | exact P6 | exact P7 | exact P8 | exact P9 | exact P10 | exact P11 | exact P12 | exact P13 | exact P14 | exact P15 | exact P16 | exact P17 | exact P18 | exact P19 | exact P20 | exact P21 | exact P22 | exact P23)) | (apply Part.flat; simp only [List.cons_append, List.nil_append]) | (apply Part.nilc)))
      intro h73_2
      refine SPL_nil ?_
      refine thenP_n ?_
      refine SP_cond_f rfl ?_
      refine SP_region ?_
      refine SPL_y (y_move rfl) rfl ?_
      refine SPL_y (y_move rfl) rfl ?_
      refine SPL_y (y_nil rfl) rfl ?_
      refine SPL_y (y_fa fld_93_2 rfl) rfl ?_
      refine SPL_y (y_load Tryz.isAgg90 rfl (by repeat (first | exact Cell.head rfl | apply Cell.tail))) rfl ?_
      refine SPL_y (y_move rfl) rfl ?_
      refine SPL_y (y_conv Tryz.underlying3 Tryz.underlying252 rfl rfl) rfl ?_
      refine SPL_y (y_mki Tryz.underlying252 rfl rfl) rfl ?_
      refine SPL_one rfl (SP1_slice1 el_90 rfl rfl rfl rfl rfl ?_)
      intro b413
      refine SPL_one rfl (SP1_append el_90 (.inl Tryz.underlying90) rfl rfl hst3 (by first | exact P0 | exact P1 | exact P2 | exact P3 | exact P4 | exact P5 | exact P6 | exact P7 | exact P8 | exact P9 | exact P10 | exact P11 | exact P12 | exact P13 | exact P14 | exact P15 | exact P16 | exact P17 | exact P18 | exact P19 | exact P20 | exact P21 | exact P22 | exact P23) (Src.of (by repeat (first | exact Cells.all _ | exact Cells.head rfl | apply Cells.tail)) (by rfl)) (by rfl) (by have := hpre.stl; first | omega | (show (List.length (List.dropLast _) + 1) * _ ≤ _; simp only [List.length_dropLast]; omega) | (simp only [VM.pop, VM.setSt, List.length_dropLast]; omega)) rfl ?_)
      intro a1 c1 s3 hAr
      refine SPL_y (y_nil rfl) rfl ?_
      refine SPL_y (y_fa fld_93_2 rfl) rfl ?_
      refine SPL_one rfl (SP1_store Tryz.sizeOf90 rfl rfl rfl (by first | exact U0 | exact U1 | exact U2 | exact U3 | exact U4 | exact U5 | exact U6 | exact U7 | exact U8 | exact U9 | exact U10 | exact U11 | exact U12 | exact U13 | exact U14 | exact U15 | exact U16 | exact U17 | exact U18 | exact U19 | exact U20 | exact U21 | exact U22 | exact U23) (by rfl) ?_)
      refine SPL_nil ?_
      refine inBlockP_n ?_
      refine thenP_n ?_
      have hx : m.step fuel = VM.next (m1.pop.push ⟨false, IntKind.i32.wrap (mload m1.mem c.op (lst m1.i.st).n c.imm).1⟩) := by rw [hstep]; rw [exec_x19 (by omega)]; unfold VM.x19; rw [if_pos he0, if_neg h73_2]
      exact Mid.intro (⟨m1.pop.push ⟨false, IntKind.i32.wrap (mload m1.mem c.op (lst m1.i.st).n c.imm).1⟩, List.flatten [blk x 93 [(.pointer (some ⟨pb, 0, none⟩)), (.pointer (some ⟨kb, 0, none⟩)), .slice a1 (m1.pop.i.st.length + 1) c1, .slice (some ⟨bf, 0, none⟩) m1.pop.i.fr.length fc3, I m1.pop.i.used, I m1.pop.i.high], s3, sf3], _, _, _⟩ : VM × Seg × Seg × Seg × Seg) ⟨hx, hN, ⟨hpre.pc0, hpre.pc1⟩, push_inst (i := m1.pop.i) (y := ⟨false, _⟩) hAr hfr3, hp1, hk1, hh1, hhv⟩ (by repeat (first | exact Sub.nil _ | refine Sub.cons rfl ?_)) (by repeat (first | exact Part.nil _ | (apply Part.cons; (first | exact P0 | exact P1 | exact P2 | exact P3 | exact P4 | exact P5 | exact P6 | exact P7 | exact P8 | exact P9 | exact P10 | exact P11 | exact P12 | exact P13 | exact P14 | exact P15 | exact P16 | exact P17 | exact P18 | exact P19 | exact P20 | exact P21 | exact P22 | exact P23)) | (apply Part.flat; simp only [List.cons_append, List.nil_append]) | (apply Part.nilc)))
    intro h64_0
    refine SPL_y (y_assign rfl) rfl ?_
    refine SPL_nil ?_
    refine thenP_n ?_
    refine SP_cond_f rfl ?_
    refine SP_seq ?_
    refine SP_region ?_
    refine SPL_if (y_eql rfl rfl) rfl ?_ ?_
    · intro h65_0
      refine SPL_y (y_assign rfl) rfl ?_
      refine SPL_nil ?_
      refine thenP_n ?_
      refine SP_cond_t rfl ?_
      refine SP_skip ?_
      refine thenP_n ?_
      refine SP_cond_t rfl ?_
      refine SP_seq ?_
      have h32 := hpo.p3 (by omega)
      refine SP_region ?_
      refine SPL_y (y_move rfl) rfl ?_
      refine SPL_one rfl (SP1_call (run_pop32 x (.pointer (some ⟨pb, 0, none⟩)) (.pointer (some ⟨kb, 0, none⟩)) (some ⟨bf, 0, none⟩) m1.i s1 hm1 hpre.fr0 (by have := hpre.stl; have := hpre.fr4; exact ⟨by omega, by omega⟩) (lst m1.i.st).n m1.i.st.dropLast (h32.1.floor _ h32.1.len) (by conv => lhs; rw [h32.1.one, w_false h32.2]) (ok32 h32.2 (hpre.ok _ (lst_mem (by have := h32.1.len; omega))))) Tryz.call129 rfl rfl (by repeat (first | exact Part.nil _ | (apply Part.cons; (first | exact P0 | exact P1 | exact P2 | exact P3 | exact P4 | exact P5 | exact P6 | exact P7 | exact P8 | exact P9 | exact P10 | exact P11 | exact P12 | exact P13 | exact P14 | exact P15 | exact P16 | exact P17 | exact P18 | exact P19 | exact P20 | exact P21 | exact P22 | exact P23)) | (apply Part.flat; simp only [List.cons_append, List.nil_append]) | (apply Part.nilc))) ?_)
      rintro v post H' ⟨s2, rfl, rfl, hm2⟩ hH
      try simp only [List.cons_append, List.nil_append] at hH
      subst hH
      refine SPL_y (y_assign rfl) rfl ?_
      refine SPL_nil ?_
      refine thenP_n ?_
      refine SP_seq ?_
      have hm2' : isInst x (.pointer (some ⟨pb, 0, none⟩)) (.pointer (some ⟨kb, 0, none⟩)) (some ⟨bf, 0, none⟩) m1.pop.i s2 := hm2
      have hm2k := hm2'
      obtain ⟨sa3, sc3, fc3, ss3, sf3, rfl, hst3, hfr3⟩ := hm2'
      refine SP_open (by first | exact P0 | exact P1 | exact P2 | exact P3 | exact P4 | exact P5 | exact P6 | exact P7 | exact P8 | exact P9 | exact P10 | exact P11 | exact P12 | exact P13 | exact P14 | exact P15 | exact P16 | exact P17 | exact P18 | exact P19 | exact P20 | exact P21 | exact P22 | exact P23) ?_
      simp only [List.cons_append, List.nil_append]
      refine SP_draw 9 [(0, 0), (1, 0), (2, 0), (4, 0), (6, 0), (7, 0), (3, 1), (5, 1), (8, 1), (9, 3), (10, 0), (11, 0), (12, 0), (13, 0), (14, 0)] mixed (by kernel_rfl) (fun _ _ _ _ _ h => h) (Part.refl _) ?_
      refine SPO_p rfl (y_move rfl) rfl ?_
      refine SPO_p rfl (y_nil rfl) rfl ?_
      refine SPO_p rfl (y_fa fld_93_1 rfl) rfl ?_
      refine SPO_p rfl (y_fa fld_181_0 rfl) rfl ?_
      refine SPO_p rfl (y_move rfl) rfl ?_
      refine SPO_p rfl (y_fa fld_181_1 rfl) rfl ?_
      refine SPO_h rfl (y_load Tryz.isAgg46 rfl (by repeat (first | exact Cell.head rfl | apply Cell.tail))) rfl ?_
      refine SPO_h rfl (y_load Tryz.isAgg3 rfl (by repeat (first | exact Cell.head rfl | apply Cell.tail))) rfl ?_
      refine SPO_h rfl (y_load Tryz.isAgg3 rfl (by repeat (first | exact Cell.head rfl | apply Cell.tail))) rfl ?_
      refine SPO_z (k := 0) rfl rfl (SP1_call (mach_Load kb m1.mem sk c.op (lst m1.i.st).n c.imm hk1) Tryz.call42 rfl rfl (by repeat (first | exact Part.nil _ | (apply Part.cons; (first | exact P0 | exact P1 | exact P2 | exact P3 | exact P4 | exact P5 | exact P6 | exact P7 | exact P8 | exact P9 | exact P10 | exact P11 | exact P12 | exact P13 | exact P14 | exact P15 | exact P16 | exact P17 | exact P18 | exact P19 | exact P20 | exact P21 | exact P22 | exact P23)) | (apply Part.flat; simp only [List.cons_append, List.nil_append]) | (apply Part.nilc))) ?_)
      rintro v post H' ⟨rfl, rfl⟩ hH
      try simp only [List.cons_append, List.nil_append] at hH
      subst hH
      refine SPO_p rfl (y_move rfl) rfl ?_
      refine SPO_p rfl (y_ext rfl rfl) rfl ?_
      refine SPO_p rfl (y_ext rfl rfl) rfl ?_
      refine SPO_p rfl (y_assign rfl) rfl ?_
      refine SPO_p rfl (y_assign rfl) rfl ?_
      refine SPO_nil ?_
      refine thenP_n ?_
      refine SP_seq ?_
      refine SP_region ?_
      refine SPL_y (y_move rfl) rfl ?_
      refine SPL_y (y_eql rfl rfl) rfl ?_
      refine SPL_y (y_move rfl) rfl ?_
      refine SPL_one rfl (SP1_callp (run_need _ _) Tryz.call126 rfl rfl (by repeat (first | exact Part.nil _ | (apply Part.cons; (first | exact P0 | exact P1 | exact P2 | exact P3 | exact P4 | exact P5 | exact P6 | exact P7 | exact P8 | exact P9 | exact P10 | exact P11 | exact P12 | exact P13 | exact P14 | exact P15 | exact P16 | exact P17 | exact P18 | exact P19 | exact P20 | exact P21 | exact P22 | exact P23)) | (apply Part.flat; simp only [List.cons_append, List.nil_append]) | (apply Part.nilc))) ?_ ?_)
      · rintro c' post H' ⟨hok, rfl, rfl⟩ hH
        try simp only [List.cons_append, List.nil_append] at hH
        subst hH
        refine thenP_panic (inBlockP_panic (thenP_panic (inBlockP_panic (thenP_panic (inBlockP_panic (noGotoP_panic (bodyP_panic (H' := [List.flatten [blk x 93 [(.pointer (some ⟨pb, 0, none⟩)), (.pointer (some ⟨kb, 0, none⟩)), .slice sa3 m1.pop.i.st.length sc3, .slice (some ⟨bf, 0, none⟩) m1.i.fr.length fc3, I m1.i.used, I m1.i.high], ss3, sf3], sp1, sk, sh]) (by repeat (first | exact Part.nil _ | (apply Part.cons; (first | exact P0 | exact P1 | exact P2 | exact P3 | exact P4 | exact P5 | exact P6 | exact P7 | exact P8 | exact P9 | exact P10 | exact P11 | exact P12 | exact P13 | exact P14 | exact P15 | exact P16 | exact P17 | exact P18 | exact P19 | exact P20 | exact P21 | exact P22 | exact P23)) | (apply Part.flat; simp only [List.cons_append, List.nil_append]) | (apply Part.nilc))) ?_)))))))
        have he0 : ¬ (mload m1.mem c.op (lst m1.i.st).n c.imm).2 = 0 := of_decide_eq_false hok
        exact ⟨m, m1, _, _, _, _, _, _, _, _, hg, by rw [hstep]; rw [exec_x19 (by omega)]; unfold VM.x19; exact if_neg he0, he0, rfl, rfl, hm2k, hp1, hk1, hh1⟩
      rintro v post H' ⟨hok, rfl, rfl⟩ hH
      try simp only [List.cons_append, List.nil_append] at hH
      subst hH
      have he0 : (mload m1.mem c.op (lst m1.i.st).n c.imm).2 = 0 := of_decide_eq_true hok
      refine SPL_nil ?_
      refine thenP_n ?_
      refine SP_seq ?_
      refine SP_region ?_
      refine SPL_y (y_fa fld_181_0 rfl) rfl ?_
      refine SPL_y (y_load Tryz.isAgg3 rfl (by repeat (first | exact Cell.head rfl | apply Cell.tail))) rfl ?_
      refine SPL_if (y_eql rfl rfl) rfl ?_ ?_
      · intro h73_2
        refine SPL_nil ?_
        refine thenP_n ?_
        refine SP_cond_t rfl ?_
        refine SP_region ?_
        refine SPL_y (y_move rfl) rfl ?_
        refine SPL_y (y_move rfl) rfl ?_
        refine SPL_y (y_nil rfl) rfl ?_
        refine SPL_y (y_fa fld_93_2 rfl) rfl ?_
        refine SPL_y (y_load Tryz.isAgg90 rfl (by repeat (first | exact Cell.head rfl | apply Cell.tail))) rfl ?_
        refine SPL_y (y_move rfl) rfl ?_
        refine SPL_y (y_mki Tryz.underlying253 rfl rfl) rfl ?_
        refine SPL_one rfl (SP1_slice1 el_90 rfl rfl rfl rfl rfl ?_)
        intro b401
        refine SPL_one rfl (SP1_append el_90 (.inl Tryz.underlying90) rfl rfl hst3 (by first | exact P0 | exact P1 | exact P2 | exact P3 | exact P4 | exact P5 | exact P6 | exact P7 | exact P8 | exact P9 | exact P10 | exact P11 | exact P12 | exact P13 | exact P14 | exact P15 | exact P16 | exact P17 | exact P18 | exact P19 | exact P20 | exact P21 | exact P22 | exact P23) (Src.of (by repeat (first | exact Cells.all _ | exact Cells.head rfl | apply Cells.tail)) (by rfl)) (by rfl) (by have := hpre.stl; first | omega | (show (List.length (List.dropLast _) + 1) * _ ≤ _; simp only [List.length_dropLast]; omega) | (simp only [VM.pop, VM.setSt, List.length_dropLast]; omega)) rfl ?_)
        intro a1 c1 s3 hAr
        refine SPL_y (y_nil rfl) rfl ?_
        refine SPL_y (y_fa fld_93_2 rfl) rfl ?_
        refine SPL_one rfl (SP1_store Tryz.sizeOf90 rfl rfl rfl (by first | exact U0 | exact U1 | exact U2 | exact U3 | exact U4 | exact U5 | exact U6 | exact U7 | exact U8 | exact U9 | exact U10 | exact U11 | exact U12 | exact U13 | exact U14 | exact U15 | exact U16 | exact U17 | exact U18 | exact U19 | exact U20 | exact U21 | exact U22 | exact U23) (by rfl) ?_)
        refine SPL_nil ?_
        refine inBlockP_n ?_
        refine thenP_n ?_
        have hx : m.step fuel = VM.next (m1.pop.push ⟨true, (mload m1.mem c.op (lst m1.i.st).n c.imm).1⟩) := by rw [hstep]; rw [exec_x19 (by omega)]; unfold VM.x19; rw [if_pos he0, if_pos h73_2]
        exact Mid.intro (⟨m1.pop.push ⟨true, (mload m1.mem c.op (lst m1.i.st).n c.imm).1⟩, List.flatten [blk x 93 [(.pointer (some ⟨pb, 0, none⟩)), (.pointer (some ⟨kb, 0, none⟩)), .slice a1 (m1.pop.i.st.length + 1) c1, .slice (some ⟨bf, 0, none⟩) m1.pop.i.fr.length fc3, I m1.pop.i.used, I m1.pop.i.high], s3, sf3], _, _, _⟩ : VM × Seg × Seg × Seg × Seg) ⟨hx, hN, ⟨hpre.pc0, hpre.pc1⟩, push_inst (i := m1.pop.i) (y := ⟨true, _⟩) hAr hfr3, hp1, hk1, hh1, hhv⟩ (by repeat (first | exact Sub.nil _ | refine Sub.cons rfl ?_)) (by repeat (first | exact Part.nil _ | (apply Part.cons; (first | exact P0 | exact P1 | exact P2 | exact P3 | exact P4 | exact P5 | exact P6 | exact P7 | exact P8 | exact P9 | exact P10 | exact P11 | exact P12 | exact P13 | exact P14 | exact P15 | exact P16 | exact P17 | exact P18 | exact P19 | exact P20 | exact P21 | exact P22 | exact P23)) | (apply Part.flat; simp only [List.cons_append, List.nil_append]) | (apply Part.nilc)))
      intro h73_2
      refine SPL_nil ?_
      refine thenP_n ?_
      refine SP_cond_f rfl ?_
      refine SP_region ?_
      refine SPL_y (y_move rfl) rfl ?_
      refine SPL_y (y_move rfl) rfl ?_
      refine SPL_y (y_nil rfl) rfl ?_
      refine SPL_y (y_fa fld_93_2 rfl) rfl ?_
      refine SPL_y (y_load Tryz.isAgg90 rfl (by repeat (first | exact Cell.head rfl | apply Cell.tail))) rfl ?_
      refine SPL_y (y_move rfl) rfl ?_
      refine SPL_y (y_conv Tryz.underlying3 Tryz.underlying252 rfl rfl) rfl ?_
      refine SPL_y (y_mki Tryz.underlying252 rfl rfl) rfl ?_
      refine SPL_one rfl (SP1_slice1 el_90 rfl rfl rfl rfl rfl ?_)
      intro b413
      refine SPL_one rfl (SP1_append el_90 (.inl Tryz.underlying90) rfl rfl hst3 (by first | exact P0 | exact P1 | exact P2 | exact P3 | exact P4 | exact P5 | exact P6 | exact P7 | exact P8 | exact P9 | exact P10 | exact P11 | exact P12 | exact P13 | exact P14 | exact P15 | exact P16 | exact P17 | exact P18 | exact P19 | exact P20 | exact P21 | exact P22 | exact P23) (Src.of (by repeat (first | exact Cells.all _ | exact Cells.head rfl | apply Cells.tail)) (by rfl)) (by rfl) (by have := hpre.stl; first | omega | (show (List.length (List.dropLast _) + 1) * _ ≤ _; simp only [List.length_dropLast]; omega) | (simp only [VM.pop, VM.setSt, List.length_dropLast]; omega)) rfl ?_)
      intro a1 c1 s3 hAr
      refine SPL_y (y_nil rfl) rfl ?_
      refine SPL_y (y_fa fld_93_2 rfl) rfl ?_
      refine SPL_one rfl (SP1_store Tryz.sizeOf90 rfl rfl rfl (by first | exact U0 | exact U1 | exact U2 | exact U3 | exact U4 | exact U5 | exact U6 | exact U7 | exact U8 | exact U9 | exact U10 | exact U11 | exact U12 | exact U13 | exact U14 | exact U15 | exact U16 | exact U17 | exact U18 | exact U19 | exact U20 | exact U21 | exact U22 | exact U23) (by rfl) ?_)
      refine SPL_nil ?_
      refine inBlockP_n ?_
      refine thenP_n ?_
      have hx : m.step fuel = VM.next (m1.pop.push ⟨false, IntKind.i32.wrap (mload m1.mem c.op (lst m1.i.st).n c.imm).1⟩) := by rw [hstep]; rw [exec_x19 (by omega)]; unfold VM.x19; rw [if_pos he0, if_neg h73_2]
      exact Mid.intro (⟨m1.pop.push ⟨false, IntKind.i32.wrap (mload m1.mem c.op (lst m1.i.st).n c.imm).1⟩, List.flatten [blk x 93 [(.pointer (some ⟨pb, 0, none⟩)), (.pointer (some ⟨kb, 0, none⟩)), .slice a1 (m1.pop.i.st.length + 1) c1, .slice (some ⟨bf, 0, none⟩) m1.pop.i.fr.length fc3, I m1.pop.i.used, I m1.pop.i.high], s3, sf3], _, _, _⟩ : VM × Seg × Seg × Seg × Seg) ⟨hx, hN, ⟨hpre.pc0, hpre.pc1⟩, push_inst (i := m1.pop.i) (y := ⟨false, _⟩) hAr hfr3, hp1, hk1, hh1, hhv⟩ (by repeat (first | exact Sub.nil _ | refine Sub.cons rfl ?_)) (by repeat (first | exact Part.nil _ | (apply Part.cons; (first | exact P0 | exact P1 | exact P2 | exact P3 | exact P4 | exact P5 | exact P6 | exact P7 | exact P8 | exact P9 | exact P10 | exact P11 | exact P12 | exact P13 | exact P14 | exact P15 | exact P16 | exact P17 | exact P18 | exact P19 | exact P20 | exact P21 | exact P22 | exact P23)) | (apply Part.flat; simp only [List.cons_append, List.nil_append]) | (apply Part.nilc)))
    intro h65_0
    refine SPL_y (y_assign rfl) rfl ?_
    refine SPL_nil ?_
    refine thenP_n ?_
    refine SP_cond_f rfl ?_
    refine SP_seq ?_
    refine SP_region ?_
    refine SPL_if (y_eql rfl rfl) rfl ?_ ?_
    · intro h66_0
      refine SPL_y (y_assign rfl) rfl ?_
      refine SPL_nil ?_
      refine thenP_n ?_
      refine SP_cond_t rfl ?_
      refine SP_skip ?_
      refine thenP_n ?_
      refine SP_cond_t rfl ?_
      refine SP_seq ?_
      have h32 := hpo.p3 (by omega)
      refine SP_region ?_
      refine SPL_y (y_move rfl) rfl ?_
      refine SPL_one rfl (SP1_call (run_pop32 x (.pointer (some ⟨pb, 0, none⟩)) (.pointer (some ⟨kb, 0, none⟩)) (some ⟨bf, 0, none⟩) m1.i s1 hm1 hpre.fr0 (by have := hpre.stl; have := hpre.fr4; exact ⟨by omega, by omega⟩) (lst m1.i.st).n m1.i.st.dropLast (h32.1.floor _ h32.1.len) (by conv => lhs; rw [h32.1.one, w_false h32.2]) (ok32 h32.2 (hpre.ok _ (lst_mem (by have := h32.1.len; omega))))) Tryz.call129 rfl rfl (by repeat (first | exact Part.nil _ | (apply Part.cons; (first | exact P0 | exact P1 | exact P2 | exact P3 | exact P4 | exact P5 | exact P6 | exact P7 | exact P8 | exact P9 | exact P10 | exact P11 | exact P12 | exact P13 | exact P14 | exact P15 | exact P16 | exact P17 | exact P18 | exact P19 | exact P20 | exact P21 | exact P22 | exact P23)) | (apply Part.flat; simp only [List.cons_append, List.nil_append]) | (apply Part.nilc))) ?_)
      rintro v post H' ⟨s2, rfl, rfl, hm2⟩ hH
      try simp only [List.cons_append, List.nil_append] at hH
      subst hH
      refine SPL_y (y_assign rfl) rfl ?_
      refine SPL_nil ?_
      refine thenP_n ?_
      refine SP_seq ?_
      have hm2' : isInst x (.pointer (some ⟨pb, 0, none⟩)) (.pointer (some ⟨kb, 0, none⟩)) (some ⟨bf, 0, none⟩) m1.pop.i s2 := hm2
      have hm2k := hm2'
      obtain ⟨sa3, sc3, fc3, ss3, sf3, rfl, hst3, hfr3⟩ := hm2'
      refine SP_open (by first | exact P0 | exact P1 | exact P2 | exact P3 | exact P4 | exact P5 | exact P6 | exact P7 | exact P8 | exact P9 | exact P10 | exact P11 | exact P12 | exact P13 | exact P14 | exact P15 | exact P16 | exact P17 | exact P18 | exact P19 | exact P20 | exact P21 | exact P22 | exact P23) ?_
      simp only [List.cons_append, List.nil_append]
      refine SP_draw 9 [(0, 0), (1, 0), (2, 0), (4, 0), (6, 0), (7, 0), (3, 1), (5, 1), (8, 1), (9, 3), (10, 0), (11, 0), (12, 0), (13, 0), (14, 0)] mixed (by kernel_rfl) (fun _ _ _ _ _ h => h) (Part.refl _) ?_
      refine SPO_p rfl (y_move rfl) rfl ?_
      refine SPO_p rfl (y_nil rfl) rfl ?_
      refine SPO_p rfl (y_fa fld_93_1 rfl) rfl ?_
      refine SPO_p rfl (y_fa fld_181_0 rfl) rfl ?_
      refine SPO_p rfl (y_move rfl) rfl ?_
      refine SPO_p rfl (y_fa fld_181_1 rfl) rfl ?_
      refine SPO_h rfl (y_load Tryz.isAgg46 rfl (by repeat (first | exact Cell.head rfl | apply Cell.tail))) rfl ?_
      refine SPO_h rfl (y_load Tryz.isAgg3 rfl (by repeat (first | exact Cell.head rfl | apply Cell.tail))) rfl ?_
      refine SPO_h rfl (y_load Tryz.isAgg3 rfl (by repeat (first | exact Cell.head rfl | apply Cell.tail))) rfl ?_
      refine SPO_z (k := 0) rfl rfl (SP1_call (mach_Load kb m1.mem sk c.op (lst m1.i.st).n c.imm hk1) Tryz.call42 rfl rfl (by repeat (first | exact Part.nil _ | (apply Part.cons; (first | exact P0 | exact P1 | exact P2 | exact P3 | exact P4 | exact P5 | exact P6 | exact P7 | exact P8 | exact P9 | exact P10 | exact P11 | exact P12 | exact P13 | exact P14 | exact P15 | exact P16 | exact P17 | exact P18 | exact P19 | exact P20 | exact P21 | exact P22 | exact P23)) | (apply Part.flat; simp only [List.cons_append, List.nil_append]) | (apply Part.nilc))) ?_)
      rintro v post H' ⟨rfl, rfl⟩ hH
      try simp only [List.cons_append, List.nil_append] at hH
      subst hH
      refine SPO_p rfl (y_move rfl) rfl ?_
      refine SPO_p rfl (y_ext rfl rfl) rfl ?_
      refine SPO_p rfl (y_ext rfl rfl) rfl ?_
      refine SPO_p rfl (y_assign rfl) rfl ?_
      refine SPO_p rfl (y_assign rfl) rfl ?_
      refine SPO_nil ?_
      refine thenP_n ?_
      refine SP_seq ?_
      refine SP_region ?_
      refine SPL_y (y_move rfl) rfl ?_
      refine SPL_y (y_eql rfl rfl) rfl ?_
      refine SPL_y (y_move rfl) rfl ?_
      refine SPL_one rfl (SP1_callp (run_need _ _) Tryz.call126 rfl rfl (by repeat (first | exact Part.nil _ | (apply Part.cons; (first | exact P0 | exact P1 | exact P2 | exact P3 | exact P4 | exact P5 | exact P6 | exact P7 | exact P8 | exact P9 | exact P10 | exact P11 | exact P12 | exact P13 | exact P14 | exact P15 | exact P16 | exact P17 | exact P18 | exact P19 | exact P20 | exact P21 | exact P22 | exact P23)) | (apply Part.flat; simp only [List.cons_append, List.nil_append]) | (apply Part.nilc))) ?_ ?_)
      · rintro c' post H' ⟨hok, rfl, rfl⟩ hH
        try simp only [List.cons_append, List.nil_append] at hH
        subst hH
        refine thenP_panic (inBlockP_panic (thenP_panic (inBlockP_panic (thenP_panic (inBlockP_panic (noGotoP_panic (bodyP_panic (H' := [List.flatten [blk x 93 [(.pointer (some ⟨pb, 0, none⟩)), (.pointer (some ⟨kb, 0, none⟩)), .slice sa3 m1.pop.i.st.length sc3, .slice (some ⟨bf, 0, none⟩) m1.i.fr.length fc3, I m1.i.used, I m1.i.high], ss3, sf3], sp1, sk, sh]) (by repeat (first | exact Part.nil _ | (apply Part.cons; (first | exact P0 | exact P1 | exact P2 | exact P3 | exact P4 | exact P5 | exact P6 | exact P7 | exact P8 | exact P9 | exact P10 | exact P11 | exact P12 | exact P13 | exact P14 | exact P15 | exact P16 | exact P17 | exact P18 | exact P19 | exact P20 | exact P21 | exact P22 | exact P23)) | (apply Part.flat; simp only [List.cons_append, List.nil_append]) | (apply Part.nilc))) ?_)))))))
        have he0 : ¬ (mload m1.mem c.op (lst m1.i.st).n c.imm).2 = 0 := of_decide_eq_false hok
        exact ⟨m, m1, _, _, _, _, _, _, _, _, hg, by rw [hstep]; rw [exec_x19 (by omega)]; unfold VM.x19; exact if_neg he0, he0, rfl, rfl, hm2k, hp1, hk1, hh1⟩
      rintro v post H' ⟨hok, rfl, rfl⟩ hH
      try simp only [List.cons_append, List.nil_append] at hH
      subst hH
      have he0 : (mload m1.mem c.op (lst m1.i.st).n c.imm).2 = 0 := of_decide_eq_true hok
      refine SPL_nil ?_
      refine thenP_n ?_
      refine SP_seq ?_
      refine SP_region ?_
      refine SPL_y (y_fa fld_181_0 rfl) rfl ?_
      refine SPL_y (y_load Tryz.isAgg3 rfl (by repeat (first | exact Cell.head rfl | apply Cell.tail))) rfl ?_
      refine SPL_if (y_eql rfl rfl) rfl ?_ ?_
      · intro h73_2
        refine SPL_nil ?_
        refine thenP_n ?_
        refine SP_cond_t rfl ?_
        refine SP_region ?_
        refine SPL_y (y_move rfl) rfl ?_
        refine SPL_y (y_move rfl) rfl ?_
        refine SPL_y (y_nil rfl) rfl ?_
        refine SPL_y (y_fa fld_93_2 rfl) rfl ?_
        refine SPL_y (y_load Tryz.isAgg90 rfl (by repeat (first | exact Cell.head rfl | apply Cell.tail))) rfl ?_
        refine SPL_y (y_move rfl) rfl ?_
        refine SPL_y (y_mki Tryz.underlying253 rfl rfl) rfl ?_
        refine SPL_one rfl (SP1_slice1 el_90 rfl rfl rfl rfl rfl ?_)
        intro b401
        refine SPL_one rfl (SP1_append el_90 (.inl Tryz.underlying90) rfl rfl hst3 (by first | exact P0 | exact P1 | exact P2 | exact P3 | exact P4 | exact P5 | exact P6 | exact P7 | exact P8 | exact P9 | exact P10 | exact P11 | exact P12 | exact P13 | exact P14 | exact P15 | exact P16 | exact P17 | exact P18 | exact P19 | exact P20 | exact P21 | exact P22 | exact P23) (Src.of (by repeat (first | exact Cells.all _ | exact Cells.head rfl | apply Cells.tail)) (by rfl)) (by rfl) (by have := hpre.stl; first | omega | (show (List.length (List.dropLast _) + 1) * _ ≤ _; simp only [List.length_dropLast]; omega) | (simp only [VM.pop, VM.setSt, List.length_dropLast]; omega)) rfl ?_)
        intro a1 c1 s3 hAr
        refine SPL_y (y_nil rfl) rfl ?_
        refine SPL_y (y_fa fld_93_2 rfl) rfl ?_
        refine SPL_one rfl (SP1_store Tryz.sizeOf90 rfl rfl rfl (by first | exact U0 | exact U1 | exact U2 | exact U3 | exact U4 | exact U5 | exact U6 | exact U7 | exact U8 | exact U9 | exact U10 | exact U11 | exact U12 | exact U13 | exact U14 | exact U15 | exact U16 | exact U17 | exact U18 | exact U19 | exact U20 | exact U21 | exact U22 | exact U23) (by rfl) ?_)
        refine SPL_nil ?_
        refine inBlockP_n ?_
        refine thenP_n ?_
        have hx : m.step fuel = VM.next (m1.pop.push ⟨true, (mload m1.mem c.op (lst m1.i.st).n c.imm).1⟩) := by rw [hstep]; rw [exec_x19 (by omega)]; unfold VM.x19; rw [if_pos he0, if_pos h73_2]
        exact Mid.intro (⟨m1.pop.push ⟨true, (mload m1.mem c.op (lst m1.i.st).n c.imm).1⟩, List.flatten [blk x 93 [(.pointer (some ⟨pb, 0, none⟩)), (.pointer (some ⟨kb, 0, none⟩)), .slice a1 (m1.pop.i.st.length + 1) c1, .slice (some ⟨bf, 0, none⟩) m1.pop.i.fr.length fc3, I m1.pop.i.used, I m1.pop.i.high], s3, sf3], _, _, _⟩ : VM × Seg × Seg × Seg × Seg) ⟨hx, hN, ⟨hpre.pc0, hpre.pc1⟩, push_inst (i := m1.pop.i) (y := ⟨true, _⟩) hAr hfr3, hp1, hk1, hh1, hhv⟩ (by repeat (first | exact Sub.nil _ | refine Sub.cons rfl ?_)) (by repeat (first | exact Part.nil _ | (apply Part.cons; (first | exact P0 | exact P1 | exact P2 | exact P3 | exact P4 | exact P5 | exact P6 | exact P7 | exact P8 | exact P9 | exact P10 | exact P11 | exact P12 | exact P13 | exact P14 | exact P15 | exact P16 | exact P17 | exact P18 | exact P19 | exact P20 | exact P21 | exact P22 | exact P23)) | (apply Part.flat; simp only [List.cons_append, List.nil_append]) | (apply Part.nilc)))
      intro h73_2
      refine SPL_nil ?_
      refine thenP_n ?_
      refine SP_cond_f rfl ?_
      refine SP_region ?_
      refine SPL_y (y_move rfl) rfl ?_
      refine SPL_y (y_move rfl) rfl ?_
      refine SPL_y (y_nil rfl) rfl ?_
      refine SPL_y (y_fa fld_93_2 rfl) rfl ?_
      refine SPL_y (y_load Tryz.isAgg90 rfl (by repeat (first | exact Cell.head rfl | apply Cell.tail))) rfl ?_
      refine SPL_y (y_move rfl) rfl ?_
      refine SPL_y (y_conv Tryz.underlying3 Tryz.underlying252 rfl rfl) rfl ?_
      refine SPL_y (y_mki Tryz.underlying252 rfl rfl) rfl ?_
      refine SPL_one rfl (SP1_slice1 el_90 rfl rfl rfl rfl rfl ?_)
      intro b413
      refine SPL_one rfl (SP1_append el_90 (.inl Tryz.underlying90) rfl rfl hst3 (by first | exact P0 | exact P1 | exact P2 | exact P3 | exact P4 | exact P5 | exact P6 | exact P7 | exact P8 | exact P9 | exact P10 | exact P11 | exact P12 | exact P13 | exact P14 | exact P15 | exact P16 | exact P17 | exact P18 | exact P19 | exact P20 | exact P21 | exact P22 | exact P23) (Src.of (by repeat (first | exact Cells.all _ | exact Cells.head rfl | apply Cells.tail)) (by rfl)) (by rfl) (by have := hpre.stl; first | omega | (show (List.length (List.dropLast _) + 1) * _ ≤ _; simp only [List.length_dropLast]; omega) | (simp only [VM.pop, VM.setSt, List.length_dropLast]; omega)) rfl ?_)
      intro a1 c1 s3 hAr
      refine SPL_y (y_nil rfl) rfl ?_
      refine SPL_y (y_fa fld_93_2 rfl) rfl ?_
      refine SPL_one rfl (SP1_store Tryz.sizeOf90 rfl rfl rfl (by first | exact U0 | exact U1 | exact U2 | exact U3 | exact U4 | exact U5 | exact U6 | exact U7 | exact U8 | exact U9 | exact U10 | exact U11 | exact U12 | exact U13 | exact U14 | exact U15 | exact U16 | exact U17 | exact U18 | exact U19 | exact U20 | exact U21 | exact U22 | exact U23) (by rfl) ?_)
      refine SPL_nil ?_
      refine inBlockP_n ?_
      refine thenP_n ?_
      have hx : m.step fuel = VM.next (m1.pop.push ⟨false, IntKind.i32.wrap (mload m1.mem c.op (lst m1.i.st).n c.imm).1⟩) := by rw [hstep]; rw [exec_x19 (by omega)]; unfold VM.x19; rw [if_pos he0, if_neg h73_2]
      exact Mid.intro (⟨m1.pop.push ⟨false, IntKind.i32.wrap (mload m1.mem c.op (lst m1.i.st).n c.imm).1⟩, List.flatten [blk x 93 [(.pointer (some ⟨pb, 0, none⟩)), (.pointer (some ⟨kb, 0, none⟩)), .slice a1 (m1.pop.i.st.length + 1) c1, .slice (some ⟨bf, 0, none⟩) m1.pop.i.fr.length fc3, I m1.pop.i.used, I m1.pop.i.high], s3, sf3], _, _, _⟩ : VM × Seg × Seg × Seg × Seg) ⟨hx, hN, ⟨hpre.pc0, hpre.pc1⟩, push_inst (i := m1.pop.i) (y := ⟨false, _⟩) hAr hfr3, hp1, hk1, hh1, hhv⟩ (by repeat (first | exact Sub.nil _ | refine Sub.cons rfl ?_)) (by repeat (first | exact Part.nil _ | (apply Part.cons; (first | exact P0 | exact P1 | exact P2 | exact P3 | exact P4 | exact P5 | exact P6 | exact P7 | exact P8 | exact P9 | exact P10 | exact P11 | exact P12 | exact P13 | exact P14 | exact P15 | exact P16 | exact P17 | exact P18 | exact P19 | exact P20 | exact P21 | exact P22 | exact P23)) | (apply Part.flat; simp only [List.cons_append, List.nil_append]) | (apply Part.nilc)))
    intro h66_0
    refine SPL_y (y_assign rfl) rfl ?_
    refine SPL_nil ?_
    refine thenP_n ?_
    refine SP_cond_f rfl ?_
    refine SP_seq ?_
    refine SP_region ?_
    refine SPL_if (y_eql rfl rfl) rfl ?_ ?_
    · intro h67_0
      refine SPL_y (y_assign rfl) rfl ?_
      refine SPL_nil ?_
      refine thenP_n ?_
      refine SP_cond_t rfl ?_
      refine SP_skip ?_
      refine thenP_n ?_
      refine SP_cond_t rfl ?_
      refine SP_seq ?_
      have h32 := hpo.p3 (by omega)
      refine SP_region ?_
      refine SPL_y (y_move rfl) rfl ?_
      refine SPL_one rfl (SP1_call (run_pop32 x (.pointer (some ⟨pb, 0, none⟩)) (.pointer (some ⟨kb, 0, none⟩)) (some ⟨bf, 0, none⟩) m1.i s1 hm1 hpre.fr0 (by have := hpre.stl; have := hpre.fr4; exact ⟨by omega, by omega⟩) (lst m1.i.st).n m1.i.st.dropLast (h32.1.floor _ h32.1.len) (by conv => lhs; rw [h32.1.one, w_false h32.2]) (ok32 h32.2 (hpre.ok _ (lst_mem (by have := h32.1.len; omega))))) Tryz.call129 rfl rfl (by repeat (first | exact Part.nil _ | (apply Part.cons; (first | exact P0 | exact P1 | exact P2 | exact P3 | exact P4 | exact P5 | exact P6 | exact P7 | exact P8 | exact P9 | exact P10 | exact P11 | exact P12 | exact P13 | exact P14 | exact P15 | exact P16 | exact P17 | exact P18 | exact P19 | exact P20 | exact P21 | exact P22 | exact P23)) | (apply Part.flat; simp only [List.cons_append, List.nil_append]) | (apply Part.nilc))) ?_)
      rintro v post H' ⟨s2, rfl, rfl, hm2⟩ hH
      try simp only [List.cons_append, List.nil_append] at hH
      subst hH
      refine SPL_y (y_assign rfl) rfl ?_
      refine SPL_nil ?_
      refine thenP_n ?_
      refine SP_seq ?_
      have hm2' : isInst x (.pointer (some ⟨pb, 0, none⟩)) (.pointer (some ⟨kb, 0, none⟩)) (some ⟨bf, 0, none⟩) m1.pop.i s2 := hm2
      have hm2k := hm2'
      obtain ⟨sa3, sc3, fc3, ss3, sf3, rfl, hst3, hfr3⟩ := hm2'
      refine SP_open (by first | exact P0 | exact P1 | exact P2 | exact P3 | exact P4 | exact P5 | exact P6 | exact P7 | exact P8 | exact P9 | exact P10 | exact P11 | exact P12 | exact P13 | exact P14 | exact P15 | exact P16 | exact P17 | exact P18 | exact P19 | exact P20 | exact P21 | exact P22 | exact P23) ?_
      simp only [List.cons_append, List.nil_append]
      refine SP_draw 9 [(0, 0), (1, 0), (2, 0), (4, 0), (6, 0), (7, 0), (3, 1), (5, 1), (8, 1), (9, 3), (10, 0), (11, 0), (12, 0), (13, 0), (14, 0)] mixed (by kernel_rfl) (fun _ _ _ _ _ h => h) (Part.refl _) ?_
      refine SPO_p rfl (y_move rfl) rfl ?_
      refine SPO_p rfl (y_nil rfl) rfl ?_
      refine SPO_p rfl (y_fa fld_93_1 rfl) rfl ?_
      refine SPO_p rfl (y_fa fld_181_0 rfl) rfl ?_
      refine SPO_p rfl (y_move rfl) rfl ?_
      refine SPO_p rfl (y_fa fld_181_1 rfl) rfl ?_
      refine SPO_h rfl (y_load Tryz.isAgg46 rfl (by repeat (first | exact Cell.head rfl | apply Cell.tail))) rfl ?_
      refine SPO_h rfl (y_load Tryz.isAgg3 rfl (by repeat (first | exact Cell.head rfl | apply Cell.tail))) rfl ?_
      refine SPO_h rfl (y_load Tryz.isAgg3 rfl (by repeat (first | exact Cell.head rfl | apply Cell.tail))) rfl ?_
      refine SPO_z (k := 0) rfl rfl (SP1_call (mach_Load kb m1.mem sk c.op (lst m1.i.st).n c.imm hk1) Tryz.call42 rfl rfl (by repeat (first | exact Part.nil _ | (apply Part.cons; (first | exact P0 | exact P1 | exact P2 | exact P3 | exact P4 | exact P5 | exact P6 | exact P7 | exact P8 | exact P9 | exact P10 | exact P11 | exact P12 | exact P13 | exact P14 | exact P15 | exact P16 | exact P17 | exact P18 | exact P19 | exact P20 | exact P21 | exact P22 | exact P23)) | (apply Part.flat; simp only [List.cons_append, List.nil_append]) | (apply Part.nilc))) ?_)
      rintro v post H' ⟨rfl, rfl⟩ hH
      try simp only [List.cons_append, List.nil_append] at hH
      subst hH
      refine SPO_p rfl (y_move rfl) rfl ?_
      refine SPO_p rfl (y_ext rfl rfl) rfl ?_
      refine SPO_p rfl (y_ext rfl rfl) rfl ?_
      refine SPO_p rfl (y_assign rfl) rfl ?_
      refine SPO_p rfl (y_assign rfl) rfl ?_
      refine SPO_nil ?_
      refine thenP_n ?_
      refine SP_seq ?_
      refine SP_region ?_
      refine SPL_y (y_move rfl) rfl ?_
      refine SPL_y (y_eql rfl rfl) rfl ?_
      refine SPL_y (y_move rfl) rfl ?_
      refine SPL_one rfl (SP1_callp (run_need _ _) Tryz.call126 rfl rfl (by repeat (first | exact Part.nil _ | (apply Part.cons; (first | exact P0 | exact P1 | exact P2 | exact P3 | exact P4 | exact P5 | exact P6 | exact P7 | exact P8 | exact P9 | exact P10 | exact P11 | exact P12 | exact P13 | exact P14 | exact P15 | exact P16 | exact P17 | exact P18 | exact P19 | exact P20 | exact P21 | exact P22 | exact P23)) | (apply Part.flat; simp only [List.cons_append, List.nil_append]) | (apply Part.nilc))) ?_ ?_)
      · rintro c' post H' ⟨hok, rfl, rfl⟩ hH
        try simp only [List.cons_append, List.nil_append] at hH
        subst hH
        refine thenP_panic (inBlockP_panic (thenP_panic (inBlockP_panic (thenP_panic (inBlockP_panic (noGotoP_panic (bodyP_panic (H' := [List.flatten [blk x 93 [(.pointer (some ⟨pb, 0, none⟩)), (.pointer (some ⟨kb, 0, none⟩)), .slice sa3 m1.pop.i.st.length sc3, .slice (some ⟨bf, 0, none⟩) m1.i.fr.length fc3, I m1.i.used, I m1.i.high], ss3, sf3], sp1, sk, sh]) (by repeat (first | exact Part.nil _ | (apply Part.cons; (first | exact P0 | exact P1 | exact P2 | exact P3 | exact P4 | exact P5 | exact P6 | exact P7 | exact P8 | exact P9 | exact P10 | exact P11 | exact P12 | exact P13 | exact P14 | exact P15 | exact P16 | exact P17 | exact P18 | exact P19 | exact P20 | exact P21 | exact P22 | exact P23)) | (apply Part.flat; simp only [List.cons_append, List.nil_append]) | (apply Part.nilc))) ?_)))))))
        have he0 : ¬ (mload m1.mem c.op (lst m1.i.st).n c.imm).2 = 0 := of_decide_eq_false hok
        exact ⟨m, m1, _, _, _, _, _, _, _, _, hg, by rw [hstep]; rw [exec_x19 (by omega)]; unfold VM.x19; exact if_neg he0, he0, rfl, rfl, hm2k, hp1, hk1, hh1⟩
      rintro v post H' ⟨hok, rfl, rfl⟩ hH
      try simp only [List.cons_append, List.nil_append] at hH
      subst hH
      have he0 : (mload m1.mem c.op (lst m1.i.st).n c.imm).2 = 0 := of_decide_eq_true hok
      refine SPL_nil ?_
      refine thenP_n ?_
      refine SP_seq ?_
      refine SP_region ?_
      refine SPL_y (y_fa fld_181_0 rfl) rfl ?_
      refine SPL_y (y_load Tryz.isAgg3 rfl (by repeat (first | exact Cell.head rfl | apply Cell.tail))) rfl ?_
      refine SPL_if (y_eql rfl rfl) rfl ?_ ?_
      · intro h73_2
        refine SPL_nil ?_
        refine thenP_n ?_
        refine SP_cond_t rfl ?_
        refine SP_region ?_
        refine SPL_y (y_move rfl) rfl ?_
        refine SPL_y (y_move rfl) rfl ?_
        refine SPL_y (y_nil rfl) rfl ?_
        refine SPL_y (y_fa fld_93_2 rfl) rfl ?_
        refine SPL_y (y_load Tryz.isAgg90 rfl (by repeat (first | exact Cell.head rfl | apply Cell.tail))) rfl ?_
        refine SPL_y (y_move rfl) rfl ?_
        refine SPL_y (y_mki Tryz.underlying253 rfl rfl) rfl ?_
        refine SPL_one rfl (SP1_slice1 el_90 rfl rfl rfl rfl rfl ?_)
        intro b401
        refine SPL_one rfl (SP1_append el_90 (.inl Tryz.underlying90) rfl rfl hst3 (by first | exact P0 | exact P1 | exact P2 | exact P3 | exact P4 | exact P5 | exact P6 | exact P7 | exact P8 | exact P9 | exact P10 | exact P11 | exact P12 | exact P13 | exact P14 | exact P15 | exact P16 | exact P17 | exact P18 | exact P19 | exact P20 | exact P21 | exact P22 | exact P23) (Src.of (by repeat (first | exact Cells.all _ | exact Cells.head rfl | apply Cells.tail)) (by rfl)) (by rfl) (by have := hpre.stl; first | omega | (show (List.length (List.dropLast _) + 1) * _ ≤ _; simp only [List.length_dropLast]; omega) | (simp only [VM.pop, VM.setSt, List.length_dropLast]; omega)) rfl ?_)
        intro a1 c1 s3 hAr
        refine SPL_y (y_nil rfl) rfl ?_
        refine SPL_y (y_fa fld_93_2 rfl) rfl ?_
        refine SPL_one rfl (SP1_store Tryz.sizeOf90 rfl rfl rfl (by first | exact U0 | exact U1 | exact U2 | exact U3 | exact U4 | exact U5 | exact U6 | exact U7 | exact U8 | exact U9 | exact U10 | exact U11 | exact U12 | exact U13 | exact U14 | exact U15 | exact U16 | exact U17 | exact U18 | exact U19 | exact U20 | exact U21 | exact U22 | exact U23) (by rfl) ?_)
        refine SPL_nil ?_
        refine inBlockP_n ?_
        refine thenP_n ?_
        have hx : m.step fuel = VM.next (m1.pop.push ⟨true, (mload m1.mem c.op (lst m1.i.st).n c.imm).1⟩) := by rw [hstep]; rw [exec_x19 (by omega)]; unfold VM.x19; rw [if_pos he0, if_pos h73_2]
        exact Mid.intro (⟨m1.pop.push ⟨true, (mload m1.mem c.op (lst m1.i.st).n c.imm).1⟩, List.flatten [blk x 93 [(.pointer (some ⟨pb, 0, none⟩)), (.pointer (some ⟨kb, 0, none⟩)), .slice a1 (m1.pop.i.st.length + 1) c1, .slice (some ⟨bf, 0, none⟩) m1.pop.i.fr.length fc3, I m1.pop.i.used, I m1.pop.i.high], s3, sf3], _, _, _⟩ : VM × Seg × Seg × Seg × Seg) ⟨hx, hN, ⟨hpre.pc0, hpre.pc1⟩, push_inst (i := m1.pop.i) (y := ⟨true, _⟩) hAr hfr3, hp1, hk1, hh1, hhv⟩ (by repeat (first | exact Sub.nil _ | refine Sub.cons rfl ?_)) (by repeat (first | exact Part.nil _ | (apply Part.cons; (first | exact P0 | exact P1 | exact P2 | exact P3 | exact P4 | exact P5 | exact P6 | exact P7 | exact P8 | exact P9 | exact P10 | exact P11 | exact P12 | exact P13 | exact P14 | exact P15 | exact P16 | exact P17 | exact P18 | exact P19 | exact P20 | exact P21 | exact P22 | exact P23)) | (apply Part.flat; simp only [List.cons_append, List.nil_append]) | (apply Part.nilc)))
      intro h73_2
      refine SPL_nil ?_
      refine thenP_n ?_
      refine SP_cond_f rfl ?_
      refine SP_region ?_
      refine SPL_y (y_move rfl) rfl ?_
      refine SPL_y (y_move rfl) rfl ?_
      refine SPL_y (y_nil rfl) rfl ?_
      refine SPL_y (y_fa fld_93_2 rfl) rfl ?_
      refine SPL_y (y_load Tryz.isAgg90 rfl (by repeat (first | exact Cell.head rfl | apply Cell.tail))) rfl ?_
      refine SPL_y (y_move rfl) rfl ?_
      refine SPL_y (y_conv Tryz.underlying3 Tryz.underlying252 rfl rfl) rfl ?_
      refine SPL_y (y_mki Tryz.underlying252 rfl rfl) rfl ?_
      refine SPL_one rfl (SP1_slice1 el_90 rfl rfl rfl rfl rfl ?_)
      intro b413
      refine SPL_one rfl (SP1_append el_90 (.inl Tryz.underlying90) rfl rfl hst3 (by first | exact P0 | exact P1 | exact P2 | exact P3 | exact P4 | exact P5 | exact P6 | exact P7 | exact P8 | exact P9 | exact P10 | exact P11 | exact P12 | exact P13 | exact P14 | exact P15 | exact P16 | exact P17 | exact P18 | exact P19 | exact P20 | exact P21 | exact P22 | exact P23) (Src.of (by repeat (first | exact Cells.all _ | exact Cells.head rfl | apply Cells.tail)) (by rfl)) (by rfl) (by have := hpre.stl; first | omega | (show (List.length (List.dropLast _) + 1) * _ ≤ _; simp only [List.length_dropLast]; omega) | (simp only [VM.pop, VM.setSt, List.length_dropLast]; omega)) rfl ?_)
      intro a1 c1 s3 hAr
      refine SPL_y (y_nil rfl) rfl ?_
      refine SPL_y (y_fa fld_93_2 rfl) rfl ?_
      refine SPL_one rfl (SP1_store Tryz.sizeOf90 rfl rfl rfl (by first | exact U0 | exact U1 | exact U2 | exact U3 | exact U4 | exact U5 | exact U6 | exact U7 | exact U8 | exact U9 | exact U10 | exact U11 | exact U12 | exact U13 | exact U14 | exact U15 | exact U16 | exact U17 | exact U18 | exact U19 | exact U20 | exact U21 | exact U22 | exact U23) (by rfl) ?_)
      refine SPL_nil ?_
      refine inBlockP_n ?_
      refine thenP_n ?_
      have hx : m.step fuel = VM.next (m1.pop.push ⟨false, IntKind.i32.wrap (mload m1.mem c.op (lst m1.i.st).n c.imm).1⟩) := by rw [hstep]; rw [exec_x19 (by omega)]; unfold VM.x19; rw [if_pos he0, if_neg h73_2]
      exact Mid.intro (⟨m1.pop.push ⟨false, IntKind.i32.wrap (mload m1.mem c.op (lst m1.i.st).n c.imm).1⟩, List.flatten [blk x 93 [(.pointer (some ⟨pb, 0, none⟩)), (.pointer (some ⟨kb, 0, none⟩)), .slice a1 (m1.pop.i.st.length + 1) c1, .slice (some ⟨bf, 0, none⟩) m1.pop.i.fr.length fc3, I m1.pop.i.used, I m1.pop.i.high], s3, sf3], _, _, _⟩ : VM × Seg × Seg × Seg × Seg) ⟨hx, hN, ⟨hpre.pc0, hpre.pc1⟩, push_inst (i := m1.pop.i) (y := ⟨false, _⟩) hAr hfr3, hp1, hk1, hh1, hhv⟩ (by repeat (first | exact Sub.nil _ | refine Sub.cons rfl ?_)) (by repeat (first | exact Part.nil _ | (apply Part.cons; (first | exact P0 | exact P1 | exact P2 | exact P3 | exact P4 | exact P5 | exact P6 | exact P7 | exact P8 | exact P9 | exact P10 | exact P11 | exact P12 | exact P13 | exact P14 | exact P15 | exact P16 | exact P17 | exact P18 | exact P19 | exact P20 | exact P21 | exact P22 | exact P23)) | (apply Part.flat; simp only [List.cons_append, List.nil_append]) | (apply Part.nilc)))
    intro h67_0
    refine SPL_y (y_assign rfl) rfl ?_
    refine SPL_nil ?_
    refine thenP_n ?_
    refine SP_cond_f rfl ?_
    refine SP_seq ?_
    refine SP_region ?_
    refine SPL_if (y_eql rfl rfl) rfl ?_ ?_
    · intro h68_0
      refine SPL_y (y_assign rfl) rfl ?_
      refine SPL_nil ?_
      refine thenP_n ?_
      refine SP_cond_t rfl ?_
      refine SP_skip ?_
      refine thenP_n ?_
      refine SP_cond_t rfl ?_
      refine SP_seq ?_
      have h32 := hpo.p3 (by omega)
      refine SP_region ?_
      refine SPL_y (y_move rfl) rfl ?_
      refine SPL_one rfl (SP1_call (run_pop32 x (.pointer (some ⟨pb, 0, none⟩)) (.pointer (some ⟨kb, 0, none⟩)) (some ⟨bf, 0, none⟩) m1.i s1 hm1 hpre.fr0 (by have := hpre.stl; have := hpre.fr4; exact ⟨by omega, by omega⟩) (lst m1.i.st).n m1.i.st.dropLast (h32.1.floor _ h32.1.len) (by conv => lhs; rw [h32.1.one, w_false h32.2]) (ok32 h32.2 (hpre.ok _ (lst_mem (by have := h32.1.len; omega))))) Tryz.call129 rfl rfl (by repeat (first | exact Part.nil _ | (apply Part.cons; (first | exact P0 | exact P1 | exact P2 | exact P3 | exact P4 | exact P5 | exact P6 | exact P7 | exact P8 | exact P9 | exact P10 | exact P11 | exact P12 | exact P13 | exact P14 | exact P15 | exact P16 | exact P17 | exact P18 | exact P19 | exact P20 | exact P21 | exact P22 | exact P23)) | (apply Part.flat; simp only [List.cons_append, List.nil_append]) | (apply Part.nilc))) ?_)
      rintro v post H' ⟨s2, rfl, rfl, hm2⟩ hH
      try simp only [List.cons_append, List.nil_append] at hH
      subst hH
      refine SPL_y (y_assign rfl) rfl ?_
      refine SPL_nil ?_
      refine thenP_n ?_
      refine SP_seq ?_
      have hm2' : isInst x (.pointer (some ⟨pb, 0, none⟩)) (.pointer (some ⟨kb, 0, none⟩)) (some ⟨bf, 0, none⟩) m1.pop.i s2 := hm2
      have hm2k := hm2'
      obtain ⟨sa3, sc3, fc3, ss3, sf3, rfl, hst3, hfr3⟩ := hm2'
      refine SP_open (by first | exact P0 | exact P1 | exact P2 | exact P3 | exact P4 | exact P5 | exact P6 | exact P7 | exact P8 | exact P9 | exact P10 | exact P11 | exact P12 | exact P13 | exact P14 | exact P15 | exact P16 | exact P17 | exact P18 | exact P19 | exact P20 | exact P21 | exact P22 | exact P23) ?_
      simp only [List.cons_append, List.nil_append]
      refine SP_draw 9 [(0, 0), (1, 0), (2, 0), (4, 0), (6, 0), (7, 0), (3, 1), (5, 1), (8, 1), (9, 3), (10, 0), (11, 0), (12, 0), (13, 0), (14, 0)] mixed (by kernel_rfl) (fun _ _ _ _ _ h => h) (Part.refl _) ?_
      refine SPO_p rfl (y_move rfl) rfl ?_
      refine SPO_p rfl (y_nil rfl) rfl ?_
      refine SPO_p rfl (y_fa fld_93_1 rfl) rfl ?_
      refine SPO_p rfl (y_fa fld_181_0 rfl) rfl ?_
      refine SPO_p rfl (y_move rfl) rfl ?_
      refine SPO_p rfl (y_fa fld_181_1 rfl) rfl ?_
      refine SPO_h rfl (y_load Tryz.isAgg46 rfl (by repeat (first | exact Cell.head rfl | apply Cell.tail))) rfl ?_
      refine SPO_h rfl (y_load Tryz.isAgg3 rfl (by repeat (first | exact Cell.head rfl | apply Cell.tail))) rfl ?_
      refine SPO_h rfl (y_load Tryz.isAgg3 rfl (by repeat (first | exact Cell.head rfl | apply Cell.tail))) rfl ?_
      refine SPO_z (k := 0) rfl rfl (SP1_call (mach_Load kb m1.mem sk c.op (lst m1.i.st).n c.imm hk1) Tryz.call42 rfl rfl (by repeat (first | exact Part.nil _ | (apply Part.cons; (first | exact P0 | exact P1 | exact P2 | exact P3 | exact P4 | exact P5 | exact P6 | exact P7 | exact P8 | exact P9 | exact P10 | exact P11 | exact P12 | exact P13 | exact P14 | exact P15 | exact P16 | exact P17 | exact P18 | exact P19 | exact P20 | exact P21 | exact P22 | exact P23)) | (apply Part.flat; simp only [List.cons_append, List.nil_append]) | (apply Part.nilc))) ?_)
      rintro v post H' ⟨rfl, rfl⟩ hH
      try simp only [List.cons_append, List.nil_append] at hH
      subst hH
      refine SPO_p rfl (y_move rfl) rfl ?_
      refine SPO_p rfl (y_ext rfl rfl) rfl ?_
      refine SPO_p rfl (y_ext rfl rfl) rfl ?_
      refine SPO_p rfl (y_assign rfl) rfl ?_
      refine SPO_p rfl (y_assign rfl) rfl ?_
      refine SPO_nil ?_
      refine thenP_n ?_
      refine SP_seq ?_
      refine SP_region ?_
      refine SPL_y (y_move rfl) rfl ?_
      refine SPL_y (y_eql rfl rfl) rfl ?_
      refine SPL_y (y_move rfl) rfl ?_
      refine SPL_one rfl (SP1_callp (run_need _ _) Tryz.call126 rfl rfl (by repeat (first | exact Part.nil _ | (apply Part.cons; (first | exact P0 | exact P1 | exact P2 | exact P3 | exact P4 | exact P5 | exact P6 | exact P7 | exact P8 | exact P9 | exact P10 | exact P11 | exact P12 | exact P13 | exact P14 | exact P15 | exact P16 | exact P17 | exact P18 | exact P19 | exact P20 | exact P21 | exact P22 | exact P23)) | (apply Part.flat; simp only [List.cons_append, List.nil_append]) | (apply Part.nilc))) ?_ ?_)
      · rintro c' post H' ⟨hok, rfl, rfl⟩ hH
        try simp only [List.cons_append, List.nil_append] at hH
        subst hH
        refine thenP_panic (inBlockP_panic (thenP_panic (inBlockP_panic (thenP_panic (inBlockP_panic (noGotoP_panic (bodyP_panic (H' := [List.flatten [blk x 93 [(.pointer (some ⟨pb, 0, none⟩)), (.pointer (some ⟨kb, 0, none⟩)), .slice sa3 m1.pop.i.st.length sc3, .slice (some ⟨bf, 0, none⟩) m1.i.fr.length fc3, I m1.i.used, I m1.i.high], ss3, sf3], sp1, sk, sh]) (by repeat (first | exact Part.nil _ | (apply Part.cons; (first | exact P0 | exact P1 | exact P2 | exact P3 | exact P4 | exact P5 | exact P6 | exact P7 | exact P8 | exact P9 | exact P10 | exact P11 | exact P12 | exact P13 | exact P14 | exact P15 | exact P16 | exact P17 | exact P18 | exact P19 | exact P20 | exact P21 | exact P22 | exact P23)) | (apply Part.flat; simp only [List.cons_append, List.nil_append]) | (apply Part.nilc))) ?_)))))))
        have he0 : ¬ (mload m1.mem c.op (lst m1.i.st).n c.imm).2 = 0 := of_decide_eq_false hok
        exact ⟨m, m1, _, _, _, _, _, _, _, _, hg, by rw [hstep]; rw [exec_x19 (by omega)]; unfold VM.x19; exact if_neg he0, he0, rfl, rfl, hm2k, hp1, hk1, hh1⟩
      rintro v post H' ⟨hok, rfl, rfl⟩ hH
      try simp only [List.cons_append, List.nil_append] at hH
      subst hH
      have he0 : (mload m1.mem c.op (lst m1.i.st).n c.imm).2 = 0 := of_decide_eq_true hok
      refine SPL_nil ?_
      refine thenP_n ?_
      refine SP_seq ?_
      refine SP_region ?_
      refine SPL_y (y_fa fld_181_0 rfl) rfl ?_
      refine SPL_y (y_load Tryz.isAgg3 rfl (by repeat (first | exact Cell.head rfl | apply Cell.tail))) rfl ?_
      refine SPL_if (y_eql rfl rfl) rfl ?_ ?_
      · intro h73_2
        refine SPL_nil ?_
        refine thenP_n ?_
        refine SP_cond_t rfl ?_
        refine SP_region ?_
        refine SPL_y (y_move rfl) rfl ?_
        refine SPL_y (y_move rfl) rfl ?_
        refine SPL_y (y_nil rfl) rfl ?_
        refine SPL_y (y_fa fld_93_2 rfl) rfl ?_
        refine SPL_y (y_load Tryz.isAgg90 rfl (by repeat (first | exact Cell.head rfl | apply Cell.tail))) rfl ?_
        refine SPL_y (y_move rfl) rfl ?_
        refine SPL_y (y_mki Tryz.underlying253 rfl rfl) rfl ?_
        refine SPL_one rfl (SP1_slice1 el_90 rfl rfl rfl rfl rfl ?_)
        intro b401
        refine SPL_one rfl (SP1_append el_90 (.inl Tryz.underlying90) rfl rfl hst3 (by first | exact P0 | exact P1 | exact P2 | exact P3 | exact P4 | exact P5 | exact P6 | exact P7 | exact P8 | exact P9 | exact P10 | exact P11 | exact P12 | exact P13 | exact P14 | exact P15 | exact P16 | exact P17 | exact P18 | exact P19 | exact P20 | exact P21 | exact P22 | exact P23) (Src.of (by repeat (first | exact Cells.all _ | exact Cells.head rfl | apply Cells.tail)) (by rfl)) (by rfl) (by have := hpre.stl; first | omega | (show (List.length (List.dropLast _) + 1) * _ ≤ _; simp only [List.length_dropLast]; omega) | (simp only [VM.pop, VM.setSt, List.length_dropLast]; omega)) rfl ?_)
        intro a1 c1 s3 hAr
        refine SPL_y (y_nil rfl) rfl ?_
        refine SPL_y (y_fa fld_93_2 rfl) rfl ?_
        refine SPL_one rfl (SP1_store Tryz.sizeOf90 rfl rfl rfl (by first | exact U0 | exact U1 | exact U2 | exact U3 | exact U4 | exact U5 | exact U6 | exact U7 | exact U8 | exact U9 | exact U10 | exact U11 | exact U12 | exact U13 | exact U14 | exact U15 | exact U16 | exact U17 | exact U18 | exact U19 | exact U20 | exact U21 | exact U22 | exact U23) (by rfl) ?_)
        refine SPL_nil ?_
        refine inBlockP_n ?_
        refine thenP_n ?_
        have hx : m.step fuel = VM.next (m1.pop.push ⟨true, (mload m1.mem c.op (lst m1.i.st).n c.imm).1⟩) := by rw [hstep]; rw [exec_x19 (by omega)]; unfold VM.x19; rw [if_pos he0, if_pos h73_2]
        exact Mid.intro (⟨m1.pop.push ⟨true, (mload m1.mem c.op (lst m1.i.st).n c.imm).1⟩, List.flatten [blk x 93 [(.pointer (some ⟨pb, 0, none⟩)), (.pointer (some ⟨kb, 0, none⟩)), .slice a1 (m1.pop.i.st.length + 1) c1, .slice (some ⟨bf, 0, none⟩) m1.pop.i.fr.length fc3, I m1.pop.i.used, I m1.pop.i.high], s3, sf3], _, _, _⟩ : VM × Seg × Seg × Seg × Seg) ⟨hx, hN, ⟨hpre.pc0, hpre.pc1⟩, push_inst (i := m1.pop.i) (y := ⟨true, _⟩) hAr hfr3, hp1, hk1, hh1, hhv⟩ (by repeat (first | exact Sub.nil _ | refine Sub.cons rfl ?_)) (by repeat (first | exact Part.nil _ | (apply Part.cons; (first | exact P0 | exact P1 | exact P2 | exact P3 | exact P4 | exact P5 | exact P6 | exact P7 | exact P8 | exact P9 | exact P10 | exact P11 | exact P12 | exact P13 | exact P14 | exact P15 | exact P16 | exact P17 | exact P18 | exact P19 | exact P20 | exact P21 | exact P22 | exact P23)) | (apply Part.flat; simp only [List.cons_append, List.nil_append]) | (apply Part.nilc)))
      intro h73_2
      refine SPL_nil ?_
      refine thenP_n ?_
      refine SP_cond_f rfl ?_
      refine SP_region ?_
      refine SPL_y (y_move rfl) rfl ?_
      refine SPL_y (y_move rfl) rfl ?_
      refine SPL_y (y_nil rfl) rfl ?_
      refine SPL_y (y_fa fld_93_2 rfl) rfl ?_
      refine SPL_y (y_load Tryz.isAgg90 rfl (by repeat (first | exact Cell.head rfl | apply Cell.tail))) rfl ?_
      refine SPL_y (y_move rfl) rfl ?_
      refine SPL_y (y_conv Tryz.underlying3 Tryz.underlying252 rfl rfl) rfl ?_
      refine SPL_y (y_mki Tryz.underlying252 rfl rfl) rfl ?_
      refine SPL_one rfl (SP1_slice1 el_90 rfl rfl rfl rfl rfl ?_)
      intro b413
      refine SPL_one rfl (SP1_append el_90 (.inl Tryz.underlying90) rfl rfl hst3 (by first | exact P0 | exact P1 | exact P2 | exact P3 | exact P4 | exact P5 | exact P6 | exact P7 | exact P8 | exact P9 | exact P10 | exact P11 | exact P12 | exact P13 | exact P14 | exact P15 | exact P16 | exact P17 | exact P18 | exact P19 | exact P20 | exact P21 | exact P22 | exact P23) (Src.of (by repeat (first | exact Cells.all _ | exact Cells.head rfl | apply Cells.tail)) (by rfl)) (by rfl) (by have := hpre.stl; first | omega | (show (List.length (List.dropLast _) + 1) * _ ≤ _; simp only [List.length_dropLast]; omega) | (simp only [VM.pop, VM.setSt, List.length_dropLast]; omega)) rfl ?_)
      intro a1 c1 s3 hAr
      refine SPL_y (y_nil rfl) rfl ?_
      refine SPL_y (y_fa fld_93_2 rfl) rfl ?_
      refine SPL_one rfl (SP1_store Tryz.sizeOf90 rfl rfl rfl (by first | exact U0 | exact U1 | exact U2 | exact U3 | exact U4 | exact U5 | exact U6 | exact U7 | exact U8 | exact U9 | exact U10 | exact U11 | exact U12 | exact U13 | exact U14 | exact U15 | exact U16 | exact U17 | exact U18 | exact U19 | exact U20 | exact U21 | exact U22 | exact U23) (by rfl) ?_)
      refine SPL_nil ?_
      refine inBlockP_n ?_
      refine thenP_n ?_
      have hx : m.step fuel = VM.next (m1.pop.push ⟨false, IntKind.i32.wrap (mload m1.mem c.op (lst m1.i.st).n c.imm).1⟩) := by rw [hstep]; rw [exec_x19 (by omega)]; unfold VM.x19; rw [if_pos he0, if_neg h73_2]
      exact Mid.intro (⟨m1.pop.push ⟨false, IntKind.i32.wrap (mload m1.mem c.op (lst m1.i.st).n c.imm).1⟩, List.flatten [blk x 93 [(.pointer (some ⟨pb, 0, none⟩)), (.pointer (some ⟨kb, 0, none⟩)), .slice a1 (m1.pop.i.st.length + 1) c1, .slice (some ⟨bf, 0, none⟩) m1.pop.i.fr.length fc3, I m1.pop.i.used, I m1.pop.i.high], s3, sf3], _, _, _⟩ : VM × Seg × Seg × Seg × Seg) ⟨hx, hN, ⟨hpre.pc0, hpre.pc1⟩, push_inst (i := m1.pop.i) (y := ⟨false, _⟩) hAr hfr3, hp1, hk1, hh1, hhv⟩ (by repeat (first | exact Sub.nil _ | refine Sub.cons rfl ?_)) (by repeat (first | exact Part.nil _ | (apply Part.cons; (first | exact P0 | exact P1 | exact P2 | exact P3 | exact P4 | exact P5 | exact P6 | exact P7 | exact P8 | exact P9 | exact P10 | exact P11 | exact P12 | exact P13 | exact P14 | exact P15 | exact P16 | exact P17 | exact P18 | exact P19 | exact P20 | exact P21 | exact P22 | exact P23)) | (apply Part.flat; simp only [List.cons_append, List.nil_append]) | (apply Part.nilc)))
    intro h68_0
    refine SPL_y (y_assign rfl) rfl ?_
    refine SPL_nil ?_
    refine thenP_n ?_
    refine SP_cond_f rfl ?_
    refine SP_region ?_
    refine SPL_if (y_eql rfl rfl) rfl ?_ ?_
    · intro h69_0
      refine SPL_y (y_assign rfl) rfl ?_
      refine SPL_nil ?_
      refine thenP_n ?_
      refine SP_cond_t rfl ?_
      refine SP_seq ?_
      have h32 := hpo.p3 (by omega)
      refine SP_region ?_
      refine SPL_y (y_move rfl) rfl ?_
      refine SPL_one rfl (SP1_call (run_pop32 x (.pointer (some ⟨pb, 0, none⟩)) (.pointer (some ⟨kb, 0, none⟩)) (some ⟨bf, 0, none⟩) m1.i s1 hm1 hpre.fr0 (by have := hpre.stl; have := hpre.fr4; exact ⟨by omega, by omega⟩) (lst m1.i.st).n m1.i.st.dropLast (h32.1.floor _ h32.1.len) (by conv => lhs; rw [h32.1.one, w_false h32.2]) (ok32 h32.2 (hpre.ok _ (lst_mem (by have := h32.1.len; omega))))) Tryz.call129 rfl rfl (by repeat (first | exact Part.nil _ | (apply Part.cons; (first | exact P0 | exact P1 | exact P2 | exact P3 | exact P4 | exact P5 | exact P6 | exact P7 | exact P8 | exact P9 | exact P10 | exact P11 | exact P12 | exact P13 | exact P14 | exact P15 | exact P16 | exact P17 | exact P18 | exact P19 | exact P20 | exact P21 | exact P22 | exact P23)) | (apply Part.flat; simp only [List.cons_append, List.nil_append]) | (apply Part.nilc))) ?_)
      rintro v post H' ⟨s2, rfl, rfl, hm2⟩ hH
      try simp only [List.cons_append, List.nil_append] at hH
      subst hH
      refine SPL_y (y_assign rfl) rfl ?_
      refine SPL_nil ?_
      refine thenP_n ?_
      refine SP_seq ?_
      have hm2' : isInst x (.pointer (some ⟨pb, 0, none⟩)) (.pointer (some ⟨kb, 0, none⟩)) (some ⟨bf, 0, none⟩) m1.pop.i s2 := hm2
      have hm2k := hm2'
      obtain ⟨sa3, sc3, fc3, ss3, sf3, rfl, hst3, hfr3⟩ := hm2'
      refine SP_open (by first | exact P0 | exact P1 | exact P2 | exact P3 | exact P4 | exact P5 | exact P6 | exact P7 | exact P8 | exact P9 | exact P10 | exact P11 | exact P12 | exact P13 | exact P14 | exact P15 | exact P16 | exact P17 | exact P18 | exact P19 | exact P20 | exact P21 | exact P22 | exact P23) ?_
      simp only [List.cons_append, List.nil_append]
      refine SP_draw 9 [(0, 0), (1, 0), (2, 0), (4, 0), (6, 0), (7, 0), (3, 1), (5, 1), (8, 1), (9, 3), (10, 0), (11, 0), (12, 0), (13, 0), (14, 0)] mixed (by kernel_rfl) (fun _ _ _ _ _ h => h) (Part.refl _) ?_
      refine SPO_p rfl (y_move rfl) rfl ?_
      refine SPO_p rfl (y_nil rfl) rfl ?_
      refine SPO_p rfl (y_fa fld_93_1 rfl) rfl ?_
      refine SPO_p rfl (y_fa fld_181_0 rfl) rfl ?_
      refine SPO_p rfl (y_move rfl) rfl ?_
      refine SPO_p rfl (y_fa fld_181_1 rfl) rfl ?_
      refine SPO_h rfl (y_load Tryz.isAgg46 rfl (by repeat (first | exact Cell.head rfl | apply Cell.tail))) rfl ?_
      refine SPO_h rfl (y_load Tryz.isAgg3 rfl (by repeat (first | exact Cell.head rfl | apply Cell.tail))) rfl ?_
      refine SPO_h rfl (y_load Tryz.isAgg3 rfl (by repeat (first | exact Cell.head rfl | apply Cell.tail))) rfl ?_
      refine SPO_z (k := 0) rfl rfl (SP1_call (mach_Load kb m1.mem sk c.op (lst m1.i.st).n c.imm hk1) Tryz.call42 rfl rfl (by repeat (first | exact Part.nil _ | (apply Part.cons; (first | exact P0 | exact P1 | exact P2 | exact P3 | exact P4 | exact P5 | exact P6 | exact P7 | exact P8 | exact P9 | exact P10 | exact P11 | exact P12 | exact P13 | exact P14 | exact P15 | exact P16 | exact P17 | exact P18 | exact P19 | exact P20 | exact P21 | exact P22 | exact P23)) | (apply Part.flat; simp only [List.cons_append, List.nil_append]) | (apply Part.nilc))) ?_)
      rintro v post H' ⟨rfl, rfl⟩ hH
      try simp only [List.cons_append, List.nil_append] at hH
      subst hH
      refine SPO_p rfl (y_move rfl) rfl ?_
      refine SPO_p rfl (y_ext rfl rfl) rfl ?_
      refine SPO_p rfl (y_ext rfl rfl) rfl ?_
      refine SPO_p rfl (y_assign rfl) rfl ?_
      refine SPO_p rfl (y_assign rfl) rfl ?_
      refine SPO_nil ?_
      refine thenP_n ?_
      refine SP_seq ?_
      refine SP_region ?_
      refine SPL_y (y_move rfl) rfl ?_
      refine SPL_y (y_eql rfl rfl) rfl ?_
      refine SPL_y (y_move rfl) rfl ?_
      refine SPL_one rfl (SP1_callp (run_need _ _) Tryz.call126 rfl rfl (by repeat (first | exact Part.nil _ | (apply Part.cons; (first | exact P0 | exact P1 | exact P2 | exact P3 | exact P4 | exact P5 | exact P6 | exact P7 | exact P8 | exact P9 | exact P10 | exact P11 | exact P12 | exact P13 | exact P14 | exact P15 | exact P16 | exact P17 | exact P18 | exact P19 | exact P20 | exact P21 | exact P22 | exact P23)) | (apply Part.flat; simp only [List.cons_append, List.nil_append]) | (apply Part.nilc))) ?_ ?_)
      · rintro c' post H' ⟨hok, rfl, rfl⟩ hH
        try simp only [List.cons_append, List.nil_append] at hH
        subst hH
        refine thenP_panic (inBlockP_panic (thenP_panic (inBlockP_panic (thenP_panic (inBlockP_panic (noGotoP_panic (bodyP_panic (H' := [List.flatten [blk x 93 [(.pointer (some ⟨pb, 0, none⟩)), (.pointer (some ⟨kb, 0, none⟩)), .slice sa3 m1.pop.i.st.length sc3, .slice (some ⟨bf, 0, none⟩) m1.i.fr.length fc3, I m1.i.used, I m1.i.high], ss3, sf3], sp1, sk, sh]) (by repeat (first | exact Part.nil _ | (apply Part.cons; (first | exact P0 | exact P1 | exact P2 | exact P3 | exact P4 | exact P5 | exact P6 | exact P7 | exact P8 | exact P9 | exact P10 | exact P11 | exact P12 | exact P13 | exact P14 | exact P15 | exact P16 | exact P17 | exact P18 | exact P19 | exact P20 | exact P21 | exact P22 | exact P23)) | (apply Part.flat; simp only [List.cons_append, List.nil_append]) | (apply Part.nilc))) ?_)))))))
        have he0 : ¬ (mload m1.mem c.op (lst m1.i.st).n c.imm).2 = 0 := of_decide_eq_false hok
        exact ⟨m, m1, _, _, _, _, _, _, _, _, hg, by rw [hstep]; rw [exec_x19 (by omega)]; unfold VM.x19; exact if_neg he0, he0, rfl, rfl, hm2k, hp1, hk1, hh1⟩
      rintro v post H' ⟨hok, rfl, rfl⟩ hH
      try simp only [List.cons_append, List.nil_append] at hH
      subst hH
      have he0 : (mload m1.mem c.op (lst m1.i.st).n c.imm).2 = 0 := of_decide_eq_true hok
      refine SPL_nil ?_
      refine thenP_n ?_
      refine SP_seq ?_
      refine SP_region ?_
      refine SPL_y (y_fa fld_181_0 rfl) rfl ?_
      refine SPL_y (y_load Tryz.isAgg3 rfl (by repeat (first | exact Cell.head rfl | apply Cell.tail))) rfl ?_
      refine SPL_if (y_eql rfl rfl) rfl ?_ ?_
      · intro h73_2
        refine SPL_nil ?_
        refine thenP_n ?_
        refine SP_cond_t rfl ?_
        refine SP_region ?_
        refine SPL_y (y_move rfl) rfl ?_
        refine SPL_y (y_move rfl) rfl ?_
        refine SPL_y (y_nil rfl) rfl ?_
        refine SPL_y (y_fa fld_93_2 rfl) rfl ?_
        refine SPL_y (y_load Tryz.isAgg90 rfl (by repeat (first | exact Cell.head rfl | apply Cell.tail))) rfl ?_
        refine SPL_y (y_move rfl) rfl ?_
        refine SPL_y (y_mki Tryz.underlying253 rfl rfl) rfl ?_
        refine SPL_one rfl (SP1_slice1 el_90 rfl rfl rfl rfl rfl ?_)
        intro b401
        refine SPL_one rfl (SP1_append el_90 (.inl Tryz.underlying90) rfl rfl hst3 (by first | exact P0 | exact P1 | exact P2 | exact P3 | exact P4 | exact P5 | exact P6 | exact P7 | exact P8 | exact P9 | exact P10 | exact P11 | exact P12 | exact P13 | exact P14 | exact P15 | exact P16 | exact P17 | exact P18 | exact P19 | exact P20 | exact P21 | exact P22 | exact P23) (Src.of (by repeat (first | exact Cells.all _ | exact Cells.head rfl | apply Cells.tail)) (by rfl)) (by rfl) (by have := hpre.stl; first | omega | (show (List.length (List.dropLast _) + 1) * _ ≤ _; simp only [List.length_dropLast]; omega) | (simp only [VM.pop, VM.setSt, List.length_dropLast]; omega)) rfl ?_)
        intro a1 c1 s3 hAr
        refine SPL_y (y_nil rfl) rfl ?_
        refine SPL_y (y_fa fld_93_2 rfl) rfl ?_
        refine SPL_one rfl (SP1_store Tryz.sizeOf90 rfl rfl rfl (by first | exact U0 | exact U1 | exact U2 | exact U3 | exact U4 | exact U5 | exact U6 | exact U7 | exact U8 | exact U9 | exact U10 | exact U11 | exact U12 | exact U13 | exact U14 | exact U15 | exact U16 | exact U17 | exact U18 | exact U19 | exact U20 | exact U21 | exact U22 | exact U23) (by rfl) ?_)
        refine SPL_nil ?_
        refine inBlockP_n ?_
        refine thenP_n ?_
        have hx : m.step fuel = VM.next (m1.pop.push ⟨true, (mload m1.mem c.op (lst m1.i.st).n c.imm).1⟩) := by rw [hstep]; rw [exec_x19 (by omega)]; unfold VM.x19; rw [if_pos he0, if_pos h73_2]
        exact Mid.intro (⟨m1.pop.push ⟨true, (mload m1.mem c.op (lst m1.i.st).n c.imm).1⟩, List.flatten [blk x 93 [(.pointer (some ⟨pb, 0, none⟩)), (.pointer (some ⟨kb, 0, none⟩)), .slice a1 (m1.pop.i.st.length + 1) c1, .slice (some ⟨bf, 0, none⟩) m1.pop.i.fr.length fc3, I m1.pop.i.used, I m1.pop.i.high], s3, sf3], _, _, _⟩ : VM × Seg × Seg × Seg × Seg) ⟨hx, hN, ⟨hpre.pc0, hpre.pc1⟩, push_inst (i := m1.pop.i) (y := ⟨true, _⟩) hAr hfr3, hp1, hk1, hh1, hhv⟩ (by repeat (first | exact Sub.nil _ | refine Sub.cons rfl ?_)) (by repeat (first | exact Part.nil _ | (apply Part.cons; (first | exact P0 | exact P1 | exact P2 | exact P3 | exact P4 | exact P5 | exact P6 | exact P7 | exact P8 | exact P9 | exact P10 | exact P11 | exact P12 | exact P13 | exact P14 | exact P15 | exact P16 | exact P17 | exact P18 | exact P19 | exact P20 | exact P21 | exact P22 | exact P23)) | (apply Part.flat; simp only [List.cons_append, List.nil_append]) | (apply Part.nilc)))
      intro h73_2
      refine SPL_nil ?_
      refine thenP_n ?_
      refine SP_cond_f rfl ?_
      refine SP_region ?_
      refine SPL_y (y_move rfl) rfl ?_
      refine SPL_y (y_move rfl) rfl ?_
      refine SPL_y (y_nil rfl) rfl ?_
      refine SPL_y (y_fa fld_93_2 rfl) rfl ?_
      refine SPL_y (y_load Tryz.isAgg90 rfl (by repeat (first | exact Cell.head rfl | apply Cell.tail))) rfl ?_
      refine SPL_y (y_move rfl) rfl ?_
      refine SPL_y (y_conv Tryz.underlying3 Tryz.underlying252 rfl rfl) rfl ?_
      refine SPL_y (y_mki Tryz.underlying252 rfl rfl) rfl ?_
      refine SPL_one rfl (SP1_slice1 el_90 rfl rfl rfl rfl rfl ?_)
      intro b413
      refine SPL_one rfl (SP1_append el_90 (.inl Tryz.underlying90) rfl rfl hst3 (by first | exact P0 | exact P1 | exact P2 | exact P3 | exact P4 | exact P5 | exact P6 | exact P7 | exact P8 | exact P9 | exact P10 | exact P11 | exact P12 | exact P13 | exact P14 | exact P15 | exact P16 | exact P17 | exact P18 | exact P19 | exact P20 | exact P21 | exact P22 | exact P23) (Src.of (by repeat (first | exact Cells.all _ | exact Cells.head rfl | apply Cells.tail)) (by rfl)) (by rfl) (by have := hpre.stl; first | omega | (show (List.length (List.dropLast _) + 1) * _ ≤ _; simp only [List.length_dropLast]; omega) | (simp only [VM.pop, VM.setSt, List.length_dropLast]; omega)) rfl ?_)
      intro a1 c1 s3 hAr
      refine SPL_y (y_nil rfl) rfl ?_
      refine SPL_y (y_fa fld_93_2 rfl) rfl ?_
      refine SPL_one rfl (SP1_store Tryz.sizeOf90 rfl rfl rfl (by first | exact U0 | exact U1 | exact U2 | exact U3 | exact U4 | exact U5 | exact U6 | exact U7 | exact U8 | exact U9 | exact U10 | exact U11 | exact U12 | exact U13 | exact U14 | exact U15 | exact U16 | exact U17 | exact U18 | exact U19 | exact U20 | exact U21 | exact U22 | exact U23) (by rfl) ?_)
      refine SPL_nil ?_
      refine inBlockP_n ?_
      refine thenP_n ?_
      have hx : m.step fuel = VM.next (m1.pop.push ⟨false, IntKind.i32.wrap (mload m1.mem c.op (lst m1.i.st).n c.imm).1⟩) := by rw [hstep]; rw [exec_x19 (by omega)]; unfold VM.x19; rw [if_pos he0, if_neg h73_2]
      exact Mid.intro (⟨m1.pop.push ⟨false, IntKind.i32.wrap (mload m1.mem c.op (lst m1.i.st).n c.imm).1⟩, List.flatten [blk x 93 [(.pointer (some ⟨pb, 0, none⟩)), (.pointer (some ⟨kb, 0, none⟩)), .slice a1 (m1.pop.i.st.length + 1) c1, .slice (some ⟨bf, 0, none⟩) m1.pop.i.fr.length fc3, I m1.pop.i.used, I m1.pop.i.high], s3, sf3], _, _, _⟩ : VM × Seg × Seg × Seg × Seg) ⟨hx, hN, ⟨hpre.pc0, hpre.pc1⟩, push_inst (i := m1.pop.i) (y := ⟨false, _⟩) hAr hfr3, hp1, hk1, hh1, hhv⟩ (by repeat (first | exact Sub.nil _ | refine Sub.cons rfl ?_)) (by repeat (first | exact Part.nil _ | (apply Part.cons; (first | exact P0 | exact P1 | exact P2 | exact P3 | exact P4 | exact P5 | exact P6 | exact P7 | exact P8 | exact P9 | exact P10 | exact P11 | exact P12 | exact P13 | exact P14 | exact P15 | exact P16 | exact P17 | exact P18 | exact P19 | exact P20 | exact P21 | exact P22 | exact P23)) | (apply Part.flat; simp only [List.cons_append, List.nil_append]) | (apply Part.nilc)))
    intro h69_0
    refine SPL_y (y_assign rfl) rfl ?_
    refine SPL_nil ?_
    refine thenP_n ?_
    refine SP_cond_f rfl ?_
    refine SP_seq ?_
    refine SP_seq ?_
    refine SP_region ?_
    refine SPL_if (y_eql rfl rfl) rfl ?_ ?_
    · intro h76_0
      refine SPL_y (y_assign rfl) rfl ?_
      refine SPL_nil ?_
      refine thenP_n ?_
      refine SP_cond_t rfl ?_
      refine SP_skip ?_
      refine thenP_n ?_
      refine SP_cond_t rfl ?_
      refine SP_seq ?_
      obtain ⟨ht2, hw1, hw2⟩ := hpo.p25 (by omega)
      have hl1 := (ht2.mono (by omega : 1 ≤ 2)).len
      have hokl := hpre.ok _ (lst_mem (show 0 < m1.i.st.length by omega))
      refine SP_region ?_
      refine SPL_y (y_assign rfl) rfl ?_
      refine SPL_nil ?_
      refine thenP_n ?_
      refine SP_seq ?_
      refine SP_seq ?_
      refine SP_region ?_
      refine SPL_y (y_fa fld_181_0 rfl) rfl ?_
      refine SPL_y (y_load Tryz.isAgg3 rfl (by repeat (first | exact Cell.head rfl | apply Cell.tail))) rfl ?_
      refine SPL_ifn (y_eql rfl rfl) rfl ?_ ?_
      · intro h81_2
        refine SPL_nil ?_
        refine thenP_n ?_
        refine SP_cond_f rfl ?_
        refine SP_skip ?_
        refine thenP_n ?_
        refine SP_seq ?_
        have htt : (lst m1.i.st).t = 105 := by unfold W.t; rw [hw1, decide_eq_false h81_2]; rfl
        refine SP_region ?_
        refine SPL_y (y_move rfl) rfl ?_
        refine SPL_y (y_move rfl) rfl ?_
        refine SPL_one rfl (SP1_call ((by have := run_num x (.pointer (some ⟨pb, 0, none⟩)) (.pointer (some ⟨kb, 0, none⟩)) (some ⟨bf, 0, none⟩) m1.i s1 hm1 hN (by have := hpre.stl; have := hpre.fr4; exact ⟨by omega, by omega⟩) (lst m1.i.st) hokl m1.i.st.dropLast ((ht2.mono (by omega : 1 ≤ 2)).floor _ (ht2.mono (by omega : 1 ≤ 2)).len) (ht2.mono (by omega : 1 ≤ 2)).one; rw [htt] at this; exact this)) Tryz.call134 rfl rfl (by repeat (first | exact Part.nil _ | (apply Part.cons; (first | exact P0 | exact P1 | exact P2 | exact P3 | exact P4 | exact P5 | exact P6 | exact P7 | exact P8 | exact P9 | exact P10 | exact P11 | exact P12 | exact P13 | exact P14 | exact P15 | exact P16 | exact P17 | exact P18 | exact P19 | exact P20 | exact P21 | exact P22 | exact P23)) | (apply Part.flat; simp only [List.cons_append, List.nil_append]) | (apply Part.nilc))) ?_)
        rintro v post H' ⟨s2, rfl, rfl, hm2⟩ hH
        try simp only [List.cons_append, List.nil_append] at hH
        subst hH
        refine SPL_y (y_assign rfl) rfl ?_
        refine SPL_nil ?_
        refine thenP_n ?_
        refine SP_seq ?_
        refine SP_region ?_
        refine SPL_y (y_move rfl) rfl ?_
        refine SPL_one rfl (SP1_call (run_pop32 x (.pointer (some ⟨pb, 0, none⟩)) (.pointer (some ⟨kb, 0, none⟩)) (some ⟨bf, 0, none⟩) m1.pop.i s2 hm2 hN (by have := hpre.stl; have := hpre.fr4; refine ⟨?_, ?_⟩; (show m1.i.st.dropLast.length ≤ 1000000; rw [List.length_dropLast]; omega); (show m1.i.fr.length ≤ 1000000; omega)) (lst m1.i.st.dropLast).n m1.i.st.dropLast.dropLast (Top.floor (m := m1.pop) (n := 1) ht2.pop _ ht2.pop.len) (by have := Top.one (m := m1.pop) ht2.pop; rw [w_false (y := lst m1.pop.i.st) hw2] at this; exact this) (ok32 hw2 (hpre.pops _ (lst_mem (by have := ht2.pop.len; omega))))) Tryz.call129 rfl rfl (by repeat (first | exact Part.nil _ | (apply Part.cons; (first | exact P0 | exact P1 | exact P2 | exact P3 | exact P4 | exact P5 | exact P6 | exact P7 | exact P8 | exact P9 | exact P10 | exact P11 | exact P12 | exact P13 | exact P14 | exact P15 | exact P16 | exact P17 | exact P18 | exact P19 | exact P20 | exact P21 | exact P22 | exact P23)) | (apply Part.flat; simp only [List.cons_append, List.nil_append]) | (apply Part.nilc))) ?_)
        rintro v post H' ⟨s3, rfl, rfl, hm3⟩ hH
        try simp only [List.cons_append, List.nil_append] at hH
        subst hH
        refine SPL_y (y_assign rfl) rfl ?_
        refine SPL_nil ?_
        refine thenP_n ?_
        refine SP_seq ?_
        have hm3' : isInst x (.pointer (some ⟨pb, 0, none⟩)) (.pointer (some ⟨kb, 0, none⟩)) (some ⟨bf, 0, none⟩) m1.pop.pop.i s3 := hm3
        have hm3k := hm3'
        obtain ⟨sa3, sc3, fc3, ss3, sf3, rfl, hst3, hfr3⟩ := hm3'
        refine SP_open (by first | exact P0 | exact P1 | exact P2 | exact P3 | exact P4 | exact P5 | exact P6 | exact P7 | exact P8 | exact P9 | exact P10 | exact P11 | exact P12 | exact P13 | exact P14 | exact P15 | exact P16 | exact P17 | exact P18 | exact P19 | exact P20 | exact P21 | exact P22 | exact P23) ?_
        simp only [List.cons_append, List.nil_append]
        refine SP_draw 10 [(0, 0), (1, 0), (2, 0), (4, 0), (6, 0), (7, 0), (9, 0), (3, 1), (5, 1), (8, 1), (10, 3), (11, 0)] mixed (by kernel_rfl) (fun _ _ _ _ _ h => h) (Part.refl _) ?_
        refine SPO_p rfl (y_move rfl) rfl ?_
        refine SPO_p rfl (y_nil rfl) rfl ?_
        refine SPO_p rfl (y_fa fld_93_1 rfl) rfl ?_
        refine SPO_p rfl (y_fa fld_181_0 rfl) rfl ?_
        refine SPO_p rfl (y_move rfl) rfl ?_
        refine SPO_p rfl (y_fa fld_181_1 rfl) rfl ?_
        refine SPO_p rfl (y_move rfl) rfl ?_
        refine SPO_h rfl (y_load Tryz.isAgg46 rfl (by repeat (first | exact Cell.head rfl | apply Cell.tail))) rfl ?_
        refine SPO_h rfl (y_load Tryz.isAgg3 rfl (by repeat (first | exact Cell.head rfl | apply Cell.tail))) rfl ?_
        refine SPO_h rfl (y_load Tryz.isAgg3 rfl (by repeat (first | exact Cell.head rfl | apply Cell.tail))) rfl ?_
        refine SPO_z (k := 0) rfl rfl (SP1_call (mach_Store kb m1.mem sk c.op (lst m1.i.st.dropLast).n c.imm (lst m1.i.st).n hk1) Tryz.call137 rfl rfl (by repeat (first | exact Part.nil _ | (apply Part.cons; (first | exact P0 | exact P1 | exact P2 | exact P3 | exact P4 | exact P5 | exact P6 | exact P7 | exact P8 | exact P9 | exact P10 | exact P11 | exact P12 | exact P13 | exact P14 | exact P15 | exact P16 | exact P17 | exact P18 | exact P19 | exact P20 | exact P21 | exact P22 | exact P23)) | (apply Part.flat; simp only [List.cons_append, List.nil_append]) | (apply Part.nilc))) ?_)
        rintro v post H' ⟨sk2, rfl, rfl, hk2⟩ hH
        try simp only [List.cons_append, List.nil_append] at hH
        subst hH
        refine SPO_p rfl (y_assign rfl) rfl ?_
        refine SPO_nil ?_
        refine thenP_n ?_
        refine SP_region ?_
        refine SPL_y (y_move rfl) rfl ?_
        refine SPL_y (y_eql rfl rfl) rfl ?_
        refine SPL_y (y_move rfl) rfl ?_
        refine SPL_one rfl (SP1_callp (run_need _ _) Tryz.call126 rfl rfl (by repeat (first | exact Part.nil _ | (apply Part.cons; (first | exact P0 | exact P1 | exact P2 | exact P3 | exact P4 | exact P5 | exact P6 | exact P7 | exact P8 | exact P9 | exact P10 | exact P11 | exact P12 | exact P13 | exact P14 | exact P15 | exact P16 | exact P17 | exact P18 | exact P19 | exact P20 | exact P21 | exact P22 | exact P23)) | (apply Part.flat; simp only [List.cons_append, List.nil_append]) | (apply Part.nilc))) ?_ ?_)
        · rintro c' post H' ⟨hok, rfl, rfl⟩ hH
          try simp only [List.cons_append, List.nil_append] at hH
          subst hH
          refine inBlockP_panic (thenP_panic (inBlockP_panic (thenP_panic (inBlockP_panic (noGotoP_panic (bodyP_panic (H' := [List.flatten [blk x 93 [(.pointer (some ⟨pb, 0, none⟩)), (.pointer (some ⟨kb, 0, none⟩)), .slice sa3 m1.pop.pop.i.st.length sc3, .slice (some ⟨bf, 0, none⟩) m1.i.fr.length fc3, I m1.i.used, I m1.i.high], ss3, sf3], sp1, sk2, sh]) (by repeat (first | exact Part.nil _ | (apply Part.cons; (first | exact P0 | exact P1 | exact P2 | exact P3 | exact P4 | exact P5 | exact P6 | exact P7 | exact P8 | exact P9 | exact P10 | exact P11 | exact P12 | exact P13 | exact P14 | exact P15 | exact P16 | exact P17 | exact P18 | exact P19 | exact P20 | exact P21 | exact P22 | exact P23)) | (apply Part.flat; simp only [List.cons_append, List.nil_append]) | (apply Part.nilc))) ?_))))))
          have he0 : ¬ (mstore m1.mem c.op (lst m1.i.st.dropLast).n c.imm (lst m1.i.st).n).2 = 0 := of_decide_eq_false hok
          exact ⟨m, ({ m1 with mem := (mstore m1.mem c.op (lst m1.i.st.dropLast).n c.imm (lst m1.i.st).n).1 } : VM), _, _, _, _, _, _, _, _, hg, by rw [hstep]; rw [exec_x25 (by omega)]; unfold VM.x25; exact if_neg he0, he0, rfl, rfl, hm3k, hp1, hk2, hh1⟩
        rintro v post H' ⟨hok, rfl, rfl⟩ hH
        try simp only [List.cons_append, List.nil_append] at hH
        subst hH
        have he0 : (mstore m1.mem c.op (lst m1.i.st.dropLast).n c.imm (lst m1.i.st).n).2 = 0 := of_decide_eq_true hok
        refine SPL_nil ?_
        refine inBlockP_n ?_
        refine thenP_n ?_
        have hx : m.step fuel = VM.next (({ m1 with mem := (mstore m1.mem c.op (lst m1.i.st.dropLast).n c.imm (lst m1.i.st).n).1 } : VM).pop.pop) := by rw [hstep]; rw [exec_x25 (by omega)]; unfold VM.x25; exact if_pos he0
        exact Mid.intro (⟨({ m1 with mem := (mstore m1.mem c.op (lst m1.i.st.dropLast).n c.imm (lst m1.i.st).n).1 } : VM).pop.pop, List.flatten [blk x 93 [(.pointer (some ⟨pb, 0, none⟩)), (.pointer (some ⟨kb, 0, none⟩)), .slice sa3 m1.pop.pop.i.st.length sc3, .slice (some ⟨bf, 0, none⟩) m1.pop.pop.i.fr.length fc3, I m1.pop.pop.i.used, I m1.pop.pop.i.high], ss3, sf3], _, _, _⟩ : VM × Seg × Seg × Seg × Seg) ⟨hx, hN, ⟨hpre.pc0, hpre.pc1⟩, hm3k, hp1, hk2, hh1, hhv⟩ (by repeat (first | exact Sub.nil _ | refine Sub.cons rfl ?_)) (by repeat (first | exact Part.nil _ | (apply Part.cons; (first | exact P0 | exact P1 | exact P2 | exact P3 | exact P4 | exact P5 | exact P6 | exact P7 | exact P8 | exact P9 | exact P10 | exact P11 | exact P12 | exact P13 | exact P14 | exact P15 | exact P16 | exact P17 | exact P18 | exact P19 | exact P20 | exact P21 | exact P22 | exact P23)) | (apply Part.flat; simp only [List.cons_append, List.nil_append]) | (apply Part.nilc)))
      intro h81_2
      refine SPL_nil ?_
      refine thenP_n ?_
      refine SP_cond_t rfl ?_
      refine SP_region ?_
      refine SPL_y (y_assign rfl) rfl ?_
      refine SPL_nil ?_
      refine thenP_n ?_
      refine SP_seq ?_
      have htt : (lst m1.i.st).t = 108 := by unfold W.t; rw [hw1, decide_eq_true h81_2]; rfl
      refine SP_region ?_
      refine SPL_y (y_move rfl) rfl ?_
      refine SPL_y (y_move rfl) rfl ?_
      refine SPL_one rfl (SP1_call ((by have := run_num x (.pointer (some ⟨pb, 0, none⟩)) (.pointer (some ⟨kb, 0, none⟩)) (some ⟨bf, 0, none⟩) m1.i s1 hm1 hN (by have := hpre.stl; have := hpre.fr4; exact ⟨by omega, by omega⟩) (lst m1.i.st) hokl m1.i.st.dropLast ((ht2.mono (by omega : 1 ≤ 2)).floor _ (ht2.mono (by omega : 1 ≤ 2)).len) (ht2.mono (by omega : 1 ≤ 2)).one; rw [htt] at this; exact this)) Tryz.call134 rfl rfl (by repeat (first | exact Part.nil _ | (apply Part.cons; (first | exact P0 | exact P1 | exact P2 | exact P3 | exact P4 | exact P5 | exact P6 | exact P7 | exact P8 | exact P9 | exact P10 | exact P11 | exact P12 | exact P13 | exact P14 | exact P15 | exact P16 | exact P17 | exact P18 | exact P19 | exact P20 | exact P21 | exact P22 | exact P23)) | (apply Part.flat; simp only [List.cons_append, List.nil_append]) | (apply Part.nilc))) ?_)
      rintro v post H' ⟨s2, rfl, rfl, hm2⟩ hH
      try simp only [List.cons_append, List.nil_append] at hH
      subst hH
      refine SPL_y (y_assign rfl) rfl ?_
      refine SPL_nil ?_
      refine thenP_n ?_
      refine SP_seq ?_
      refine SP_region ?_
      refine SPL_y (y_move rfl) rfl ?_
      refine SPL_one rfl (SP1_call (run_pop32 x (.pointer (some ⟨pb, 0, none⟩)) (.pointer (some ⟨kb, 0, none⟩)) (some ⟨bf, 0, none⟩) m1.pop.i s2 hm2 hN (by have := hpre.stl; have := hpre.fr4; refine ⟨?_, ?_⟩; (show m1.i.st.dropLast.length ≤ 1000000; rw [List.length_dropLast]; omega); (show m1.i.fr.length ≤ 1000000; omega)) (lst m1.i.st.dropLast).n m1.i.st.dropLast.dropLast (Top.floor (m := m1.pop) (n := 1) ht2.pop _ ht2.pop.len) (by have := Top.one (m := m1.pop) ht2.pop; rw [w_false (y := lst m1.pop.i.st) hw2] at this; exact this) (ok32 hw2 (hpre.pops _ (lst_mem (by have := ht2.pop.len; omega))))) Tryz.call129 rfl rfl (by repeat (first | exact Part.nil _ | (apply Part.cons; (first | exact P0 | exact P1 | exact P2 | exact P3 | exact P4 | exact P5 | exact P6 | exact P7 | exact P8 | exact P9 | exact P10 | exact P11 | exact P12 | exact P13 | exact P14 | exact P15 | exact P16 | exact P17 | exact P18 | exact P19 | exact P20 | exact P21 | exact P22 | exact P23)) | (apply Part.flat; simp only [List.cons_append, List.nil_append]) | (apply Part.nilc))) ?_)
      rintro v post H' ⟨s3, rfl, rfl, hm3⟩ hH
      try simp only [List.cons_append, List.nil_append] at hH
      subst hH
      refine SPL_y (y_assign rfl) rfl ?_
      refine SPL_nil ?_
      refine thenP_n ?_
      refine SP_seq ?_
      have hm3' : isInst x (.pointer (some ⟨pb, 0, none⟩)) (.pointer (some ⟨kb, 0, none⟩)) (some ⟨bf, 0, none⟩) m1.pop.pop.i s3 := hm3
      have hm3k := hm3'
      obtain ⟨sa3, sc3, fc3, ss3, sf3, rfl, hst3, hfr3⟩ := hm3'
      refine SP_open (by first | exact P0 | exact P1 | exact P2 | exact P3 | exact P4 | exact P5 | exact P6 | exact P7 | exact P8 | exact P9 | exact P10 | exact P11 | exact P12 | exact P13 | exact P14 | exact P15 | exact P16 | exact P17 | exact P18 | exact P19 | exact P20 | exact P21 | exact P22 | exact P23) ?_
      simp only [List.cons_append, List.nil_append]
      refine SP_draw 10 [(0, 0), (1, 0), (2, 0), (4, 0), (6, 0), (7, 0), (9, 0), (3, 1), (5, 1), (8, 1), (10, 3), (11, 0)] mixed (by kernel_rfl) (fun _ _ _ _ _ h => h) (Part.refl _) ?_
      refine SPO_p rfl (y_move rfl) rfl ?_
      refine SPO_p rfl (y_nil rfl) rfl ?_
      refine SPO_p rfl (y_fa fld_93_1 rfl) rfl ?_
      refine SPO_p rfl (y_fa fld_181_0 rfl) rfl ?_
      refine SPO_p rfl (y_move rfl) rfl ?_
      refine SPO_p rfl (y_fa fld_181_1 rfl) rfl ?_
      refine SPO_p rfl (y_move rfl) rfl ?_
      refine SPO_h rfl (y_load Tryz.isAgg46 rfl (by repeat (first | exact Cell.head rfl | apply Cell.tail))) rfl ?_
      refine SPO_h rfl (y_load Tryz.isAgg3 rfl (by repeat (first | exact Cell.head rfl | apply Cell.tail))) rfl ?_
      refine SPO_h rfl (y_load Tryz.isAgg3 rfl (by repeat (first | exact Cell.head rfl | apply Cell.tail))) rfl ?_
      refine SPO_z (k := 0) rfl rfl (SP1_call (mach_Store kb m1.mem sk c.op (lst m1.i.st.dropLast).n c.imm (lst m1.i.st).n hk1) Tryz.call137 rfl rfl (by repeat (first | exact Part.nil _ | (apply Part.cons; (first | exact P0 | exact P1 | exact P2 | exact P3 | exact P4 | exact P5 | exact P6 | exact P7 | exact P8 | exact P9 | exact P10 | exact P11 | exact P12 | exact P13 | exact P14 | exact P15 | exact P16 | exact P17 | exact P18 | exact P19 | exact P20 | exact P21 | exact P22 | exact P23)) | (apply Part.flat; simp only [List.cons_append, List.nil_append]) | (apply Part.nilc))) ?_)
      rintro v post H' ⟨sk2, rfl, rfl, hk2⟩ hH
      try simp only [List.cons_append, List.nil_append] at hH
      subst hH
      refine SPO_p rfl (y_assign rfl) rfl ?_
      refine SPO_nil ?_
      refine thenP_n ?_
      refine SP_region ?_
      refine SPL_y (y_move rfl) rfl ?_
      refine SPL_y (y_eql rfl rfl) rfl ?_
      refine SPL_y (y_move rfl) rfl ?_
      refine SPL_one rfl (SP1_callp (run_need _ _) Tryz.call126 rfl rfl (by repeat (first | exact Part.nil _ | (apply Part.cons; (first | exact P0 | exact P1 | exact P2 | exact P3 | exact P4 | exact P5 | exact P6 | exact P7 | exact P8 | exact P9 | exact P10 | exact P11 | exact P12 | exact P13 | exact P14 | exact P15 | exact P16 | exact P17 | exact P18 | exact P19 | exact P20 | exact P21 | exact P22 | exact P23)) | (apply Part.flat; simp only [List.cons_append, List.nil_append]) | (apply Part.nilc))) ?_ ?_)
      · rintro c' post H' ⟨hok, rfl, rfl⟩ hH
        try simp only [List.cons_append, List.nil_append] at hH
        subst hH
        refine inBlockP_panic (thenP_panic (inBlockP_panic (thenP_panic (inBlockP_panic (noGotoP_panic (bodyP_panic (H' := [List.flatten [blk x 93 [(.pointer (some ⟨pb, 0, none⟩)), (.pointer (some ⟨kb, 0, none⟩)), .slice sa3 m1.pop.pop.i.st.length sc3, .slice (some ⟨bf, 0, none⟩) m1.i.fr.length fc3, I m1.i.used, I m1.i.high], ss3, sf3], sp1, sk2, sh]) (by repeat (first | exact Part.nil _ | (apply Part.cons; (first | exact P0 | exact P1 | exact P2 | exact P3 | exact P4 | exact P5 | exact P6 | exact P7 | exact P8 | exact P9 | exact P10 | exact P11 | exact P12 | exact P13 | exact P14 | exact P15 | exact P16 | exact P17 | exact P18 | exact P19 | exact P20 | exact P21 | exact P22 | exact P23)) | (apply Part.flat; simp only [List.cons_append, List.nil_append]) | (apply Part.nilc))) ?_))))))
        have he0 : ¬ (mstore m1.mem c.op (lst m1.i.st.dropLast).n c.imm (lst m1.i.st).n).2 = 0 := of_decide_eq_false hok
        exact ⟨m, ({ m1 with mem := (mstore m1.mem c.op (lst m1.i.st.dropLast).n c.imm (lst m1.i.st).n).1 } : VM), _, _, _, _, _, _, _, _, hg, by rw [hstep]; rw [exec_x25 (by omega)]; unfold VM.x25; exact if_neg he0, he0, rfl, rfl, hm3k, hp1, hk2, hh1⟩
      rintro v post H' ⟨hok, rfl, rfl⟩ hH
      try simp only [List.cons_append, List.nil_append] at hH
      subst hH
      have he0 : (mstore m1.mem c.op (lst m1.i.st.dropLast).n c.imm (lst m1.i.st).n).2 = 0 := of_decide_eq_true hok
      refine SPL_nil ?_
      refine inBlockP_n ?_
      refine thenP_n ?_
      have hx : m.step fuel = VM.next (({ m1 with mem := (mstore m1.mem c.op (lst m1.i.st.dropLast).n c.imm (lst m1.i.st).n).1 } : VM).pop.pop) := by rw [hstep]; rw [exec_x25 (by omega)]; unfold VM.x25; exact if_pos he0
      exact Mid.intro (⟨({ m1 with mem := (mstore m1.mem c.op (lst m1.i.st.dropLast).n c.imm (lst m1.i.st).n).1 } : VM).pop.pop, List.flatten [blk x 93 [(.pointer (some ⟨pb, 0, none⟩)), (.pointer (some ⟨kb, 0, none⟩)), .slice sa3 m1.pop.pop.i.st.length sc3, .slice (some ⟨bf, 0, none⟩) m1.pop.pop.i.fr.length fc3, I m1.pop.pop.i.used, I m1.pop.pop.i.high], ss3, sf3], _, _, _⟩ : VM × Seg × Seg × Seg × Seg) ⟨hx, hN, ⟨hpre.pc0, hpre.pc1⟩, hm3k, hp1, hk2, hh1, hhv⟩ (by repeat (first | exact Sub.nil _ | refine Sub.cons rfl ?_)) (by repeat (first | exact Part.nil _ | (apply Part.cons; (first | exact P0 | exact P1 | exact P2 | exact P3 | exact P4 | exact P5 | exact P6 | exact P7 | exact P8 | exact P9 | exact P10 | exact P11 | exact P12 | exact P13 | exact P14 | exact P15 | exact P16 | exact P17 | exact P18 | exact P19 | exact P20 | exact P21 | exact P22 | exact P23)) | (apply Part.flat; simp only [List.cons_append, List.nil_append]) | (apply Part.nilc)))
    intro h76_0
    refine SPL_y (y_assign rfl) rfl ?_
    refine SPL_nil ?_
    refine thenP_n ?_
    refine SP_cond_f rfl ?_
    refine SP_seq ?_
    refine SP_region ?_
    refine SPL_if (y_eql rfl rfl) rfl ?_ ?_
    · intro h77_0
      refine SPL_y (y_assign rfl) rfl ?_
      refine SPL_nil ?_
      refine thenP_n ?_
      refine SP_cond_t rfl ?_
      refine SP_skip ?_
      refine thenP_n ?_
      refine SP_cond_t rfl ?_
      refine SP_seq ?_
      obtain ⟨ht2, hw1, hw2⟩ := hpo.p25 (by omega)
      have hl1 := (ht2.mono (by omega : 1 ≤ 2)).len
      have hokl := hpre.ok _ (lst_mem (show 0 < m1.i.st.length by omega))
      refine SP_region ?_
      refine SPL_y (y_assign rfl) rfl ?_
      refine SPL_nil ?_
      refine thenP_n ?_
      refine SP_seq ?_
      refine SP_seq ?_
      refine SP_region ?_
      refine SPL_y (y_fa fld_181_0 rfl) rfl ?_
      refine SPL_y (y_load Tryz.isAgg3 rfl (by repeat (first | exact Cell.head rfl | apply Cell.tail))) rfl ?_
      refine SPL_ifn (y_eql rfl rfl) rfl ?_ ?_
      · intro h81_2
        refine SPL_nil ?_
        refine thenP_n ?_
        refine SP_cond_f rfl ?_
        refine SP_skip ?_
        refine thenP_n ?_
        refine SP_seq ?_
        have htt : (lst m1.i.st).t = 105 := by unfold W.t; rw [hw1, decide_eq_false h81_2]; rfl
        refine SP_region ?_
        refine SPL_y (y_move rfl) rfl ?_
        refine SPL_y (y_move rfl) rfl ?_
        refine SPL_one rfl (SP1_call ((by have := run_num x (.pointer (some ⟨pb, 0, none⟩)) (.pointer (some ⟨kb, 0, none⟩)) (some ⟨bf, 0, none⟩) m1.i s1 hm1 hN (by have := hpre.stl; have := hpre.fr4; exact ⟨by omega, by omega⟩) (lst m1.i.st) hokl m1.i.st.dropLast ((ht2.mono (by omega : 1 ≤ 2)).floor _ (ht2.mono (by omega : 1 ≤ 2)).len) (ht2.mono (by omega : 1 ≤ 2)).one; rw [htt] at this; exact this)) Tryz.call134 rfl rfl (by repeat (first | exact Part.nil _ | (apply Part.cons; (first | exact P0 | exact P1 | exact P2 | exact P3 | exact P4 | exact P5 | exact P6 | exact P7 | exact P8 | exact P9 | exact P10 | exact P11 | exact P12 | exact P13 | exact P14 | exact P15 | exact P16 | exact P17 | exact P18 | exact P19 | exact P20 | exact P21 | exact P22 | exact P23)) | (apply Part.flat; simp only [List.cons_append, List.nil_append]) | (apply Part.nilc))) ?_)
        rintro v post H' ⟨s2, rfl, rfl, hm2⟩ hH
        try simp only [List.cons_append, List.nil_append] at hH
        subst hH
        refine SPL_y (y_assign rfl) rfl ?_
        refine SPL_nil ?_
        refine thenP_n ?_
        refine SP_seq ?_
        refine SP_region ?_
        refine SPL_y (y_move rfl) rfl ?_
        refine SPL_one rfl (SP1_call (run_pop32 x (.pointer (some ⟨pb, 0, none⟩)) (.pointer (some ⟨kb, 0, none⟩)) (some ⟨bf, 0, none⟩) m1.pop.i s2 hm2 hN (by have := hpre.stl; have := hpre.fr4; refine ⟨?_, ?_⟩; (show m1.i.st.dropLast.length ≤ 1000000; rw [List.length_dropLast]; omega); (show m1.i.fr.length ≤ 1000000; omega)) (lst m1.i.st.dropLast).n m1.i.st.dropLast.dropLast (Top.floor (m := m1.pop) (n := 1) ht2.pop _ ht2.pop.len) (by have := Top.one (m := m1.pop) ht2.pop; rw [w_false (y := lst m1.pop.i.st) hw2] at this; exact this) (ok32 hw2 (hpre.pops _ (lst_mem (by have := ht2.pop.len; omega))))) Tryz.call129 rfl rfl (by repeat (first | exact Part.nil _ | (apply Part.cons; (first | exact P0 | exact P1 | exact P2 | exact P3 | exact P4 | exact P5 | exact P6 | exact P7 | exact P8 | exact P9 | exact P10 | exact P11 | exact P12 | exact P13 | exact P14 | exact P15 | exact P16 | exact P17 | exact P18 | exact P19 | exact P20 | exact P21 | exact P22 | exact P23)) | (apply Part.flat; simp only [List.cons_append, List.nil_append]) | (apply Part.nilc))) ?_)
        rintro v post H' ⟨s3, rfl, rfl, hm3⟩ hH
        try simp only [List.cons_append, List.nil_append] at hH
        subst hH
        refine SPL_y (y_assign rfl) rfl ?_
        refine SPL_nil ?_
        refine thenP_n ?_
        refine SP_seq ?_
        have hm3' : isInst x (.pointer (some ⟨pb, 0, none⟩)) (.pointer (some ⟨kb, 0, none⟩)) (some ⟨bf, 0, none⟩) m1.pop.pop.i s3 := hm3
        have hm3k := hm3'
        obtain ⟨sa3, sc3, fc3, ss3, sf3, rfl, hst3, hfr3⟩ := hm3'
        refine SP_open (by first | exact P0 | exact P1 | exact P2 | exact P3 | exact P4 | exact P5 | exact P6 | exact P7 | exact P8 | exact P9 | exact P10 | exact P11 | exact P12 | exact P13 | exact P14 | exact P15 | exact P16 | exact P17 | exact P18 | exact P19 | exact P20 | exact P21 | exact P22 | exact P23) ?_
        simp only [List.cons_append, List.nil_append]
        refine SP_draw 10 [(0, 0), (1, 0), (2, 0), (4, 0), (6, 0), (7, 0), (9, 0), (3, 1), (5, 1), (8, 1), (10, 3), (11, 0)] mixed (by kernel_rfl) (fun _ _ _ _ _ h => h) (Part.refl _) ?_
        refine SPO_p rfl (y_move rfl) rfl ?_
        refine SPO_p rfl (y_nil rfl) rfl ?_
        refine SPO_p rfl (y_fa fld_93_1 rfl) rfl ?_
        refine SPO_p rfl (y_fa fld_181_0 rfl) rfl ?_
        refine SPO_p rfl (y_move rfl) rfl ?_
        refine SPO_p rfl (y_fa fld_181_1 rfl) rfl ?_
        refine SPO_p rfl (y_move rfl) rfl ?_
        refine SPO_h rfl (y_load Tryz.isAgg46 rfl (by repeat (first | exact Cell.head rfl | apply Cell.tail))) rfl ?_
        refine SPO_h rfl (y_load Tryz.isAgg3 rfl (by repeat (first | exact Cell.head rfl | apply Cell.tail))) rfl ?_
        refine SPO_h rfl (y_load Tryz.isAgg3 rfl (by repeat (first | exact Cell.head rfl | apply Cell.tail))) rfl ?_
        refine SPO_z (k := 0) rfl rfl (SP1_call (mach_Store kb m1.mem sk c.op (lst m1.i.st.dropLast).n c.imm (lst m1.i.st).n hk1) Tryz.call137 rfl rfl (by repeat (first | exact Part.nil _ | (apply Part.cons; (first | exact P0 | exact P1 | exact P2 | exact P3 | exact P4 | exact P5 | exact P6 | exact P7 | exact P8 | exact P9 | exact P10 | exact P11 | exact P12 | exact P13 | exact P14 | exact P15 | exact P16 | exact P17 | exact P18 | exact P19 | exact P20 | exact P21 | exact P22 | exact P23)) | (apply Part.flat; simp only [List.cons_append, List.nil_append]) | (apply Part.nilc))) ?_)
        rintro v post H' ⟨sk2, rfl, rfl, hk2⟩ hH
        try simp only [List.cons_append, List.nil_append] at hH
        subst hH
        refine SPO_p rfl (y_assign rfl) rfl ?_
        refine SPO_nil ?_
        refine thenP_n ?_
        refine SP_region ?_
        refine SPL_y (y_move rfl) rfl ?_
        refine SPL_y (y_eql rfl rfl) rfl ?_
        refine SPL_y (y_move rfl) rfl ?_
        refine SPL_one rfl (SP1_callp (run_need _ _) Tryz.call126 rfl rfl (by repeat (first | exact Part.nil _ | (apply Part.cons; (first | exact P0 | exact P1 | exact P2 | exact P3 | exact P4 | exact P5 | exact P6 | exact P7 | exact P8 | exact P9 | exact P10 | exact P11 | exact P12 | exact P13 | exact P14 | exact P15 | exact P16 | exact P17 | exact P18 | exact P19 | exact P20 | exact P21 | exact P22 | exact P23)) | (apply Part.flat; simp only [List.cons_append, List.nil_append]) | (apply Part.nilc))) ?_ ?_)
        · rintro c' post H' ⟨hok, rfl, rfl⟩ hH
          try simp only [List.cons_append, List.nil_append] at hH
          subst hH
          refine inBlockP_panic (thenP_panic (inBlockP_panic (thenP_panic (inBlockP_panic (noGotoP_panic (bodyP_panic (H' := [List.flatten [blk x 93 [(.pointer (some ⟨pb, 0, none⟩)), (.pointer (some ⟨kb, 0, none⟩)), .slice sa3 m1.pop.pop.i.st.length sc3, .slice (some ⟨bf, 0, none⟩) m1.i.fr.length fc3, I m1.i.used, I m1.i.high], ss3, sf3], sp1, sk2, sh]) (by repeat (first | exact Part.nil _ | (apply Part.cons; (first | exact P0 | exact P1 | exact P2 | exact P3 | exact P4 | exact P5 | exact P6 | exact P7 | exact P8 | exact P9 | exact P10 | exact P11 | exact P12 | exact P13 | exact P14 | exact P15 | exact P16 | exact P17 | exact P18 | exact P19 | exact P20 | exact P21 | exact P22 | exact P23)) | (apply Part.flat; simp only [List.cons_append, List.nil_append]) | (apply Part.nilc))) ?_))))))
          have he0 : ¬ (mstore m1.mem c.op (lst m1.i.st.dropLast).n c.imm (lst m1.i.st).n).2 = 0 := of_decide_eq_false hok
          exact ⟨m, ({ m1 with mem := (mstore m1.mem c.op (lst m1.i.st.dropLast).n c.imm (lst m1.i.st).n).1 } : VM), _, _, _, _, _, _, _, _, hg, by rw [hstep]; rw [exec_x25 (by omega)]; unfold VM.x25; exact if_neg he0, he0, rfl, rfl, hm3k, hp1, hk2, hh1⟩
        rintro v post H' ⟨hok, rfl, rfl⟩ hH
        try simp only [List.cons_append, List.nil_append] at hH
        subst hH
        have he0 : (mstore m1.mem c.op (lst m1.i.st.dropLast).n c.imm (lst m1.i.st).n).2 = 0 := of_decide_eq_true hok
        refine SPL_nil ?_
        refine inBlockP_n ?_
        refine thenP_n ?_
        have hx : m.step fuel = VM.next (({ m1 with mem := (mstore m1.mem c.op (lst m1.i.st.dropLast).n c.imm (lst m1.i.st).n).1 } : VM).pop.pop) := by rw [hstep]; rw [exec_x25 (by omega)]; unfold VM.x25; exact if_pos he0
        exact Mid.intro (⟨({ m1 with mem := (mstore m1.mem c.op (lst m1.i.st.dropLast).n c.imm (lst m1.i.st).n).1 } : VM).pop.pop, List.flatten [blk x 93 [(.pointer (some ⟨pb, 0, none⟩)), (.pointer (some ⟨kb, 0, none⟩)), .slice sa3 m1.pop.pop.i.st.length sc3, .slice (some ⟨bf, 0, none⟩) m1.pop.pop.i.fr.length fc3, I m1.pop.pop.i.used, I m1.pop.pop.i.high], ss3, sf3], _, _, _⟩ : VM × Seg × Seg × Seg × Seg) ⟨hx, hN, ⟨hpre.pc0, hpre.pc1⟩, hm3k, hp1, hk2, hh1, hhv⟩ (by repeat (first | exact Sub.nil _ | refine Sub.cons rfl ?_)) (by repeat (first | exact Part.nil _ | (apply Part.cons; (first | exact P0 | exact P1 | exact P2 | exact P3 | exact P4 | exact P5 | exact P6 | exact P7 | exact P8 | exact P9 | exact P10 | exact P11 | exact P12 | exact P13 | exact P14 | exact P15 | exact P16 | exact P17 | exact P18 | exact P19 | exact P20 | exact P21 | exact P22 | exact P23)) | (apply Part.flat; simp only [List.cons_append, List.nil_append]) | (apply Part.nilc)))
      intro h81_2
      refine SPL_nil ?_
      refine thenP_n ?_
      refine SP_cond_t rfl ?_
      refine SP_region ?_
      refine SPL_y (y_assign rfl) rfl ?_
      refine SPL_nil ?_
      refine thenP_n ?_
      refine SP_seq ?_
      have htt : (lst m1.i.st).t = 108 := by unfold W.t; rw [hw1, decide_eq_true h81_2]; rfl
      refine SP_region ?_
      refine SPL_y (y_move rfl) rfl ?_
      refine SPL_y (y_move rfl) rfl ?_
      refine SPL_one rfl (SP1_call ((by have := run_num x (.pointer (some ⟨pb, 0, none⟩)) (.pointer (some ⟨kb, 0, none⟩)) (some ⟨bf, 0, none⟩) m1.i s1 hm1 hN (by have := hpre.stl; have := hpre.fr4; exact ⟨by omega, by omega⟩) (lst m1.i.st) hokl m1.i.st.dropLast ((ht2.mono (by omega : 1 ≤ 2)).floor _ (ht2.mono (by omega : 1 ≤ 2)).len) (ht2.mono (by omega : 1 ≤ 2)).one; rw [htt] at this; exact this)) Tryz.call134 rfl rfl (by repeat (first | exact Part.nil _ | (apply Part.cons; (first | exact P0 | exact P1 | exact P2 | exact P3 | exact P4 | exact P5 | exact P6 | exact P7 | exact P8 | exact P9 | exact P10 | exact P11 | exact P12 | exact P13 | exact P14 | exact P15 | exact P16 | exact P17 | exact P18 | exact P19 | exact P20 | exact P21 | exact P22 | exact P23)) | (apply Part.flat; simp only [List.cons_append, List.nil_append]) | (apply Part.nilc))) ?_)
      rintro v post H' ⟨s2, rfl, rfl, hm2⟩ hH
      try simp only [List.cons_append, List.nil_append] at hH
      subst hH
      refine SPL_y (y_assign rfl) rfl ?_
      refine SPL_nil ?_
      refine thenP_n ?_
      refine SP_seq ?_
      refine SP_region ?_
      refine SPL_y (y_move rfl) rfl ?_
      refine SPL_one rfl (SP1_call (run_pop32 x (.pointer (some ⟨pb, 0, none⟩)) (.pointer (some ⟨kb, 0, none⟩)) (some ⟨bf, 0, none⟩) m1.pop.i s2 hm2 hN (by have := hpre.stl; have := hpre.fr4; refine ⟨?_, ?_⟩; (show m1.i.st.dropLast.length ≤ 1000000; rw [List.length_dropLast]; omega); (show m1.i.fr.length ≤ 1000000; omega)) (lst m1.i.st.dropLast).n m1.i.st.dropLast.dropLast (Top.floor (m := m1.pop) (n := 1) ht2.pop _ ht2.pop.len) (by have := Top.one (m := m1.pop) ht2.pop; rw [w_false (y := lst m1.pop.i.st) hw2] at this; exact this) (ok32 hw2 (hpre.pops _ (lst_mem (by have := ht2.pop.len; omega))))) Tryz.call129 rfl rfl (by repeat (first | exact Part.nil _ | (apply Part.cons; (first | exact P0 | exact P1 | exact P2 | exact P3 | exact P4 | exact P5 | exact P6 | exact P7 | exact P8 | exact P9 | exact P10 | exact P11 | exact P12 | exact P13 | exact P14 | exact P15 | exact P16 | exact P17 | exact P18 | exact P19 | exact P20 | exact P21 | exact P22 | exact P23)) | (apply Part.flat; simp only [List.cons_append, List.nil_append]) | (apply Part.nilc))) ?_)
      rintro v post H' ⟨s3, rfl, rfl, hm3⟩ hH
      try simp only [List.cons_append, List.nil_append] at hH
      subst hH
      refine SPL_y (y_assign rfl) rfl ?_
      refine SPL_nil ?_
      refine thenP_n ?_
      refine SP_seq ?_
      have hm3' : isInst x (.pointer (some ⟨pb, 0, none⟩)) (.pointer (some ⟨kb, 0, none⟩)) (some ⟨bf, 0, none⟩) m1.pop.pop.i s3 := hm3
      have hm3k := hm3'
      obtain ⟨sa3, sc3, fc3, ss3, sf3, rfl, hst3, hfr3⟩ := hm3'
      refine SP_open (by first | exact P0 | exact P1 | exact P2 | exact P3 | exact P4 | exact P5 | exact P6 | exact P7 | exact P8 | exact P9 | exact P10 | exact P11 | exact P12 | exact P13 | exact P14 | exact P15 | exact P16 | exact P17 | exact P18 | exact P19 | exact P20 | exact P21 | exact P22 | exact P23) ?_
      simp only [List.cons_append, List.nil_append]
      refine SP_draw 10 [(0, 0), (1, 0), (2, 0), (4, 0), (6, 0), (7, 0), (9, 0), (3, 1), (5, 1), (8, 1), (10, 3), (11, 0)] mixed (by kernel_rfl) (fun _ _ _ _ _ h => h) (Part.refl _) ?_
      refine SPO_p rfl (y_move rfl) rfl ?_
      refine SPO_p rfl (y_nil rfl) rfl ?_
      refine SPO_p rfl (y_fa fld_93_1 rfl) rfl ?_
      refine SPO_p rfl (y_fa fld_181_0 rfl) rfl ?_
      refine SPO_p rfl (y_move rfl) rfl ?_
      refine SPO_p rfl (y_fa fld_181_1 rfl) rfl ?_
      refine SPO_p rfl (y_move rfl) rfl ?_
      refine SPO_h rfl (y_load Tryz.isAgg46 rfl (by repeat (first | exact Cell.head rfl | apply Cell.tail))) rfl ?_
      refine SPO_h rfl (y_load Tryz.isAgg3 rfl (by repeat (first | exact Cell.head rfl | apply Cell.tail))) rfl ?_
      refine SPO_h rfl (y_load Tryz.isAgg3 rfl (by repeat (first | exact Cell.head rfl | apply Cell.tail))) rfl ?_
      refine SPO_z (k := 0) rfl rfl (SP1_call (mach_Store kb m1.mem sk c.op (lst m1.i.st.dropLast).n c.imm (lst m1.i.st).n hk1) Tryz.call137 rfl rfl (by repeat (first | exact Part.nil _ | (apply Part.cons; (first | exact P0 | exact P1 | exact P2 | exact P3 | exact P4 | exact P5 | exact P6 | exact P7 | exact P8 | exact P9 | exact P10 | exact P11 | exact P12 | exact P13 | exact P14 | exact P15 | exact P16 | exact P17 | exact P18 | exact P19 | exact P20 | exact P21 | exact P22 | exact P23)) | (apply Part.flat; simp only [List.cons_append, List.nil_append]) | (apply Part.nilc))) ?_)
      rintro v post H' ⟨sk2, rfl, rfl, hk2⟩ hH
      try simp only [List.cons_append, List.nil_append] at hH
      subst hH
      refine SPO_p rfl (y_assign rfl) rfl ?_
      refine SPO_nil ?_
      refine thenP_n ?_
      refine SP_region ?_
      refine SPL_y (y_move rfl) rfl ?_
      refine SPL_y (y_eql rfl rfl) rfl ?_
      refine SPL_y (y_move rfl) rfl ?_
      refine SPL_one rfl (SP1_callp (run_need _ _) Tryz.call126 rfl rfl (by repeat (first | exact Part.nil _ | (apply Part.cons; (first | exact P0 | exact P1 | exact P2 | exact P3 | exact P4 | exact P5 | exact P6 | exact P7 | exact P8 | exact P9 | exact P10 | exact P11 | exact P12 | exact P13 | exact P14 | exact P15 | exact P16 | exact P17 | exact P18 | exact P19 | exact P20 | exact P21 | exact P22 | exact P23)) | (apply Part.flat; simp only [List.cons_append, List.nil_append]) | (apply Part.nilc))) ?_ ?_)
      · rintro c' post H' ⟨hok, rfl, rfl⟩ hH
        try simp only [List.cons_append, List.nil_append] at hH
        subst hH
        refine inBlockP_panic (thenP_panic (inBlockP_panic (thenP_panic (inBlockP_panic (noGotoP_panic (bodyP_panic (H' := [List.flatten [blk x 93 [(.pointer (some ⟨pb, 0, none⟩)), (.pointer (some ⟨kb, 0, none⟩)), .slice sa3 m1.pop.pop.i.st.length sc3, .slice (some ⟨bf, 0, none⟩) m1.i.fr.length fc3, I m1.i.used, I m1.i.high], ss3, sf3], sp1, sk2, sh]) (by repeat (first | exact Part.nil _ | (apply Part.cons; (first | exact P0 | exact P1 | exact P2 | exact P3 | exact P4 | exact P5 | exact P6 | exact P7 | exact P8 | exact P9 | exact P10 | exact P11 | exact P12 | exact P13 | exact P14 | exact P15 | exact P16 | exact P17 | exact P18 | exact P19 | exact P20 | exact P21 | exact P22 | exact P23)) | (apply Part.flat; simp only [List.cons_append, List.nil_append]) | (apply Part.nilc))) ?_))))))
        have he0 : ¬ (mstore m1.mem c.op (lst m1.i.st.dropLast).n c.imm (lst m1.i.st).n).2 = 0 := of_decide_eq_false hok
        exact ⟨m, ({ m1 with mem := (mstore m1.mem c.op (lst m1.i.st.dropLast).n c.imm (lst m1.i.st).n).1 } : VM), _, _, _, _, _, _, _, _, hg, by rw [hstep]; rw [exec_x25 (by omega)]; unfold VM.x25; exact if_neg he0, he0, rfl, rfl, hm3k, hp1, hk2, hh1⟩
      rintro v post H' ⟨hok, rfl, rfl⟩ hH
      try simp only [List.cons_append, List.nil_append] at hH
      subst hH
      have he0 : (mstore m1.mem c.op (lst m1.i.st.dropLast).n c.imm (lst m1.i.st).n).2 = 0 := of_decide_eq_true hok
      refine SPL_nil ?_
      refine inBlockP_n ?_
      refine thenP_n ?_
      have hx : m.step fuel = VM.next (({ m1 with mem := (mstore m1.mem c.op (lst m1.i.st.dropLast).n c.imm (lst m1.i.st).n).1 } : VM).pop.pop) := by rw [hstep]; rw [exec_x25 (by omega)]; unfold VM.x25; exact if_pos he0
      exact Mid.intro (⟨({ m1 with mem := (mstore m1.mem c.op (lst m1.i.st.dropLast).n c.imm (lst m1.i.st).n).1 } : VM).pop.pop, List.flatten [blk x 93 [(.pointer (some ⟨pb, 0, none⟩)), (.pointer (some ⟨kb, 0, none⟩)), .slice sa3 m1.pop.pop.i.st.length sc3, .slice (some ⟨bf, 0, none⟩) m1.pop.pop.i.fr.length fc3, I m1.pop.pop.i.used, I m1.pop.pop.i.high], ss3, sf3], _, _, _⟩ : VM × Seg × Seg × Seg × Seg) ⟨hx, hN, ⟨hpre.pc0, hpre.pc1⟩, hm3k, hp1, hk2, hh1, hhv⟩ (by repeat (first | exact Sub.nil _ | refine Sub.cons rfl ?_)) (by repeat (first | exact Part.nil _ | (apply Part.cons; (first | exact P0 | exact P1 | exact P2 | exact P3 | exact P4 | exact P5 | exact P6 | exact P7 | exact P8 | exact P9 | exact P10 | exact P11 | exact P12 | exact P13 | exact P14 | exact P15 | exact P16 | exact P17 | exact P18 | exact P19 | exact P20 | exact P21 | exact P22 | exact P23)) | (apply Part.flat; simp only [List.cons_append, List.nil_append]) | (apply Part.nilc)))
    intro h77_0
    refine SPL_y (y_assign rfl) rfl ?_
    refine SPL_nil ?_
    refine thenP_n ?_
    refine SP_cond_f rfl ?_
    refine SP_seq ?_
    refine SP_region ?_
    refine SPL_if (y_eql rfl rfl) rfl ?_ ?_
    · intro h78_0
      refine SPL_y (y_assign rfl) rfl ?_
      refine SPL_nil ?_
      refine thenP_n ?_
      refine SP_cond_t rfl ?_
      refine SP_skip ?_
      refine thenP_n ?_
      refine SP_cond_t rfl ?_
      refine SP_seq ?_
      obtain ⟨ht2, hw1, hw2⟩ := hpo.p25 (by omega)
      have hl1 := (ht2.mono (by omega : 1 ≤ 2)).len
      have hokl := hpre.ok _ (lst_mem (show 0 < m1.i.st.length by omega))
      refine SP_region ?_
      refine SPL_y (y_assign rfl) rfl ?_
      refine SPL_nil ?_
      refine thenP_n ?_
      refine SP_seq ?_
      refine SP_seq ?_
      refine SP_region ?_
      refine SPL_y (y_fa fld_181_0 rfl) rfl ?_
      refine SPL_y (y_load Tryz.isAgg3 rfl (by repeat (first | exact Cell.head rfl | apply Cell.tail))) rfl ?_
      refine SPL_ifn (y_eql rfl rfl) rfl ?_ ?_
      · intro h81_2
        refine SPL_nil ?_
        refine thenP_n ?_
        refine SP_cond_f rfl ?_
        refine SP_skip ?_
        refine thenP_n ?_
        refine SP_seq ?_
        have htt : (lst m1.i.st).t = 105 := by unfold W.t; rw [hw1, decide_eq_false h81_2]; rfl
        refine SP_region ?_
        refine SPL_y (y_move rfl) rfl ?_
        refine SPL_y (y_move rfl) rfl ?_
        refine SPL_one rfl (SP1_call ((by have := run_num x (.pointer (some ⟨pb, 0, none⟩)) (.pointer (some ⟨kb, 0, none⟩)) (some ⟨bf, 0, none⟩) m1.i s1 hm1 hN (by have := hpre.stl; have := hpre.fr4; exact ⟨by omega, by omega⟩) (lst m1.i.st) hokl m1.i.st.dropLast ((ht2.mono (by omega : 1 ≤ 2)).floor _ (ht2.mono (by omega : 1 ≤ 2)).len) (ht2.mono (by omega : 1 ≤ 2)).one; rw [htt] at this; exact this)) Tryz.call134 rfl rfl (by repeat (first | exact Part.nil _ | (apply Part.cons; (first | exact P0 | exact P1 | exact P2 | exact P3 | exact P4 | exact P5 | exact P6 | exact P7 | exact P8 | exact P9 | exact P10 | exact P11 | exact P12 | exact P13 | exact P14 | exact P15 | exact P16 | exact P17 | exact P18 | exact P19 | exact P20 | exact P21 | exact P22 | exact P23)) | (apply Part.flat; simp only [List.cons_append, List.nil_append]) | (apply Part.nilc))) ?_)
        rintro v post H' ⟨s2, rfl, rfl, hm2⟩ hH
        try simp only [List.cons_append, List.nil_append] at hH
        subst hH
        refine SPL_y (y_assign rfl) rfl ?_
        refine SPL_nil ?_
        refine thenP_n ?_
        refine SP_seq ?_
        refine SP_region ?_
        refine SPL_y (y_move rfl) rfl ?_
        refine SPL_one rfl (SP1_call (run_pop32 x (.pointer (some ⟨pb, 0, none⟩)) (.pointer (some ⟨kb, 0, none⟩)) (some ⟨bf, 0, none⟩) m1.pop.i s2 hm2 hN (by have := hpre.stl; have := hpre.fr4; refine ⟨?_, ?_⟩; (show m1.i.st.dropLast.length ≤ 1000000; rw [List.length_dropLast]; omega); (show m1.i.fr.length ≤ 1000000; omega)) (lst m1.i.st.dropLast).n m1.i.st.dropLast.dropLast (Top.floor (m := m1.pop) (n := 1) ht2.pop _ ht2.pop.len) (by have := Top.one (m := m1.pop) ht2.pop; rw [w_false (y := lst m1.pop.i.st) hw2] at this; exact this) (ok32 hw2 (hpre.pops _ (lst_mem (by have := ht2.pop.len; omega))))) Tryz.call129 rfl rfl (by repeat (first | exact Part.nil _ | (apply Part.cons; (first | exact P0 | exact P1 | exact P2 | exact P3 | exact P4 | exact P5 | exact P6 | exact P7 | exact P8 | exact P9 | exact P10 | exact P11 | exact P12 | exact P13 | exact P14 | exact P15 | exact P16 | exact P17 | exact P18 | exact P19 | exact P20 | exact P21 | exact P22 | exact P23)) | (apply Part.flat; simp only [List.cons_append, List.nil_append]) | (apply Part.nilc))) ?_)
        rintro v post H' ⟨s3, rfl, rfl, hm3⟩ hH
        try simp only [List.cons_append, List.nil_append] at hH
        subst hH
        refine SPL_y (y_assign rfl) rfl ?_
        refine SPL_nil ?_
        refine thenP_n ?_
        refine SP_seq ?_
        have hm3' : isInst x (.pointer (some ⟨pb, 0, none⟩)) (.pointer (some ⟨kb, 0, none⟩)) (some ⟨bf, 0, none⟩) m1.pop.pop.i s3 := hm3
        have hm3k := hm3'
        obtain ⟨sa3, sc3, fc3, ss3, sf3, rfl, hst3, hfr3⟩ := hm3'
        refine SP_open (by first | exact P0 | exact P1 | exact P2 | exact P3 | exact P4 | exact P5 | exact P6 | exact P7 | exact P8 | exact P9 | exact P10 | exact P11 | exact P12 | exact P13 | exact P14 | exact P15 | exact P16 | exact P17 | exact P18 | exact P19 | exact P20 | exact P21 | exact P22 | exact P23) ?_
        simp only [List.cons_append, List.nil_append]
        refine SP_draw 10 [(0, 0), (1, 0), (2, 0), (4, 0), (6, 0), (7, 0), (9, 0), (3, 1), (5, 1), (8, 1), (10, 3), (11, 0)] mixed (by kernel_rfl) (fun _ _ _ _ _ h => h) (Part.refl _) ?_
        refine SPO_p rfl (y_move rfl) rfl ?_
        refine SPO_p rfl (y_nil rfl) rfl ?_
        refine SPO_p rfl (y_fa fld_93_1 rfl) rfl ?_
        refine SPO_p rfl (y_fa fld_181_0 rfl) rfl ?_
        refine SPO_p rfl (y_move rfl) rfl ?_
        refine SPO_p rfl (y_fa fld_181_1 rfl) rfl ?_
        refine SPO_p rfl (y_move rfl) rfl ?_
        refine SPO_h rfl (y_load Tryz.isAgg46 rfl (by repeat (first | exact Cell.head rfl | apply Cell.tail))) rfl ?_
        refine SPO_h rfl (y_load Tryz.isAgg3 rfl (by repeat (first | exact Cell.head rfl | apply Cell.tail))) rfl ?_
        refine SPO_h rfl (y_load Tryz.isAgg3 rfl (by repeat (first | exact Cell.head rfl | apply Cell.tail))) rfl ?_
        refine SPO_z (k := 0) rfl rfl (SP1_call (mach_Store kb m1.mem sk c.op (lst m1.i.st.dropLast).n c.imm (lst m1.i.st).n hk1) Tryz.call137 rfl rfl (by repeat (first | exact Part.nil _ | (apply Part.cons; (first | exact P0 | exact P1 | exact P2 | exact P3 | exact P4 | exact P5 | exact P6 | exact P7 | exact P8 | exact P9 | exact P10 | exact P11 | exact P12 | exact P13 | exact P14 | exact P15 | exact P16 | exact P17 | exact P18 | exact P19 | exact P20 | exact P21 | exact P22 | exact P23)) | (apply Part.flat; simp only [List.cons_append, List.nil_append]) | (apply Part.nilc))) ?_)
        rintro v post H' ⟨sk2, rfl, rfl, hk2⟩ hH
        try simp only [List.cons_append, List.nil_append] at hH
        subst hH
        refine SPO_p rfl (y_assign rfl) rfl ?_
        refine SPO_nil ?_
        refine thenP_n ?_
        refine SP_region ?_
        refine SPL_y (y_move rfl) rfl ?_
        refine SPL_y (y_eql rfl rfl) rfl ?_
        refine SPL_y (y_move rfl) rfl ?_
        refine SPL_one rfl (SP1_callp (run_need _ _) Tryz.call126 rfl rfl (by repeat (first | exact Part.nil _ | (apply Part.cons; (first | exact P0 | exact P1 | exact P2 | exact P3 | exact P4 | exact P5 | exact P6 | exact P7 | exact P8 | exact P9 | exact P10 | exact P11 | exact P12 | exact P13 | exact P14 | exact P15 | exact P16 | exact P17 | exact P18 | exact P19 | exact P20 | exact P21 | exact P22 | exact P23)) | (apply Part.flat; simp only [List.cons_append, List.nil_append]) | (apply Part.nilc))) ?_ ?_)
        · rintro c' post H' ⟨hok, rfl, rfl⟩ hH
          try simp only [List.cons_append, List.nil_append] at hH
          subst hH
          refine inBlockP_panic (thenP_panic (inBlockP_panic (thenP_panic (inBlockP_panic (noGotoP_panic (bodyP_panic (H' := [List.flatten [blk x 93 [(.pointer (some ⟨pb, 0, none⟩)), (.pointer (some ⟨kb, 0, none⟩)), .slice sa3 m1.pop.pop.i.st.length sc3, .slice (some ⟨bf, 0, none⟩) m1.i.fr.length fc3, I m1.i.used, I m1.i.high], ss3, sf3], sp1, sk2, sh]) (by repeat (first | exact Part.nil _ | (apply Part.cons; (first | exact P0 | exact P1 | exact P2 | exact P3 | exact P4 | exact P5 | exact P6 | exact P7 | exact P8 | exact P9 | exact P10 | exact P11 | exact P12 | exact P13 | exact P14 | exact P15 | exact P16 | exact P17 | exact P18 | exact P19 | exact P20 | exact P21 | exact P22 | exact P23)) | (apply Part.flat; simp only [List.cons_append, List.nil_append]) | (apply Part.nilc))) ?_))))))
          have he0 : ¬ (mstore m1.mem c.op (lst m1.i.st.dropLast).n c.imm (lst m1.i.st).n).2 = 0 := of_decide_eq_false hok
          exact ⟨m, ({ m1 with mem := (mstore m1.mem c.op (lst m1.i.st.dropLast).n c.imm (lst m1.i.st).n).1 } : VM), _, _, _, _, _, _, _, _, hg, by rw [hstep]; rw [exec_x25 (by omega)]; unfold VM.x25; exact if_neg he0, he0, rfl, rfl, hm3k, hp1, hk2, hh1⟩
        rintro v post H' ⟨hok, rfl, rfl⟩ hH
        try simp only [List.cons_append, List.nil_append] at hH
        subst hH
        have he0 : (mstore m1.mem c.op (lst m1.i.st.dropLast).n c.imm (lst m1.i.st).n).2 = 0 := of_decide_eq_true hok
        refine SPL_nil ?_
        refine inBlockP_n ?_
        refine thenP_n ?_
        have hx : m.step fuel = VM.next (({ m1 with mem := (mstore m1.mem c.op (lst m1.i.st.dropLast).n c.imm (lst m1.i.st).n).1 } : VM).pop.pop) := by rw [hstep]; rw [exec_x25 (by omega)]; unfold VM.x25; exact if_pos he0
        exact Mid.intro (⟨({ m1 with mem := (mstore m1.mem c.op (lst m1.i.st.dropLast).n c.imm (lst m1.i.st).n).1 } : VM).pop.pop, List.flatten [blk x 93 [(.pointer (some ⟨pb, 0, none⟩)), (.pointer (some ⟨kb, 0, none⟩)), .slice sa3 m1.pop.pop.i.st.length sc3, .slice (some ⟨bf, 0, none⟩) m1.pop.pop.i.fr.length fc3, I m1.pop.pop.i.used, I m1.pop.pop.i.high], ss3, sf3], _, _, _⟩ : VM × Seg × Seg × Seg × Seg) ⟨hx, hN, ⟨hpre.pc0, hpre.pc1⟩, hm3k, hp1, hk2, hh1, hhv⟩ (by repeat (first | exact Sub.nil _ | refine Sub.cons rfl ?_)) (by repeat (first | exact Part.nil _ | (apply Part.cons; (first | exact P0 | exact P1 | exact P2 | exact P3 | exact P4 | exact P5 | exact P6 | exact P7 | exact P8 | exact P9 | exact P10 | exact P11 | exact P12 | exact P13 | exact P14 | exact P15 | exact P16 | exact P17 | exact P18 | exact P19 | exact P20 | exact P21 | exact P22 | exact P23)) | (apply Part.flat; simp only [List.cons_append, List.nil_append]) | (apply Part.nilc)))
      intro h81_2
      refine SPL_nil ?_
      refine thenP_n ?_
      refine SP_cond_t rfl ?_
      refine SP_region ?_
      refine SPL_y (y_assign rfl) rfl ?_
      refine SPL_nil ?_
      refine thenP_n ?_
      refine SP_seq ?_
      have htt : (lst m1.i.st).t = 108 := by unfold W.t; rw [hw1, decide_eq_true h81_2]; rfl
      refine SP_region ?_
      refine SPL_y (y_move rfl) rfl ?_
      refine SPL_y (y_move rfl) rfl ?_
      refine SPL_one rfl (SP1_call ((by have := run_num x (.pointer (some ⟨pb, 0, none⟩)) (.pointer (some ⟨kb, 0, none⟩)) (some ⟨bf, 0, none⟩) m1.i s1 hm1 hN (by have := hpre.stl; have := hpre.fr4; exact ⟨by omega, by omega⟩) (lst m1.i.st) hokl m1.i.st.dropLast ((ht2.mono (by omega : 1 ≤ 2)).floor _ (ht2.mono (by omega : 1 ≤ 2)).len) (ht2.mono (by omega : 1 ≤ 2)).one; rw [htt] at this; exact this)) Tryz.call134 rfl rfl (by repeat (first | exact Part.nil _ | (apply Part.cons; (first | exact P0 | exact P1 | exact P2 | exact P3 | exact P4 | exact P5 | exact P6 | exact P7 | exact P8 | exact P9 | exact P10 | exact P11 | exact P12 | exact P13 | exact P14 | exact P15 | exact P16 | exact P17 | exact P18 | exact P19 | exact P20 | exact P21 | exact P22 | exact P23)) | (apply Part.flat; simp only [List.cons_append, List.nil_append]) | (apply Part.nilc))) ?_)
      rintro v post H' ⟨s2, rfl, rfl, hm2⟩ hH
      try simp only [List.cons_append, List.nil_append] at hH
      subst hH
      refine SPL_y (y_assign rfl) rfl ?_
      refine SPL_nil ?_
      refine thenP_n ?_
      refine SP_seq ?_
      refine SP_region ?_
      refine SPL_y (y_move rfl) rfl ?_
      refine SPL_one rfl (SP1_call (run_pop32 x (.pointer (some ⟨pb, 0, none⟩)) (.pointer (some ⟨kb, 0, none⟩)) (some ⟨bf, 0, none⟩) m1.pop.i s2 hm2 hN (by have := hpre.stl; have := hpre.fr4; refine ⟨?_, ?_⟩; (show m1.i.st.dropLast.length ≤ 1000000; rw [List.length_dropLast]; omega); (show m1.i.fr.length ≤ 1000000; omega)) (lst m1.i.st.dropLast).n m1.i.st.dropLast.dropLast (Top.floor (m := m1.pop) (n := 1) ht2.pop _ ht2.pop.len) (by have := Top.one (m := m1.pop) ht2.pop; rw [w_false (y := lst m1.pop.i.st) hw2] at this; exact this) (ok32 hw2 (hpre.pops _ (lst_mem (by have := ht2.pop.len; omega))))) Tryz.call129 rfl rfl (by repeat (first | exact Part.nil _ | (apply Part.cons; (first | exact P0 | exact P1 | exact P2 | exact P3 | exact P4 | exact P5 | exact P6 | exact P7 | exact P8 | exact P9 | exact P10 | exact P11 | exact P12 | exact P13 | exact P14 | exact P15 | exact P16 | exact P17 | exact P18 | exact P19 | exact P20 | exact P21 | exact P22 | exact P23)) | (apply Part.flat; simp only [List.cons_append, List.nil_append]) | (apply Part.nilc))) ?_)
      rintro v post H' ⟨s3, rfl, rfl, hm3⟩ hH
      try simp only [List.cons_append, List.nil_append] at hH
      subst hH
      refine SPL_y (y_assign rfl) rfl ?_
      refine SPL_nil ?_
      refine thenP_n ?_
      refine SP_seq ?_
      have hm3' : isInst x (.pointer (some ⟨pb, 0, none⟩)) (.pointer (some ⟨kb, 0, none⟩)) (some ⟨bf, 0, none⟩) m1.pop.pop.i s3 := hm3
      have hm3k := hm3'
      obtain ⟨sa3, sc3, fc3, ss3, sf3, rfl, hst3, hfr3⟩ := hm3'
      refine SP_open (by first | exact P0 | exact P1 | exact P2 | exact P3 | exact P4 | exact P5 | exact P6 | exact P7 | exact P8 | exact P9 | exact P10 | exact P11 | exact P12 | exact P13 | exact P14 | exact P15 | exact P16 | exact P17 | exact P18 | exact P19 | exact P20 | exact P21 | exact P22 | exact P23) ?_
      simp only [List.cons_append, List.nil_append]
      refine SP_draw 10 [(0, 0), (1, 0), (2, 0), (4, 0), (6, 0), (7, 0), (9, 0), (3, 1), (5, 1), (8, 1), (10, 3), (11, 0)] mixed (by kernel_rfl) (fun _ _ _ _ _ h => h) (Part.refl _) ?_
      refine SPO_p rfl (y_move rfl) rfl ?_
      refine SPO_p rfl (y_nil rfl) rfl ?_
      refine SPO_p rfl (y_fa fld_93_1 rfl) rfl ?_
      refine SPO_p rfl (y_fa fld_181_0 rfl) rfl ?_
      refine SPO_p rfl (y_move rfl) rfl ?_
      refine SPO_p rfl (y_fa fld_181_1 rfl) rfl ?_
      refine SPO_p rfl (y_move rfl) rfl ?_
      refine SPO_h rfl (y_load Tryz.isAgg46 rfl (by repeat (first | exact Cell.head rfl | apply Cell.tail))) rfl ?_
      refine SPO_h rfl (y_load Tryz.isAgg3 rfl (by repeat (first | exact Cell.head rfl | apply Cell.tail))) rfl ?_
      refine SPO_h rfl (y_load Tryz.isAgg3 rfl (by repeat (first | exact Cell.head rfl | apply Cell.tail))) rfl ?_
      refine SPO_z (k := 0) rfl rfl (SP1_call (mach_Store kb m1.mem sk c.op (lst m1.i.st.dropLast).n c.imm (lst m1.i.st).n hk1) Tryz.call137 rfl rfl (by repeat (first | exact Part.nil _ | (apply Part.cons; (first | exact P0 | exact P1 | exact P2 | exact P3 | exact P4 | exact P5 | exact P6 | exact P7 | exact P8 | exact P9 | exact P10 | exact P11 | exact P12 | exact P13 | exact P14 | exact P15 | exact P16 | exact P17 | exact P18 | exact P19 | exact P20 | exact P21 | exact P22 | exact P23)) | (apply Part.flat; simp only [List.cons_append, List.nil_append]) | (apply Part.nilc))) ?_)
      rintro v post H' ⟨sk2, rfl, rfl, hk2⟩ hH
      try simp only [List.cons_append, List.nil_append] at hH
      subst hH
      refine SPO_p rfl (y_assign rfl) rfl ?_
      refine SPO_nil ?_
      refine thenP_n ?_
      refine SP_region ?_
      refine SPL_y (y_move rfl) rfl ?_
      refine SPL_y (y_eql rfl rfl) rfl ?_
      refine SPL_y (y_move rfl) rfl ?_
      refine SPL_one rfl (SP1_callp (run_need _ _) Tryz.call126 rfl rfl (by repeat (first | exact Part.nil _ | (apply Part.cons; (first | exact P0 | exact P1 | exact P2 | exact P3 | exact P4 | exact P5 | exact P6 | exact P7 | exact P8 | exact P9 | exact P10 | exact P11 | exact P12 | exact P13 | exact P14 | exact P15 | exact P16 | exact P17 | exact P18 | exact P19 | exact P20 | exact P21 | exact P22 | exact P23)) | (apply Part.flat; simp only [List.cons_append, List.nil_append]) | (apply Part.nilc))) ?_ ?_)
      · rintro c' post H' ⟨hok, rfl, rfl⟩ hH
        try simp only [List.cons_append, List.nil_append] at hH
        subst hH
        refine inBlockP_panic (thenP_panic (inBlockP_panic (thenP_panic (inBlockP_panic (noGotoP_panic (bodyP_panic (H' := [List.flatten [blk x 93 [(.pointer (some ⟨pb, 0, none⟩)), (.pointer (some ⟨kb, 0, none⟩)), .slice sa3 m1.pop.pop.i.st.length sc3, .slice (some ⟨bf, 0, none⟩) m1.i.fr.length fc3, I m1.i.used, I m1.i.high], ss3, sf3], sp1, sk2, sh]) (by repeat (first | exact Part.nil _ | (apply Part.cons; (first | exact P0 | exact P1 | exact P2 | exact P3 | exact P4 | exact P5 | exact P6 | exact P7 | exact P8 | exact P9 | exact P10 | exact P11 | exact P12 | exact P13 | exact P14 | exact P15 | exact P16 | exact P17 | exact P18 | exact P19 | exact P20 | exact P21 | exact P22 | exact P23)) | (apply Part.flat; simp only [List.cons_append, List.nil_append]) | (apply Part.nilc))) ?_))))))
        have he0 : ¬ (mstore m1.mem c.op (lst m1.i.st.dropLast).n c.imm (lst m1.i.st).n).2 = 0 := of_decide_eq_false hok
        exact ⟨m, ({ m1 with mem := (mstore m1.mem c.op (lst m1.i.st.dropLast).n c.imm (lst m1.i.st).n).1 } : VM), _, _, _, _, _, _, _, _, hg, by rw [hstep]; rw [exec_x25 (by omega)]; unfold VM.x25; exact if_neg he0, he0, rfl, rfl, hm3k, hp1, hk2, hh1⟩
      rintro v post H' ⟨hok, rfl, rfl⟩ hH
      try simp only [List.cons_append, List.nil_append] at hH
      subst hH
      have he0 : (mstore m1.mem c.op (lst m1.i.st.dropLast).n c.imm (lst m1.i.st).n).2 = 0 := of_decide_eq_true hok
      refine SPL_nil ?_
      refine inBlockP_n ?_
      refine thenP_n ?_
      have hx : m.step fuel = VM.next (({ m1 with mem := (mstore m1.mem c.op (lst m1.i.st.dropLast).n c.imm (lst m1.i.st).n).1 } : VM).pop.pop) := by rw [hstep]; rw [exec_x25 (by omega)]; unfold VM.x25; exact if_pos he0
      exact Mid.intro (⟨({ m1 with mem := (mstore m1.mem c.op (lst m1.i.st.dropLast).n c.imm (lst m1.i.st).n).1 } : VM).pop.pop, List.flatten [blk x 93 [(.pointer (some ⟨pb, 0, none⟩)), (.pointer (some ⟨kb, 0, none⟩)), .slice sa3 m1.pop.pop.i.st.length sc3, .slice (some ⟨bf, 0, none⟩) m1.pop.pop.i.fr.length fc3, I m1.pop.pop.i.used, I m1.pop.pop.i.high], ss3, sf3], _, _, _⟩ : VM × Seg × Seg × Seg × Seg) ⟨hx, hN, ⟨hpre.pc0, hpre.pc1⟩, hm3k, hp1, hk2, hh1, hhv⟩ (by repeat (first | exact Sub.nil _ | refine Sub.cons rfl ?_)) (by repeat (first | exact Part.nil _ | (apply Part.cons; (first | exact P0 | exact P1 | exact P2 | exact P3 | exact P4 | exact P5 | exact P6 | exact P7 | exact P8 | exact P9 | exact P10 | exact P11 | exact P12 | exact P13 | exact P14 | exact P15 | exact P16 | exact P17 | exact P18 | exact P19 | exact P20 | exact P21 | exact P22 | exact P23)) | (apply Part.flat; simp only [List.cons_append, List.nil_append]) | (apply Part.nilc)))
    intro h78_0
    refine SPL_y (y_assign rfl) rfl ?_
    refine SPL_nil ?_
    refine thenP_n ?_
    refine SP_cond_f rfl ?_
    refine SP_region ?_
    refine SPL_ifn (y_eql rfl rfl) rfl ?_ ?_
    · intro h79_0
      refine SPL_y (y_assign rfl) rfl ?_
      refine SPL_nil ?_
      refine thenP_n ?_
      refine SP_cond_f rfl ?_
      have hnal : ¬ (0 ≤ c.op ∧ c.op ≤ 28) := by have := hpo.pno; omega
      refine SP_region ?_
      refine SPL_y (y_move rfl) rfl ?_
      refine SPL_y (y_fa fld_181_0 rfl) rfl ?_
      refine SPL_y (y_load Tryz.isAgg3 rfl (by repeat (first | exact Cell.head rfl | apply Cell.tail))) rfl ?_
      refine SPL_one rfl (SP1_callp (run_alu x pb kb bf m1 s1 hm1 hpre c hpo hnal) Tryz.call138 rfl rfl (by repeat (first | exact Part.nil _ | (apply Part.cons; (first | exact P0 | exact P1 | exact P2 | exact P3 | exact P4 | exact P5 | exact P6 | exact P7 | exact P8 | exact P9 | exact P10 | exact P11 | exact P12 | exact P13 | exact P14 | exact P15 | exact P16 | exact P17 | exact P18 | exact P19 | exact P20 | exact P21 | exact P22 | exact P23)) | (apply Part.flat; simp only [List.cons_append, List.nil_append]) | (apply Part.nilc))) ?_ ?_)
      · rintro c' post H' ⟨e, st9, s2, hne, rfl, rfl, hm2, hx2⟩ hH
        try simp only [List.cons_append, List.nil_append] at hH
        subst hH
        refine inBlockP_panic (thenP_panic (inBlockP_panic (thenP_panic (inBlockP_panic (noGotoP_panic (bodyP_panic (H' := [s2, sp1, sk, sh]) (by repeat (first | exact Part.nil _ | (apply Part.cons; (first | exact P0 | exact P1 | exact P2 | exact P3 | exact P4 | exact P5 | exact P6 | exact P7 | exact P8 | exact P9 | exact P10 | exact P11 | exact P12 | exact P13 | exact P14 | exact P15 | exact P16 | exact P17 | exact P18 | exact P19 | exact P20 | exact P21 | exact P22 | exact P23)) | (apply Part.flat; simp only [List.cons_append, List.nil_append]) | (apply Part.nilc))) ?_))))))
        exact ⟨m, m1, e, _, _, _, _, _, _, _, hg, by rw [hstep]; exact hx2, hne, rfl, rfl, hm2, hp1, hk1, hh1⟩
      rintro v post H' ⟨y, s2, rfl, rfl, hm2, hx2⟩ hH
      try simp only [List.cons_append, List.nil_append] at hH
      subst hH
      refine SPL_nil ?_
      refine inBlockP_n ?_
      refine thenP_n ?_
      have hx : m.step fuel = VM.next (if aluBin c.op = true then m1.pop.pop.push y else m1.pop.push y) := by rw [hstep]; exact hx2
      by_cases hab : aluBin c.op = true
      · rw [if_pos hab] at hx hm2
        exact Mid.intro (⟨m1.pop.pop.push y, s2, _, _, _⟩ : VM × Seg × Seg × Seg × Seg) ⟨hx, hN, ⟨hpre.pc0, hpre.pc1⟩, hm2, hp1, hk1, hh1, hhv⟩ (by repeat (first | exact Sub.nil _ | refine Sub.cons rfl ?_)) (by repeat (first | exact Part.nil _ | (apply Part.cons; (first | exact P0 | exact P1 | exact P2 | exact P3 | exact P4 | exact P5 | exact P6 | exact P7 | exact P8 | exact P9 | exact P10 | exact P11 | exact P12 | exact P13 | exact P14 | exact P15 | exact P16 | exact P17 | exact P18 | exact P19 | exact P20 | exact P21 | exact P22 | exact P23)) | (apply Part.flat; simp only [List.cons_append, List.nil_append]) | (apply Part.nilc)))
      · rw [if_neg hab] at hx hm2
        exact Mid.intro (⟨m1.pop.push y, s2, _, _, _⟩ : VM × Seg × Seg × Seg × Seg) ⟨hx, hN, ⟨hpre.pc0, hpre.pc1⟩, hm2, hp1, hk1, hh1, hhv⟩ (by repeat (first | exact Sub.nil _ | refine Sub.cons rfl ?_)) (by repeat (first | exact Part.nil _ | (apply Part.cons; (first | exact P0 | exact P1 | exact P2 | exact P3 | exact P4 | exact P5 | exact P6 | exact P7 | exact P8 | exact P9 | exact P10 | exact P11 | exact P12 | exact P13 | exact P14 | exact P15 | exact P16 | exact P17 | exact P18 | exact P19 | exact P20 | exact P21 | exact P22 | exact P23)) | (apply Part.flat; simp only [List.cons_append, List.nil_append]) | (apply Part.nilc)))
    intro h79_0
    refine SPL_y (y_assign rfl) rfl ?_
    refine SPL_nil ?_
    refine thenP_n ?_
    refine SP_cond_t rfl ?_
    refine SP_seq ?_
    obtain ⟨ht2, hw1, hw2⟩ := hpo.p25 (by omega)
    have hl1 := (ht2.mono (by omega : 1 ≤ 2)).len
    have hokl := hpre.ok _ (lst_mem (show 0 < m1.i.st.length by omega))
    refine SP_region ?_
    refine SPL_y (y_assign rfl) rfl ?_
    refine SPL_nil ?_
    refine thenP_n ?_
    refine SP_seq ?_
    refine SP_seq ?_
    refine SP_region ?_
    refine SPL_y (y_fa fld_181_0 rfl) rfl ?_
    refine SPL_y (y_load Tryz.isAgg3 rfl (by repeat (first | exact Cell.head rfl | apply Cell.tail))) rfl ?_
    refine SPL_ifn (y_eql rfl rfl) rfl ?_ ?_
    · intro h81_2
      refine SPL_nil ?_
      refine thenP_n ?_
      refine SP_cond_f rfl ?_
      refine SP_skip ?_
      refine thenP_n ?_
      refine SP_seq ?_
      have htt : (lst m1.i.st).t = 105 := by unfold W.t; rw [hw1, decide_eq_false h81_2]; rfl
      refine SP_region ?_
      refine SPL_y (y_move rfl) rfl ?_
      refine SPL_y (y_move rfl) rfl ?_
      refine SPL_one rfl (SP1_call ((by have := run_num x (.pointer (some ⟨pb, 0, none⟩)) (.pointer (some ⟨kb, 0, none⟩)) (some ⟨bf, 0, none⟩) m1.i s1 hm1 hN (by have := hpre.stl; have := hpre.fr4; exact ⟨by omega, by omega⟩) (lst m1.i.st) hokl m1.i.st.dropLast ((ht2.mono (by omega : 1 ≤ 2)).floor _ (ht2.mono (by omega : 1 ≤ 2)).len) (ht2.mono (by omega : 1 ≤ 2)).one; rw [htt] at this; exact this)) Tryz.call134 rfl rfl (by repeat (first | exact Part.nil _ | (apply Part.cons; (first | exact P0 | exact P1 | exact P2 | exact P3 | exact P4 | exact P5 | exact P6 | exact P7 | exact P8 | exact P9 | exact P10 | exact P11 | exact P12 | exact P13 | exact P14 | exact P15 | exact P16 | exact P17 | exact P18 | exact P19 | exact P20 | exact P21 | exact P22 | exact P23)) | (apply Part.flat; simp only [List.cons_append, List.nil_append]) | (apply Part.nilc))) ?_)
      rintro v post H' ⟨s2, rfl, rfl, hm2⟩ hH
      try simp only [List.cons_append, List.nil_append] at hH
      subst hH
      refine SPL_y (y_assign rfl) rfl ?_
      refine SPL_nil ?_
      refine thenP_n ?_
      refine SP_seq ?_
      refine SP_region ?_
      refine SPL_y (y_move rfl) rfl ?_
      refine SPL_one rfl (SP1_call (run_pop32 x (.pointer (some ⟨pb, 0, none⟩)) (.pointer (some ⟨kb, 0, none⟩)) (some ⟨bf, 0, none⟩) m1.pop.i s2 hm2 hN (by have := hpre.stl; have := hpre.fr4; refine ⟨?_, ?_⟩; (show m1.i.st.dropLast.length ≤ 1000000; rw [List.length_dropLast]; omega); (show m1.i.fr.length ≤ 1000000; omega)) (lst m1.i.st.dropLast).n m1.i.st.dropLast.dropLast (Top.floor (m := m1.pop) (n := 1) ht2.pop _ ht2.pop.len) (by have := Top.one (m := m1.pop) ht2.pop; rw [w_false (y := lst m1.pop.i.st) hw2] at this; exact this) (ok32 hw2 (hpre.pops _ (lst_mem (by have := ht2.pop.len; omega))))) Tryz.call129 rfl rfl (by repeat (first | exact Part.nil _ | (apply Part.cons; (first | exact P0 | exact P1 | exact P2 | exact P3 | exact P4 | exact P5 | exact P6 | exact P7 | exact P8 | exact P9 | exact P10 | exact P11 | exact P12 | exact P13 | exact P14 | exact P15 | exact P16 | exact P17 | exact P18 | exact P19 | exact P20 | exact P21 | exact P22 | exact P23)) | (apply Part.flat; simp only [List.cons_append, List.nil_append]) | (apply Part.nilc))) ?_)
      rintro v post H' ⟨s3, rfl, rfl, hm3⟩ hH
      try simp only [List.cons_append, List.nil_append] at hH
      subst hH
      refine SPL_y (y_assign rfl) rfl ?_
      refine SPL_nil ?_
      refine thenP_n ?_
      refine SP_seq ?_
      have hm3' : isInst x (.pointer (some ⟨pb, 0, none⟩)) (.pointer (some ⟨kb, 0, none⟩)) (some ⟨bf, 0, none⟩) m1.pop.pop.i s3 := hm3
      have hm3k := hm3'
      obtain ⟨sa3, sc3, fc3, ss3, sf3, rfl, hst3, hfr3⟩ := hm3'
      refine SP_open (by first | exact P0 | exact P1 | exact P2 | exact P3 | exact P4 | exact P5 | exact P6 | exact P7 | exact P8 | exact P9 | exact P10 | exact P11 | exact P12 | exact P13 | exact P14 | exact P15 | exact P16 | exact P17 | exact P18 | exact P19 | exact P20 | exact P21 | exact P22 | exact P23) ?_
      simp only [List.cons_append, List.nil_append]
      refine SP_draw 10 [(0, 0), (1, 0), (2, 0), (4, 0), (6, 0), (7, 0), (9, 0), (3, 1), (5, 1), (8, 1), (10, 3), (11, 0)] mixed (by kernel_rfl) (fun _ _ _ _ _ h => h) (Part.refl _) ?_
      refine SPO_p rfl (y_move rfl) rfl ?_
      refine SPO_p rfl (y_nil rfl) rfl ?_
      refine SPO_p rfl (y_fa fld_93_1 rfl) rfl ?_
      refine SPO_p rfl (y_fa fld_181_0 rfl) rfl ?_
      refine SPO_p rfl (y_move rfl) rfl ?_
      refine SPO_p rfl (y_fa fld_181_1 rfl) rfl ?_
      refine SPO_p rfl (y_move rfl) rfl ?_
      refine SPO_h rfl (y_load Tryz.isAgg46 rfl (by repeat (first | exact Cell.head rfl | apply Cell.tail))) rfl ?_
      refine SPO_h rfl (y_load Tryz.isAgg3 rfl (by repeat (first | exact Cell.head rfl | apply Cell.tail))) rfl ?_
      refine SPO_h rfl (y_load Tryz.isAgg3 rfl (by repeat (first | exact Cell.head rfl | apply Cell.tail))) rfl ?_
      refine SPO_z (k := 0) rfl rfl (SP1_call (mach_Store kb m1.mem sk c.op (lst m1.i.st.dropLast).n c.imm (lst m1.i.st).n hk1) Tryz.call137 rfl rfl (by repeat (first | exact Part.nil _ | (apply Part.cons; (first | exact P0 | exact P1 | exact P2 | exact P3 | exact P4 | exact P5 | exact P6 | exact P7 | exact P8 | exact P9 | exact P10 | exact P11 | exact P12 | exact P13 | exact P14 | exact P15 | exact P16 | exact P17 | exact P18 | exact P19 | exact P20 | exact P21 | exact P22 | exact P23)) | (apply Part.flat; simp only [List.cons_append, List.nil_append]) | (apply Part.nilc))) ?_)
      rintro v post H' ⟨sk2, rfl, rfl, hk2⟩ hH
      try simp only [List.cons_append, List.nil_append] at hH
      subst hH
      refine SPO_p rfl (y_assign rfl) rfl ?_
      refine SPO_nil ?_
      refine thenP_n ?_
      refine SP_region ?_
      refine SPL_y (y_move rfl) rfl ?_
      refine SPL_y (y_eql rfl rfl) rfl ?_
      refine SPL_y (y_move rfl) rfl ?_
      refine SPL_one rfl (SP1_callp (run_need _ _) Tryz.call126 rfl rfl (by repeat (first | exact Part.nil _ | (apply Part.cons; (first | exact P0 | exact P1 | exact P2 | exact P3 | exact P4 | exact P5 | exact P6 | exact P7 | exact P8 | exact P9 | exact P10 | exact P11 | exact P12 | exact P13 | exact P14 | exact P15 | exact P16 | exact P17 | exact P18 | exact P19 | exact P20 | exact P21 | exact P22 | exact P23)) | (apply Part.flat; simp only [List.cons_append, List.nil_append]) | (apply Part.nilc))) ?_ ?_)
      · rintro c' post H' ⟨hok, rfl, rfl⟩ hH
        try simp only [List.cons_append, List.nil_append] at hH
        subst hH
        refine inBlockP_panic (thenP_panic (inBlockP_panic (thenP_panic (inBlockP_panic (noGotoP_panic (bodyP_panic (H' := [List.flatten [blk x 93 [(.pointer (some ⟨pb, 0, none⟩)), (.pointer (some ⟨kb, 0, none⟩)), .slice sa3 m1.pop.pop.i.st.length sc3, .slice (some ⟨bf, 0, none⟩) m1.i.fr.length fc3, I m1.i.used, I m1.i.high], ss3, sf3], sp1, sk2, sh]) (by repeat (first | exact Part.nil _ | (apply Part.cons; (first | exact P0 | exact P1 | exact P2 | exact P3 | exact P4 | exact P5 | exact P6 | exact P7 | exact P8 | exact P9 | exact P10 | exact P11 | exact P12 | exact P13 | exact P14 | exact P15 | exact P16 | exact P17 | exact P18 | exact P19 | exact P20 | exact P21 | exact P22 | exact P23)) | (apply Part.flat; simp only [List.cons_append, List.nil_append]) | (apply Part.nilc))) ?_))))))
        have he0 : ¬ (mstore m1.mem c.op (lst m1.i.st.dropLast).n c.imm (lst m1.i.st).n).2 = 0 := of_decide_eq_false hok
        exact ⟨m, ({ m1 with mem := (mstore m1.mem c.op (lst m1.i.st.dropLast).n c.imm (lst m1.i.st).n).1 } : VM), _, _, _, _, _, _, _, _, hg, by rw [hstep]; rw [exec_x25 (by omega)]; unfold VM.x25; exact if_neg he0, he0, rfl, rfl, hm3k, hp1, hk2, hh1⟩
      rintro v post H' ⟨hok, rfl, rfl⟩ hH
      try simp only [List.cons_append, List.nil_append] at hH
      subst hH
      have he0 : (mstore m1.mem c.op (lst m1.i.st.dropLast).n c.imm (lst m1.i.st).n).2 = 0 := of_decide_eq_true hok
      refine SPL_nil ?_
      refine inBlockP_n ?_
      refine thenP_n ?_
      have hx : m.step fuel = VM.next (({ m1 with mem := (mstore m1.mem c.op (lst m1.i.st.dropLast).n c.imm (lst m1.i.st).n).1 } : VM).pop.pop) := by rw [hstep]; rw [exec_x25 (by omega)]; unfold VM.x25; exact if_pos he0
      exact Mid.intro (⟨({ m1 with mem := (mstore m1.mem c.op (lst m1.i.st.dropLast).n c.imm (lst m1.i.st).n).1 } : VM).pop.pop, List.flatten [blk x 93 [(.pointer (some ⟨pb, 0, none⟩)), (.pointer (some ⟨kb, 0, none⟩)), .slice sa3 m1.pop.pop.i.st.length sc3, .slice (some ⟨bf, 0, none⟩) m1.pop.pop.i.fr.length fc3, I m1.pop.pop.i.used, I m1.pop.pop.i.high], ss3, sf3], _, _, _⟩ : VM × Seg × Seg × Seg × Seg) ⟨hx, hN, ⟨hpre.pc0, hpre.pc1⟩, hm3k, hp1, hk2, hh1, hhv⟩ (by repeat (first | exact Sub.nil _ | refine Sub.cons rfl ?_)) (by repeat (first | exact Part.nil _ | (apply Part.cons; (first | exact P0 | exact P1 | exact P2 | exact P3 | exact P4 | exact P5 | exact P6 | exact P7 | exact P8 | exact P9 | exact P10 | exact P11 | exact P12 | exact P13 | exact P14 | exact P15 | exact P16 | exact P17 | exact P18 | exact P19 | exact P20 | exact P21 | exact P22 | exact P23)) | (apply Part.flat; simp only [List.cons_append, List.nil_append]) | (apply Part.nilc)))
    intro h81_2
    refine SPL_nil ?_
    refine thenP_n ?_
    refine SP_cond_t rfl ?_
    refine SP_region ?_
    refine SPL_y (y_assign rfl) rfl ?_
    refine SPL_nil ?_
    refine thenP_n ?_
    refine SP_seq ?_
    have htt : (lst m1.i.st).t = 108 := by unfold W.t; rw [hw1, decide_eq_true h81_2]; rfl
    refine SP_region ?_
    refine SPL_y (y_move rfl) rfl ?_
    refine SPL_y (y_move rfl) rfl ?_
    refine SPL_one rfl (SP1_call ((by have := run_num x (.pointer (some ⟨pb, 0, none⟩)) (.pointer (some ⟨kb, 0, none⟩)) (some ⟨bf, 0, none⟩) m1.i s1 hm1 hN (by have := hpre.stl; have := hpre.fr4; exact ⟨by omega, by omega⟩) (lst m1.i.st) hokl m1.i.st.dropLast ((ht2.mono (by omega : 1 ≤ 2)).floor _ (ht2.mono (by omega : 1 ≤ 2)).len) (ht2.mono (by omega : 1 ≤ 2)).one; rw [htt] at this; exact this)) Tryz.call134 rfl rfl (by repeat (first | exact Part.nil _ | (apply Part.cons; (first | exact P0 | exact P1 | exact P2 | exact P3 | exact P4 | exact P5 | exact P6 | exact P7 | exact P8 | exact P9 | exact P10 | exact P11 | exact P12 | exact P13 | exact P14 | exact P15 | exact P16 | exact P17 | exact P18 | exact P19 | exact P20 | exact P21 | exact P22 | exact P23)) | (apply Part.flat; simp only [List.cons_append, List.nil_append]) | (apply Part.nilc))) ?_)
    rintro v post H' ⟨s2, rfl, rfl, hm2⟩ hH
    try simp only [List.cons_append, List.nil_append] at hH
    subst hH
    refine SPL_y (y_assign rfl) rfl ?_
    refine SPL_nil ?_
    refine thenP_n ?_
    refine SP_seq ?_
    refine SP_region ?_
    refine SPL_y (y_move rfl) rfl ?_
    refine SPL_one rfl (SP1_call (run_pop32 x (.pointer (some ⟨pb, 0, none⟩)) (.pointer (some ⟨kb, 0, none⟩)) (some ⟨bf, 0, none⟩) m1.pop.i s2 hm2 hN (by have := hpre.stl; have := hpre.fr4; refine ⟨?_, ?_⟩; (show m1.i.st.dropLast.length ≤ 1000000; rw [List.length_dropLast]; omega); (show m1.i.fr.length ≤ 1000000; omega)) (lst m1.i.st.dropLast).n m1.i.st.dropLast.dropLast (Top.floor (m := m1.pop) (n := 1) ht2.pop _ ht2.pop.len) (by have := Top.one (m := m1.pop) ht2.pop; rw [w_false (y := lst m1.pop.i.st) hw2] at this; exact this) (ok32 hw2 (hpre.pops _ (lst_mem (by have := ht2.pop.len; omega))))) Tryz.call129 rfl rfl (by repeat (first | exact Part.nil _ | (apply Part.cons; (first | exact P0 | exact P1 | exact P2 | exact P3 | exact P4 | exact P5 | exact P6 | exact P7 | exact P8 | exact P9 | exact P10 | exact P11 | exact P12 | exact P13 | exact P14 | exact P15 | exact P16 | exact P17 | exact P18 | exact P19 | exact P20 | exact P21 | exact P22 | exact P23)) | (apply Part.flat; simp only [List.cons_append, List.nil_append]) | (apply Part.nilc))) ?_)
    rintro v post H' ⟨s3, rfl, rfl, hm3⟩ hH
    try simp only [List.cons_append, List.nil_append] at hH
    subst hH
    refine SPL_y (y_assign rfl) rfl ?_
    refine SPL_nil ?_
    refine thenP_n ?_
    refine SP_seq ?_
    have hm3' : isInst x (.pointer (some ⟨pb, 0, none⟩)) (.pointer (some ⟨kb, 0, none⟩)) (some ⟨bf, 0, none⟩) m1.pop.pop.i s3 := hm3
    have hm3k := hm3'
    obtain ⟨sa3, sc3, fc3, ss3, sf3, rfl, hst3, hfr3⟩ := hm3'
    refine SP_open (by first | exact P0 | exact P1 | exact P2 | exact P3 | exact P4 | exact P5 | exact P6 | exact P7 | exact P8 | exact P9 | exact P10 | exact P11 | exact P12 | exact P13 | exact P14 | exact P15 | exact P16 | exact P17 | exact P18 | exact P19 | exact P20 | exact P21 | exact P22 | exact P23) ?_
    simp only [List.cons_append, List.nil_append]
    refine SP_draw 10 [(0, 0), (1, 0), (2, 0), (4, 0), (6, 0), (7, 0), (9, 0), (3, 1), (5, 1), (8, 1), (10, 3), (11, 0)] mixed (by kernel_rfl) (fun _ _ _ _ _ h => h) (Part.refl _) ?_
    refine SPO_p rfl (y_move rfl) rfl ?_
    refine SPO_p rfl (y_nil rfl) rfl ?_
    refine SPO_p rfl (y_fa fld_93_1 rfl) rfl ?_
    refine SPO_p rfl (y_fa fld_181_0 rfl) rfl ?_
    refine SPO_p rfl (y_move rfl) rfl ?_
    refine SPO_p rfl (y_fa fld_181_1 rfl) rfl ?_
    refine SPO_p rfl (y_move rfl) rfl ?_
    refine SPO_h rfl (y_load Tryz.isAgg46 rfl (by repeat (first | exact Cell.head rfl | apply Cell.tail))) rfl ?_
    refine SPO_h rfl (y_load Tryz.isAgg3 rfl (by repeat (first | exact Cell.head rfl | apply Cell.tail))) rfl ?_
    refine SPO_h rfl (y_load Tryz.isAgg3 rfl (by repeat (first | exact Cell.head rfl | apply Cell.tail))) rfl ?_
    refine SPO_z (k := 0) rfl rfl (SP1_call (mach_Store kb m1.mem sk c.op (lst m1.i.st.dropLast).n c.imm (lst m1.i.st).n hk1) Tryz.call137 rfl rfl (by repeat (first | exact Part.nil _ | (apply Part.cons; (first | exact P0 | exact P1 | exact P2 | exact P3 | exact P4 | exact P5 | exact P6 | exact P7 | exact P8 | exact P9 | exact P10 | exact P11 | exact P12 | exact P13 | exact P14 | exact P15 | exact P16 | exact P17 | exact P18 | exact P19 | exact P20 | exact P21 | exact P22 | exact P23)) | (apply Part.flat; simp only [List.cons_append, List.nil_append]) | (apply Part.nilc))) ?_)
    rintro v post H' ⟨sk2, rfl, rfl, hk2⟩ hH
    try simp only [List.cons_append, List.nil_append] at hH
    subst hH
    refine SPO_p rfl (y_assign rfl) rfl ?_
    refine SPO_nil ?_
    refine thenP_n ?_
    refine SP_region ?_
    refine SPL_y (y_move rfl) rfl ?_
    refine SPL_y (y_eql rfl rfl) rfl ?_
    refine SPL_y (y_move rfl) rfl ?_
    refine SPL_one rfl (SP1_callp (run_need _ _) Tryz.call126 rfl rfl (by repeat (first | exact Part.nil _ | (apply Part.cons; (first | exact P0 | exact P1 | exact P2 | exact P3 | exact P4 | exact P5 | exact P6 | exact P7 | exact P8 | exact P9 | exact P10 | exact P11 | exact P12 | exact P13 | exact P14 | exact P15 | exact P16 | exact P17 | exact P18 | exact P19 | exact P20 | exact P21 | exact P22 | exact P23)) | (apply Part.flat; simp only [List.cons_append, List.nil_append]) | (apply Part.nilc))) ?_ ?_)
    · rintro c' post H' ⟨hok, rfl, rfl⟩ hH
      try simp only [List.cons_append, List.nil_append] at hH
      subst hH
      refine inBlockP_panic (thenP_panic (inBlockP_panic (thenP_panic (inBlockP_panic (noGotoP_panic (bodyP_panic (H' := [List.flatten [blk x 93 [(.pointer (some ⟨pb, 0, none⟩)), (.pointer (some ⟨kb, 0, none⟩)), .slice sa3 m1.pop.pop.i.st.length sc3, .slice (some ⟨bf, 0, none⟩) m1.i.fr.length fc3, I m1.i.used, I m1.i.high], ss3, sf3], sp1, sk2, sh]) (by repeat (first | exact Part.nil _ | (apply Part.cons; (first | exact P0 | exact P1 | exact P2 | exact P3 | exact P4 | exact P5 | exact P6 | exact P7 | exact P8 | exact P9 | exact P10 | exact P11 | exact P12 | exact P13 | exact P14 | exact P15 | exact P16 | exact P17 | exact P18 | exact P19 | exact P20 | exact P21 | exact P22 | exact P23)) | (apply Part.flat; simp only [List.cons_append, List.nil_append]) | (apply Part.nilc))) ?_))))))
      have he0 : ¬ (mstore m1.mem c.op (lst m1.i.st.dropLast).n c.imm (lst m1.i.st).n).2 = 0 := of_decide_eq_false hok
      exact ⟨m, ({ m1 with mem := (mstore m1.mem c.op (lst m1.i.st.dropLast).n c.imm (lst m1.i.st).n).1 } : VM), _, _, _, _, _, _, _, _, hg, by rw [hstep]; rw [exec_x25 (by omega)]; unfold VM.x25; exact if_neg he0, he0, rfl, rfl, hm3k, hp1, hk2, hh1⟩
    rintro v post H' ⟨hok, rfl, rfl⟩ hH
    try simp only [List.cons_append, List.nil_append] at hH
    subst hH
    have he0 : (mstore m1.mem c.op (lst m1.i.st.dropLast).n c.imm (lst m1.i.st).n).2 = 0 := of_decide_eq_true hok
    refine SPL_nil ?_
    refine inBlockP_n ?_
    refine thenP_n ?_
    have hx : m.step fuel = VM.next (({ m1 with mem := (mstore m1.mem c.op (lst m1.i.st.dropLast).n c.imm (lst m1.i.st).n).1 } : VM).pop.pop) := by rw [hstep]; rw [exec_x25 (by omega)]; unfold VM.x25; exact if_pos he0
    exact Mid.intro (⟨({ m1 with mem := (mstore m1.mem c.op (lst m1.i.st.dropLast).n c.imm (lst m1.i.st).n).1 } : VM).pop.pop, List.flatten [blk x 93 [(.pointer (some ⟨pb, 0, none⟩)), (.pointer (some ⟨kb, 0, none⟩)), .slice sa3 m1.pop.pop.i.st.length sc3, .slice (some ⟨bf, 0, none⟩) m1.pop.pop.i.fr.length fc3, I m1.pop.pop.i.used, I m1.pop.pop.i.high], ss3, sf3], _, _, _⟩ : VM × Seg × Seg × Seg × Seg) ⟨hx, hN, ⟨hpre.pc0, hpre.pc1⟩, hm3k, hp1, hk2, hh1, hhv⟩ (by repeat (first | exact Sub.nil _ | refine Sub.cons rfl ?_)) (by repeat (first | exact Part.nil _ | (apply Part.cons; (first | exact P0 | exact P1 | exact P2 | exact P3 | exact P4 | exact P5 | exact P6 | exact P7 | exact P8 | exact P9 | exact P10 | exact P11 | exact P12 | exact P13 | exact P14 | exact P15 | exact P16 | exact P17 | exact P18 | exact P19 | exact P20 | exact P21 | exact P22 | exact P23)) | (apply Part.flat; simp only [List.cons_append, List.nil_append]) | (apply Part.nilc)))
  clear hm1 hp1 hk1 hh1
  rintro ⟨m2, s2, sp2, sk2, sh2⟩ ⟨hstep, hN2, hpc2, hm2, hp2, hk2, hh2, hhv2⟩
  dsimp only at hstep hN2 hpc2 hm2 hp2 hk2 hh2 hhv2 ⊢
  have hm2k := hm2
  obtain ⟨sa6, sc6, fc6, ss6, sf6, rfl, hst6, hfr6⟩ := hm2
  refine SP_open (by first | exact P0 | exact P1 | exact P2 | exact P3 | exact P4 | exact P5 | exact P6 | exact P7 | exact P8 | exact P9 | exact P10 | exact P11 | exact P12 | exact P13 | exact P14 | exact P15 | exact P16 | exact P17 | exact P18 | exact P19 | exact P20 | exact P21 | exact P22 | exact P23) ?_
  simp only [List.cons_append, List.nil_append]
  obtain ⟨bf', spf6, hbf6, hfc6, hspf6, rfl⟩ := hfr6.row hN2
  obtain rfl : bf = bf' := by simpa using hbf6
  clear hbf6
  refine SP_region ?_
  refine SPL_y (y_move rfl) rfl ?_
  refine SPL_y (y_nil rfl) rfl ?_
  refine SPL_y (y_fa fld_257_1 rfl) rfl ?_
  refine SPL_y (y_load Tryz.isAgg3 rfl (by repeat (first | exact Cell.elem (q := 1) frV_len (i := m2.i.fr.length - 1) (by omega) (by omega) (by rw [← itop_eq (by omega)]; rfl) | apply Cell.tail))) rfl ?_
  refine SPL_y (y_add rfl rfl (by omega)) rfl ?_
  refine SPL_y (y_nil rfl) rfl ?_
  refine SPL_y (y_fa fld_257_1 rfl) rfl ?_
  refine SPL_one rfl (SP1_store Tryz.sizeOf3 rfl rfl rfl (by first | exact U0 | exact U1 | exact U2 | exact U3 | exact U4 | exact U5 | exact U6 | exact U7 | exact U8 | exact U9 | exact U10 | exact U11 | exact U12 | exact U13 | exact U14 | exact U15 | exact U16 | exact U17 | exact U18 | exact U19 | exact U20 | exact U21 | exact U22 | exact U23) (ble_row (fc := 0) (i := m2.i) hN2 (by decide)) ?_)
  refine SPL_nil ?_
  refine inBlockP_n ?_
  refine thenP_n ?_
  have hx : m.step fuel = (m2.setPc (m2.i.top.pc + 1), none) := by rw [hstep]; rfl
  have hx2 := hS m _ hg hx
  exact Again.intro (⟨m2.setPc (m2.i.top.pc + 1), (some ⟨bf, 0, none⟩), List.flatten [blk x 93 [(.pointer (some ⟨pb, 0, none⟩)), (.pointer (some ⟨kb, 0, none⟩)), .slice sa6 m2.i.st.length sc6, .slice (some ⟨bf, 0, none⟩) m2.i.fr.length fc6, I m2.i.used, I m2.i.high], ss6, blk bf 257 ((m2.i.fr.flatMap frV ++ spf6).set (0 + ((m2.i.fr.length : Int) - 1).toNat * 5 + 1) (I (m2.i.top.pc + 1)))], _, _, _⟩ : VM × Option Addr × Seg × Seg × Seg × Seg) (⟨hx2.1, pc_inst (i := m2.i) hN2 hst6 hfc6 hspf6, hp2, hk2, hh2, hhv2⟩) hx2.2 (by repeat (first | exact Sub.nil _ | refine Sub.cons rfl ?_)) (by repeat (first | exact Part.nil _ | (apply Part.cons; (first | exact P0 | exact P1 | exact P2 | exact P3 | exact P4 | exact P5 | exact P6 | exact P7 | exact P8 | exact P9 | exact P10 | exact P11 | exact P12 | exact P13 | exact P14 | exact P15 | exact P16 | exact P17 | exact P18 | exact P19 | exact P20 | exact P21 | exact P22 | exact P23)) | (apply Part.flat; simp only [List.cons_append, List.nil_append]) | (apply Part.nilc)))

end Go.Sl
