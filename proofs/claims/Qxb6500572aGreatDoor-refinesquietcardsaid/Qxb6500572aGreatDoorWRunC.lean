/- Walks: package run, cut (made by program out of short notes) -/
import Derived.Test.Qxb6500572aGreatDoorWRunB
import Derived.Test.Qxb6500572aGreatDoorSlR
namespace Go.Sl
open Go Go.Wl Go.Proofs
set_option maxRecDepth 100000
set_option linter.unusedVariables false
set_option linter.unusedSimpArgs false
theorem y_leqT {P : Program} {n : Nat} {ρ : Env} {H : Hp} {ty t u : TypeId} {x y : Operand} {k : IntKind} {a b : Int} (hx : ev ρ x = some (.int k a)) (hy : ev ρ y = some (.int k b)) (h : a ≤ b) : Yo P n (.binOp .leq t x y u) ty ρ H (.bool true) := by
  have := y_leq (P := P) (n := n) (t := t) (u := u) (ty := ty) (H := H) hx hy
  rwa [decide_eq_true h] at this

theorem cut_src {st a mid kp : List W} {sps : List Value} {o : Nat} (h : st = a ++ mid ++ kp) (ho : o = a.length + mid.length) : ((st.map W.v ++ sps).drop o).take (kp.map W.v).length = kp.map W.v := by
  subst h ho
  have e : (a ++ mid ++ kp).map W.v ++ sps = (a ++ mid).map W.v ++ (kp.map W.v ++ sps) := by simp
  rw [e, show a.length + mid.length = ((a ++ mid).map W.v).length by simp, List.drop_left, List.take_left]
theorem cut_dst {st a mid kp : List W} {sps : List Value} (h : st = a ++ mid ++ kp) : (st.map W.v ++ sps).take a.length ++ kp.map W.v ++ (st.map W.v ++ sps).drop (a.length + kp.length) = (a ++ kp).map W.v ++ (st.map W.v ++ sps).drop (a.length + kp.length) := by
  congr 1
  subst h
  rw [List.map_append, List.map_append, List.append_assoc, List.append_assoc, List.take_append_of_le_length (by simp), List.take_of_length_le (by simp), List.map_append]

theorem run_cutG (x : Nat) (pv kv : Value) (fa : Option Addr) (i : Inst) (bs sc fc : Nat) (sps : List Value) (sf : Seg) (hsc : i.st.length ≤ sc) (hsps : sps.length = (sc - i.st.length) * 1) (hfr : Arr 257 5 fa i.fr.length fc (i.fr.flatMap frV) sf) (hz : i.st.length ≤ 1000000 ∧ i.fr.length ≤ 1000000) (a mid kp : List W) (hst0 : i.st = a ++ mid ++ kp) (hlt : a.length < sc) (hlt2 : a.length + mid.length < sc) : Spec Tryz.prog 146 [.pointer (some ⟨x, 0, none⟩), I a.length, I kp.length] [blk x 93 [pv, kv, .slice (some ⟨bs, 0, none⟩) i.st.length sc, .slice fa i.fr.length fc, I i.used, I i.high], blk bs 209 (i.st.map W.v ++ sps), sf] (Ret fun v H => ∃ s', v = .tuple #[] ∧ H = [s'] ∧ isInst x pv kv fa { i with st := a ++ kp } s') := by
  have hsl : i.st.length = a.length + mid.length + kp.length := by rw [hst0]; simp; omega
  have hst : Arr 209 1 (some ⟨bs, 0, none⟩) i.st.length sc (i.st.map W.v) (blk bs 209 (i.st.map W.v ++ sps)) := Arr.mk (by simp) hsc hsps
  refine Spec_enter Tryz.func146 rfl Tryz.ntmps146 rfl ?_
  show SP _ _ _ _ _ [(0, _), (1, _), (2, _)] _
  refine SP_seq ?_
  refine SP_region ?_
  refine SPL_y (y_move rfl) rfl ?_
  refine SPL_y (y_geqT rfl rfl (by omega)) rfl ?_
  refine SPL_y (y_move rfl) rfl ?_
  refine SPL_gy rfl rfl ?_
  refine SPL_y (y_move rfl) rfl ?_
  refine SPL_gy rfl rfl ?_
  refine SPL_y (y_geqT rfl rfl (by omega)) rfl ?_
  refine SPL_y (y_pick_t rfl rfl) rfl ?_
  refine SPL_y (y_move rfl) rfl ?_
  refine SPL_gy rfl rfl ?_
  refine SPL_y (y_move rfl) rfl ?_
  refine SPL_gy rfl rfl ?_
  refine SPL_y (y_move rfl) rfl ?_
  refine SPL_gy rfl rfl ?_
  refine SPL_y (y_nil rfl) rfl ?_
  refine SPL_gy rfl rfl ?_
  refine SPL_y (y_fa fld_93_2 rfl) rfl ?_
  refine SPL_gy rfl rfl ?_
  refine SPL_y (y_load Tryz.isAgg90 rfl (by repeat (first | exact Cell.head rfl | apply Cell.tail))) rfl ?_
  refine SPL_gy rfl rfl ?_
  refine SPL_y (y_len_l Tryz.underlying90 rfl) rfl ?_
  refine SPL_gy rfl rfl ?_
  refine SPL_y (y_move rfl) rfl ?_
  refine SPL_gy rfl rfl ?_
  refine SPL_y (y_sub rfl rfl (by omega)) rfl ?_
  refine SPL_gy rfl rfl ?_
  refine SPL_y (y_leqT rfl rfl (by omega)) rfl ?_
  refine SPL_y (y_pick_t rfl rfl) rfl ?_
  refine SPL_one rfl (SP1_call (run_needT 10) Tryz.call126 rfl rfl (by repeat (first | exact Part.nil _ | (apply Part.cons; (first | exact P0 | exact P1 | exact P2 | exact P3 | exact P4 | exact P5 | exact P6 | exact P7 | exact P8 | exact P9 | exact P10 | exact P11 | exact P12 | exact P13 | exact P14 | exact P15 | exact P16 | exact P17 | exact P18 | exact P19 | exact P20 | exact P21 | exact P22 | exact P23)) | (apply Part.flat; simp only [List.cons_append, List.nil_append]) | (apply Part.nilc))) ?_)
  rintro v post H' ⟨rfl, rfl⟩ hH
  try simp only [List.cons_append, List.nil_append] at hH
  subst hH
  refine SPL_nil ?_
  refine thenP_n ?_
  refine SP_seq ?_
  refine SP_draw 18 [(0, 0), (1, 0), (2, 0), (4, 0), (6, 0), (7, 0), (8, 0), (10, 0), (11, 0), (12, 0), (15, 0), (3, 1), (5, 0), (9, 1), (13, 1), (14, 0), (16, 0), (17, 0), (18, 3)] mixed (by kernel_rfl) (fun _ _ _ _ _ h => h) (Part.refl _) ?_
  refine SPO_p rfl (y_move rfl) rfl ?_
  refine SPO_p rfl (y_nil rfl) rfl ?_
  refine SPO_p rfl (y_fa fld_93_2 rfl) rfl ?_
  refine SPO_p rfl (y_move rfl) rfl ?_
  refine SPO_p rfl (y_move rfl) rfl ?_
  refine SPO_p rfl (y_nil rfl) rfl ?_
  refine SPO_p rfl (y_fa fld_93_2 rfl) rfl ?_
  refine SPO_p rfl (y_move rfl) rfl ?_
  refine SPO_p rfl (y_nil rfl) rfl ?_
  refine SPO_p rfl (y_fa fld_93_2 rfl) rfl ?_
  refine SPO_p rfl (y_move rfl) rfl ?_
  refine SPO_h rfl (y_load Tryz.isAgg90 rfl (by repeat (first | exact Cell.head rfl | apply Cell.tail))) rfl ?_
  refine SPO_p rfl (y_from_lt Tryz.underlying90 Tryz.sizeOf209 rfl rfl (by omega)) rfl ?_
  refine SPO_h rfl (y_load Tryz.isAgg90 rfl (by repeat (first | exact Cell.head rfl | apply Cell.tail))) rfl ?_
  refine SPO_h rfl (y_load Tryz.isAgg90 rfl (by repeat (first | exact Cell.head rfl | apply Cell.tail))) rfl ?_
  refine SPO_p rfl (y_len_l Tryz.underlying90 rfl) rfl ?_
  refine SPO_p rfl (y_sub rfl rfl (by omega)) rfl ?_
  refine SPO_p rfl (y_from_lt Tryz.underlying90 Tryz.sizeOf209 rfl rfl (by omega)) rfl ?_
  refine SPO_z (k := 0) rfl rfl (SP1_copy el_90 rfl rfl (Src.slice (k := 1) (vs := kp.map W.v) (by simp; omega) (by repeat (first | exact Cells.head (cut_src hst0 (by omega)) | apply Cells.tail))) (by simp [W.v]; intro y hy; split <;> rfl) (by first | exact U0 | exact U1 | exact U2 | exact U3 | exact U4 | exact U5 | exact U6 | exact U7 | exact U8 | exact U9 | exact U10 | exact U11 | exact U12 | exact U13 | exact U14 | exact U15 | exact U16 | exact U17 | exact U18 | exact U19 | exact U20 | exact U21 | exact U22 | exact U23) (by simp; omega) (l' := (a ++ kp).map W.v ++ ((i.st.map W.v ++ sps).drop (a.length + kp.length))) (by rw [show min (i.st.length - ((i.st.length : Int) - (kp.length : Int)).toNat) (i.st.length - ((a.length : Nat) : Int).toNat) * 1 = kp.length by omega, show 0 + ((a.length : Nat) : Int).toNat * 1 = a.length by omega, List.take_of_length_le (l := kp.map W.v) (by simp), cut_dst hst0]) rfl ?_)
  refine SPO_nil ?_
  refine thenP_n ?_
  refine SP_region ?_
  refine SPL_y (y_move rfl) rfl ?_
  refine SPL_y (y_move rfl) rfl ?_
  refine SPL_y (y_nil rfl) rfl ?_
  refine SPL_y (y_fa fld_93_2 rfl) rfl ?_
  refine SPL_y (y_load Tryz.isAgg90 rfl (by repeat (first | exact Cell.head rfl | apply Cell.tail))) rfl ?_
  refine SPL_y (y_move rfl) rfl ?_
  refine SPL_y (y_move rfl) rfl ?_
  refine SPL_y (y_add rfl rfl (by omega)) rfl ?_
  refine SPL_y (y_cut hst Tryz.underlying90 Tryz.sizeOf209 rfl rfl (by omega)) rfl ?_
  refine SPL_y (y_nil rfl) rfl ?_
  refine SPL_y (y_fa fld_93_2 rfl) rfl ?_
  refine SPL_one rfl (SP1_store Tryz.sizeOf90 rfl rfl rfl (by first | exact U0 | exact U1 | exact U2 | exact U3 | exact U4 | exact U5 | exact U6 | exact U7 | exact U8 | exact U9 | exact U10 | exact U11 | exact U12 | exact U13 | exact U14 | exact U15 | exact U16 | exact U17 | exact U18 | exact U19 | exact U20 | exact U21 | exact U22 | exact U23) (by rfl) ?_)
  refine SPL_nil ?_
  refine bodyP_end (H' := [List.flatten [blk x 93 [pv, kv, .slice (some ⟨bs, 0, none⟩) (((a.length : Nat) : Int) + ((kp.length : Nat) : Int)).toNat sc, .slice fa i.fr.length fc, I i.used, I i.high], blk bs 209 ((a ++ kp).map W.v ++ ((i.st.map W.v ++ sps).drop (a.length + kp.length))), sf]]) (Res0 rfl) (by repeat (first | exact Part.nil _ | (apply Part.cons; (first | exact P0 | exact P1 | exact P2 | exact P3 | exact P4 | exact P5 | exact P6 | exact P7 | exact P8 | exact P9 | exact P10 | exact P11 | exact P12 | exact P13 | exact P14 | exact P15 | exact P16 | exact P17 | exact P18 | exact P19 | exact P20 | exact P21 | exact P22 | exact P23)) | (apply Part.flat; simp only [List.cons_append, List.nil_append]) | (apply Part.nilc))) ?_
  have e : (((a.length : Nat) : Int) + ((kp.length : Nat) : Int)).toNat = (a ++ kp).length := by simp; omega
  refine ⟨_, rfl, rfl, _, sc, fc, _, _, by rw [e], Arr.mk (by simp) (by simp; omega) (by simp; omega), hfr⟩

theorem run_cut0 (x : Nat) (pv kv : Value) (fa : Option Addr) (i : Inst) (s : Seg) (hm : isInst x pv kv fa i s) (hz : i.st.length ≤ 1000000 ∧ i.fr.length ≤ 1000000) (a mid : List W) (hst0 : i.st = a ++ mid) : Spec Tryz.prog 146 [.pointer (some ⟨x, 0, none⟩), I a.length, I 0] [s] (Ret fun v H => ∃ s', v = .tuple #[] ∧ H = [s'] ∧ isInst x pv kv fa { i with st := a } s') := by
  obtain ⟨sa, sc, fc, ss, sf, rfl, hst, hfr⟩ := hm
  refine Spec_flat ?_
  simp only [List.cons_append, List.nil_append]
  have hsl : i.st.length = a.length + mid.length := by rw [hst0]; simp
  have hcap : i.st.length ≤ sc := by rcases hst.2 with ⟨_, h1, h2, _⟩ | ⟨_, _, _, h1, _⟩ <;> omega
  refine Spec_enter Tryz.func146 rfl Tryz.ntmps146 rfl ?_
  show SP _ _ _ _ _ [(0, _), (1, _), (2, _)] _
  refine SP_seq ?_
  refine SP_region ?_
  refine SPL_y (y_move rfl) rfl ?_
  refine SPL_y (y_geqT rfl rfl (by omega)) rfl ?_
  refine SPL_y (y_move rfl) rfl ?_
  refine SPL_gy rfl rfl ?_
  refine SPL_y (y_move rfl) rfl ?_
  refine SPL_gy rfl rfl ?_
  refine SPL_y (y_geqT rfl rfl (by decide)) rfl ?_
  refine SPL_y (y_pick_t rfl rfl) rfl ?_
  refine SPL_y (y_move rfl) rfl ?_
  refine SPL_gy rfl rfl ?_
  refine SPL_y (y_move rfl) rfl ?_
  refine SPL_gy rfl rfl ?_
  refine SPL_y (y_move rfl) rfl ?_
  refine SPL_gy rfl rfl ?_
  refine SPL_y (y_nil rfl) rfl ?_
  refine SPL_gy rfl rfl ?_
  refine SPL_y (y_fa fld_93_2 rfl) rfl ?_
  refine SPL_gy rfl rfl ?_
  refine SPL_y (y_load Tryz.isAgg90 rfl (by repeat (first | exact Cell.head rfl | apply Cell.tail))) rfl ?_
  refine SPL_gy rfl rfl ?_
  refine SPL_y (y_len_l Tryz.underlying90 rfl) rfl ?_
  refine SPL_gy rfl rfl ?_
  refine SPL_y (y_move rfl) rfl ?_
  refine SPL_gy rfl rfl ?_
  refine SPL_y (y_sub rfl rfl (by omega)) rfl ?_
  refine SPL_gy rfl rfl ?_
  refine SPL_y (y_leqT rfl rfl (by omega)) rfl ?_
  refine SPL_y (y_pick_t rfl rfl) rfl ?_
  refine SPL_one rfl (SP1_call (run_needT 10) Tryz.call126 rfl rfl (by repeat (first | exact Part.nil _ | (apply Part.cons; (first | exact P0 | exact P1 | exact P2 | exact P3 | exact P4 | exact P5 | exact P6 | exact P7 | exact P8 | exact P9 | exact P10 | exact P11 | exact P12 | exact P13 | exact P14 | exact P15 | exact P16 | exact P17 | exact P18 | exact P19 | exact P20 | exact P21 | exact P22 | exact P23)) | (apply Part.flat; simp only [List.cons_append, List.nil_append]) | (apply Part.nilc))) ?_)
  rintro v post H' ⟨rfl, rfl⟩ hH
  try simp only [List.cons_append, List.nil_append] at hH
  subst hH
  refine SPL_nil ?_
  refine thenP_n ?_
  refine SP_seq ?_
  refine SP_draw 18 [(0, 0), (1, 0), (2, 0), (4, 0), (6, 0), (7, 0), (8, 0), (10, 0), (11, 0), (12, 0), (15, 0), (3, 1), (5, 0), (9, 1), (13, 1), (14, 0), (16, 0), (17, 0), (18, 3)] mixed (by kernel_rfl) (fun _ _ _ _ _ h => h) (Part.refl _) ?_
  refine SPO_p rfl (y_move rfl) rfl ?_
  refine SPO_p rfl (y_nil rfl) rfl ?_
  refine SPO_p rfl (y_fa fld_93_2 rfl) rfl ?_
  refine SPO_p rfl (y_move rfl) rfl ?_
  refine SPO_p rfl (y_move rfl) rfl ?_
  refine SPO_p rfl (y_nil rfl) rfl ?_
  refine SPO_p rfl (y_fa fld_93_2 rfl) rfl ?_
  refine SPO_p rfl (y_move rfl) rfl ?_
  refine SPO_p rfl (y_nil rfl) rfl ?_
  refine SPO_p rfl (y_fa fld_93_2 rfl) rfl ?_
  refine SPO_p rfl (y_move rfl) rfl ?_
  refine SPO_h rfl (y_load Tryz.isAgg90 rfl (by repeat (first | exact Cell.head rfl | apply Cell.tail))) rfl ?_
  refine SPO_p rfl (y_fromA hst Tryz.underlying90 Tryz.sizeOf209 rfl rfl (by omega) rfl) rfl ?_
  refine SPO_h rfl (y_load Tryz.isAgg90 rfl (by repeat (first | exact Cell.head rfl | apply Cell.tail))) rfl ?_
  refine SPO_h rfl (y_load Tryz.isAgg90 rfl (by repeat (first | exact Cell.head rfl | apply Cell.tail))) rfl ?_
  refine SPO_p rfl (y_len_l Tryz.underlying90 rfl) rfl ?_
  refine SPO_p rfl (y_sub rfl rfl (by omega)) rfl ?_
  refine SPO_p rfl (y_fromA hst Tryz.underlying90 Tryz.sizeOf209 rfl rfl (by omega) (v := .slice (if sc = ((i.st.length : Int) - 0).toNat then sa else sa.map fun q => ⟨q.block, q.off + ((i.st.length : Int) - 0).toNat * 1, none⟩) 0 (sc - ((i.st.length : Int) - 0).toNat)) (by rw [show i.st.length - ((i.st.length : Int) - 0).toNat = 0 by omega])) rfl ?_
  refine SPO_z (k := 0) rfl rfl (SP1_copy0 el_90 rfl rfl rfl ?_)
  refine SPO_nil ?_
  refine thenP_n ?_
  refine SP_region ?_
  refine SPL_y (y_move rfl) rfl ?_
  refine SPL_y (y_move rfl) rfl ?_
  refine SPL_y (y_nil rfl) rfl ?_
  refine SPL_y (y_fa fld_93_2 rfl) rfl ?_
  refine SPL_y (y_load Tryz.isAgg90 rfl (by repeat (first | exact Cell.head rfl | apply Cell.tail))) rfl ?_
  refine SPL_y (y_move rfl) rfl ?_
  refine SPL_y (y_move rfl) rfl ?_
  refine SPL_y (y_add rfl rfl (by omega)) rfl ?_
  refine SPL_y (y_cut hst Tryz.underlying90 Tryz.sizeOf209 rfl rfl (by omega)) rfl ?_
  refine SPL_y (y_nil rfl) rfl ?_
  refine SPL_y (y_fa fld_93_2 rfl) rfl ?_
  refine SPL_one rfl (SP1_store Tryz.sizeOf90 rfl rfl rfl (by first | exact U0 | exact U1 | exact U2 | exact U3 | exact U4 | exact U5 | exact U6 | exact U7 | exact U8 | exact U9 | exact U10 | exact U11 | exact U12 | exact U13 | exact U14 | exact U15 | exact U16 | exact U17 | exact U18 | exact U19 | exact U20 | exact U21 | exact U22 | exact U23) (by rfl) ?_)
  refine SPL_nil ?_
  refine bodyP_end (H' := [List.flatten [blk x 93 [pv, kv, .slice sa (((a.length : Nat) : Int) + 0).toNat sc, .slice fa i.fr.length fc, I i.used, I i.high], ss, sf]]) (Res0 rfl) (by repeat (first | exact Part.nil _ | (apply Part.cons; (first | exact P0 | exact P1 | exact P2 | exact P3 | exact P4 | exact P5 | exact P6 | exact P7 | exact P8 | exact P9 | exact P10 | exact P11 | exact P12 | exact P13 | exact P14 | exact P15 | exact P16 | exact P17 | exact P18 | exact P19 | exact P20 | exact P21 | exact P22 | exact P23)) | (apply Part.flat; simp only [List.cons_append, List.nil_append]) | (apply Part.nilc))) ?_
  have e : (((a.length : Nat) : Int) + 0).toNat = a.length := by omega
  refine ⟨_, rfl, rfl, _, sc, fc, _, _, by rw [e], ?_, hfr⟩
  have := hst.cut (j := a.length) (by omega)
  rwa [Nat.mul_one, hst0, List.map_append, List.take_append_of_le_length (by simp), List.take_of_length_le (by simp)] at this

theorem run_cut (x : Nat) (pv kv : Value) (fa : Option Addr) (i : Inst) (s : Seg) (hm : isInst x pv kv fa i s) (hz : i.st.length ≤ 1000000 ∧ i.fr.length ≤ 1000000) (a mid kp : List W) (hst0 : i.st = a ++ mid ++ kp) : Spec Tryz.prog 146 [.pointer (some ⟨x, 0, none⟩), I a.length, I kp.length] [s] (Ret fun v H => ∃ s', v = .tuple #[] ∧ H = [s'] ∧ isInst x pv kv fa { i with st := a ++ kp } s') := by
  cases kp with
  | nil =>
    have := run_cut0 x pv kv fa i s hm hz a mid (by simpa using hst0)
    rw [List.append_nil]; exact this
  | cons y ys =>
    obtain ⟨sa, sc, fc, ss, sf, rfl, hst, hfr⟩ := hm
    have hsl : i.st.length = a.length + mid.length + (y :: ys).length := by rw [hst0]; simp; omega
    have hl : 0 < (y :: ys).length := by simp
    obtain ⟨bs, sps, rfl, hsc, hsps, rfl⟩ := hst.row (by omega)
    refine Spec_flat ?_
    exact run_cutG x pv kv fa i bs sc fc sps sf hsc hsps hfr hz a mid (y :: ys) hst0 (by omega) (by omega)

end Go.Sl
