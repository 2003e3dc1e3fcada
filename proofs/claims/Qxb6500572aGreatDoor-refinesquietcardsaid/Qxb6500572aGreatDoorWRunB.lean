/- Walks: package run, the stack moves (made by program out of short notes) -/
import Derived.Test.Qxb6500572aGreatDoorWRunA
namespace Go.Sl
open Go Go.Wl Go.Proofs
set_option maxRecDepth 100000
set_option linter.unusedVariables false
set_option linter.unusedSimpArgs false
theorem SP1_kind {n : Nat} {Q : Post} {D : Defs} {ρ : Env} {H : Hp} {ty : TypeId} {K : Kont} {d : Nat} {pos : String} {af : Array Edge} {g : Option (Nat × Bool)} {x : Operand} {y : W} {at_ : Array TypeId} (hx : ev ρ x = some y.v) (hn : Nat.ble (d + 1) n = true) (k : K D ((d, .int .u8 y.t.toNat) :: ρ) H) :
    SP1 Tryz.prog n { dst := some d, op := .call { callee := .invoke x (firstName Tryz.t252), args := #[], argTypes := at_ }, type := ty, pos := pos, after := af, guard := g } Q K D ρ H := by
  obtain ⟨w, m⟩ := y
  cases w with
  | false => exact SP1_invoke (xs := []) (rv := .int .i32 m) (args := []) hx (kind32 _) (run_kind32 m) rfl hn (Part.nil _) (by rintro v post H' ⟨rfl, rfl⟩ rfl; exact k)
  | true => exact SP1_invoke (xs := []) (rv := .int .i64 m) (args := []) hx (kind64 _) (run_kind64 m) rfl hn (Part.nil _) (by rintro v post H' ⟨rfl, rfl⟩ rfl; exact k)

theorem run_top (x : Nat) (pv kv : Value) (fa : Option Addr) (i : Inst) (s : Seg) (hm : isInst x pv kv fa i s) (hz : i.st.length ≤ 1000000 ∧ i.fr.length ≤ 1000000) (lo vals : List W) (low : Nat) (hst0 : i.st = lo ++ vals) (hlow : low ≤ lo.length) : Spec Tryz.prog 127 [.pointer (some ⟨x, 0, none⟩), S (vals.map W.t), I low] [s] (Ret fun v H => v = I lo.length ∧ H = [s]) := by
  obtain ⟨sa, sc, fc, ss, sf, rfl, hst, hfr⟩ := hm
  refine Spec_flat ?_
  simp only [List.cons_append, List.nil_append]
  have hsl : i.st.length = lo.length + vals.length := by rw [hst0]; simp
  obtain ⟨tl, htl⟩ : ∃ x, vals.map W.t = x := ⟨_, rfl⟩
  have hll : tl.length = vals.length := by rw [← htl]; simp
  rw [htl]
  refine Spec_enter Tryz.func127 rfl Tryz.ntmps127 rfl ?_
  show SP _ _ _ _ _ [(0, _), (1, _), (2, _)] _
  refine SP_seq ?_
  refine SP_region ?_
  refine SPL_y (y_assign rfl) rfl ?_
  refine SPL_nil ?_
  refine thenP_n ?_
  refine SP_seq ?_
  refine SP_region ?_
  refine SPL_y (y_move rfl) rfl ?_
  refine SPL_y (y_nil rfl) rfl ?_
  refine SPL_y (y_fa fld_93_2 rfl) rfl ?_
  refine SPL_y (y_load Tryz.isAgg90 rfl (by repeat (first | exact Cell.head rfl | apply Cell.tail))) rfl ?_
  refine SPL_y (y_len_l Tryz.underlying90 rfl) rfl ?_
  refine SPL_y (y_move rfl) rfl ?_
  refine SPL_y (y_len_s Tryz.underlying9 rfl) rfl ?_
  refine SPL_y (y_subE rfl rfl (by omega) (show _ = ((lo.length : Nat) : Int) by omega)) rfl ?_
  refine SPL_y (y_assign rfl) rfl ?_
  refine SPL_nil ?_
  refine thenP_n ?_
  refine SP_seq ?_
  refine SP_region ?_
  refine SPL_y (y_move rfl) rfl ?_
  refine SPL_y (y_move rfl) rfl ?_
  refine SPL_y (y_geqT rfl rfl (by omega)) rfl ?_
  refine SPL_one rfl (SP1_call (run_needT 10) Tryz.call126 rfl rfl (by repeat (first | exact Part.nil _ | (apply Part.cons; (first | exact P0 | exact P1 | exact P2 | exact P3 | exact P4 | exact P5 | exact P6 | exact P7 | exact P8 | exact P9 | exact P10 | exact P11 | exact P12 | exact P13 | exact P14 | exact P15 | exact P16 | exact P17 | exact P18 | exact P19 | exact P20 | exact P21 | exact P22 | exact P23)) | (apply Part.flat; simp only [List.cons_append, List.nil_append]) | (apply Part.nilc))) ?_)
  rintro v post H' ⟨rfl, rfl⟩ hH
  try simp only [List.cons_append, List.nil_append] at hH
  subst hH
  refine SPL_nil ?_
  refine thenP_n ?_
  refine SP_seq ?_
  refine SP_seq ?_
  refine SP_region ?_
  refine SPL_y (y_move rfl) rfl ?_
  refine SPL_y (y_len_s Tryz.underlying9 rfl) rfl ?_
  refine SPL_y (y_move rfl) rfl ?_
  refine SPL_nil ?_
  refine thenP_n ?_
  refine SP_block ?_
  refine SP_loop (G := Nat) (fun j => vals.length - j) (fun j => [(0, .pointer (some ⟨x, 0, none⟩)), (1, S tl), (7, I lo.length), (23, I tl.length), (24, I (j : Nat))]) (fun _ => [blk x 93 [pv, kv, .slice sa i.st.length sc, .slice fa i.fr.length fc, I i.used, I i.high], ss, sf]) (fun j => j ≤ vals.length) (0) (Nat.zero_le _) (by repeat (first | exact Sub.nil _ | refine Sub.cons rfl ?_)) (by repeat (first | exact Part.nil _ | (apply Part.cons; (first | exact P0 | exact P1 | exact P2 | exact P3 | exact P4 | exact P5 | exact P6 | exact P7 | exact P8 | exact P9 | exact P10 | exact P11 | exact P12 | exact P13 | exact P14 | exact P15 | exact P16 | exact P17 | exact P18 | exact P19 | exact P20 | exact P21 | exact P22 | exact P23)) | (apply Part.flat; simp only [List.cons_append, List.nil_append]) | (apply Part.nilc))) ?_
  rintro j hj
  refine SP_seq ?_
  refine SP_region ?_
  refine SPL_ifn (y_lss rfl rfl) rfl ?_ ?_
  · intro h4_0
    refine SPL_nil ?_
    refine thenP_n ?_
    refine SP_seq ?_
    refine SP_cond_f rfl ?_
    refine SP_exit ?_
    refine thenP_exit ?_
    refine thenP_exit ?_
    refine inBlockP_hit ?_
    refine thenP_n ?_
    refine SP_seq ?_
    refine SP_region ?_
    refine SPL_y (y_move rfl) rfl ?_
    refine SPL_y (y_assign rfl) rfl ?_
    refine SPL_nil ?_
    refine thenP_n ?_
    refine SP_ret ?_
    refine bodyP_ret (H' := [List.flatten [blk x 93 [pv, kv, .slice sa i.st.length sc, .slice fa i.fr.length fc, I i.used, I i.high], ss, sf]]) (Res1 rfl rfl) (by repeat (first | exact Part.nil _ | (apply Part.cons; (first | exact P0 | exact P1 | exact P2 | exact P3 | exact P4 | exact P5 | exact P6 | exact P7 | exact P8 | exact P9 | exact P10 | exact P11 | exact P12 | exact P13 | exact P14 | exact P15 | exact P16 | exact P17 | exact P18 | exact P19 | exact P20 | exact P21 | exact P22 | exact P23)) | (apply Part.flat; simp only [List.cons_append, List.nil_append]) | (apply Part.nilc))) ?_
    exact ⟨rfl, rfl⟩
  intro h4_0
  refine SPL_nil ?_
  refine thenP_n ?_
  refine SP_seq ?_
  refine SP_cond_t rfl ?_
  refine SP_skip ?_
  refine thenP_n ?_
  refine SP_seq ?_
  refine SP_block ?_
  refine SP_seq ?_
  have hjl : j < vals.length := by omega
  have htj : tl[j]'(by omega) = vals[j].t := by simp [← htl]
  obtain ⟨bs, sps, rfl, hsc, hsps, rfl⟩ := hst.row (by omega)
  refine SP_region ?_
  refine SPL_y (y_move rfl) rfl ?_
  refine SPL_y (y_assign rfl) rfl ?_
  refine SPL_nil ?_
  refine thenP_n ?_
  refine SP_seq ?_
  refine SP_region ?_
  refine SPL_y (y_move rfl) rfl ?_
  refine SPL_y (y_nil rfl) rfl ?_
  refine SPL_y (y_fa fld_93_2 rfl) rfl ?_
  refine SPL_y (y_load Tryz.isAgg90 rfl (by repeat (first | exact Cell.head rfl | apply Cell.tail))) rfl ?_
  refine SPL_y (y_move rfl) rfl ?_
  refine SPL_y (y_move rfl) rfl ?_
  refine SPL_y (y_add rfl rfl (by omega)) rfl ?_
  refine SPL_y (y_ia Tryz.underlying90 Tryz.sizeOf209 rfl rfl (by omega)) rfl ?_
  refine SPL_y (y_load Tryz.isAgg209 rfl (by repeat (first | exact Cell.head (show (i.st.map W.v ++ sps)[0 + (((lo.length : Nat) : Int) + (j : Int)).toNat * 1]? = some vals[j].v by rw [show 0 + (((lo.length : Nat) : Int) + (j : Int)).toNat * 1 = lo.length + j by omega, hst0, List.map_append, List.append_assoc, List.getElem?_append_right (by simp), List.length_map, Nat.add_sub_cancel_left, List.getElem?_append_left (by simpa using hjl), List.getElem?_map, List.getElem?_eq_getElem hjl]; rfl) | apply Cell.tail))) rfl ?_
  refine SPL_one rfl (SP1_kind (y := vals[j]) rfl rfl ?_)
  refine SPL_y (y_assign rfl) rfl ?_
  refine SPL_nil ?_
  refine thenP_n ?_
  refine SP_region ?_
  refine SPL_y (y_move rfl) rfl ?_
  refine SPL_y (y_move rfl) rfl ?_
  refine SPL_y (y_move rfl) rfl ?_
  refine SPL_y (y_idx_s Tryz.underlying9 rfl rfl (by omega) (getN (by omega))) rfl ?_
  refine SPL_y (y_eqlT rfl rfl (by rw [htj])) rfl ?_
  refine SPL_one rfl (SP1_call (run_needT 10) Tryz.call126 rfl rfl (by repeat (first | exact Part.nil _ | (apply Part.cons; (first | exact P0 | exact P1 | exact P2 | exact P3 | exact P4 | exact P5 | exact P6 | exact P7 | exact P8 | exact P9 | exact P10 | exact P11 | exact P12 | exact P13 | exact P14 | exact P15 | exact P16 | exact P17 | exact P18 | exact P19 | exact P20 | exact P21 | exact P22 | exact P23)) | (apply Part.flat; simp only [List.cons_append, List.nil_append]) | (apply Part.nilc))) ?_)
  rintro v post H' ⟨rfl, rfl⟩ hH
  try simp only [List.cons_append, List.nil_append] at hH
  subst hH
  refine SPL_nil ?_
  refine inBlockP_n ?_
  refine thenP_n ?_
  refine SP_region ?_
  refine SPL_y (y_add rfl rfl (by omega)) rfl ?_
  refine SPL_y (y_move rfl) rfl ?_
  refine SPL_nil ?_
  refine thenP_n ?_
  exact Again.intro (j + 1) (by omega) (by omega) (by repeat (first | exact Sub.nil _ | refine Sub.cons rfl ?_)) (by repeat (first | exact Part.nil _ | (apply Part.cons; (first | exact P0 | exact P1 | exact P2 | exact P3 | exact P4 | exact P5 | exact P6 | exact P7 | exact P8 | exact P9 | exact P10 | exact P11 | exact P12 | exact P13 | exact P14 | exact P15 | exact P16 | exact P17 | exact P18 | exact P19 | exact P20 | exact P21 | exact P22 | exact P23)) | (apply Part.flat; simp only [List.cons_append, List.nil_append]) | (apply Part.nilc)))

end Go.Sl
