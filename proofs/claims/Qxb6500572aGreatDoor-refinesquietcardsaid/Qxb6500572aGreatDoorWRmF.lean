/- Walks: package runm, one step (made by program out of short notes) -/
import Derived.Test.Qxb6500572aGreatDoorWRmE
namespace Go.Sl
open Go Go.Wl Go.Proofs
set_option maxRecDepth 100000
set_option linter.unusedVariables false
set_option linter.unusedSimpArgs false
theorem split1 {st : List W} (h : 1 ≤ st.length) : st = st.dropLast ++ [lst st] := last1 (k := 0) h
theorem split3 {st : List W} (h : 3 ≤ st.length) : st = st.dropLast.dropLast.dropLast ++ [lst st.dropLast.dropLast, lst st.dropLast, lst st] := by
  have h1 := split1 (st := st) (by omega)
  have h2 := split1 (st := st.dropLast) (by rw [List.length_dropLast]; omega)
  have h3 := split1 (st := st.dropLast.dropLast) (by rw [List.length_dropLast, List.length_dropLast]; omega)
  conv => lhs; rw [h1, h2, h3]
  simp
theorem w105 {y : W} (h : y.w = false) : y.t = 105 := by unfold W.t; rw [h]; rfl
theorem teq {y z : W} (h : y.w = z.w) : y.t = z.t := by unfold W.t; rw [h]
theorem top1 {st : List W} {t : UInt8} (h0 : 1 ≤ st.length) (h : (topW st 1).map W.t = [t]) : ∃ A y, st = A ++ [y] ∧ cutW st 1 = A ∧ topW st 1 = [y] ∧ [y].map W.t = [t] := by
  have e := cut_top st 1
  have hl := topW_len h0
  match hx : topW st 1, hl with
  | [y], _ => rw [hx] at e h; exact ⟨_, y, e, rfl, rfl, h⟩
theorem top2 {st : List W} {t1 t2 : UInt8} (h0 : 2 ≤ st.length) (h : (topW st 2).map W.t = [t1, t2]) : ∃ A y1 y2, st = A ++ [y1, y2] ∧ cutW st 2 = A ∧ topW st 2 = [y1, y2] ∧ [y1, y2].map W.t = [t1, t2] := by
  have e := cut_top st 2
  have hl := topW_len h0
  match hx : topW st 2, hl with
  | [y1, y2], _ => rw [hx] at e h; exact ⟨_, y1, y2, e, rfl, rfl, h⟩
theorem cut0 (st : List W) : cutW st 0 = st := by unfold cutW; simp
theorem sgA {op : Int} (h : op = 15 ∨ op = 17) : sigM op = ([], [105], true) := by unfold sigM; rw [if_pos h]
theorem sgB {op : Int} (h : op = 18) : sigM op = ([], [108], true) := by unfold sigM; rw [if_neg (by omega), if_pos h]
theorem sgC {op : Int} (h : op = 16 ∨ (19 ≤ op ∧ op ≤ 24) ∨ (29 ≤ op ∧ op ≤ 33)) : ∃ t o, sigM op = ([t], [o], true) ∧ (o = 105 ∨ o = 108) := by
  by_cases h1 : op = 16 ∨ op = 19 ∨ op = 21 ∨ op = 22 ∨ op = 23 ∨ op = 24 ∨ op = 29
  · exact ⟨105, 105, by unfold sigM; rw [if_neg (by omega), if_neg (by omega), if_pos h1], .inl rfl⟩
  · by_cases h2 : op = 20 ∨ op = 32 ∨ op = 33
    · exact ⟨105, 108, by unfold sigM; rw [if_neg (by omega), if_neg (by omega), if_neg h1, if_pos h2], .inr rfl⟩
    · exact ⟨108, 105, by unfold sigM; rw [if_neg (by omega), if_neg (by omega), if_neg h1, if_neg h2, if_neg (by omega), if_neg (by omega), if_pos (by omega)], .inl rfl⟩
theorem sgD {op : Int} (h : 25 ≤ op ∧ op ≤ 28) : ∃ t1 t2, sigM op = ([t1, t2], [], true) := by
  by_cases h1 : op = 25 ∨ op = 27 ∨ op = 28
  · exact ⟨105, 105, by unfold sigM; rw [if_neg (by omega), if_neg (by omega), if_neg (by omega), if_neg (by omega), if_pos h1]⟩
  · exact ⟨105, 108, by unfold sigM; rw [if_neg (by omega), if_neg (by omega), if_neg (by omega), if_neg (by omega), if_neg h1, if_pos (by omega)]⟩
theorem sgE {op : Int} (h : (40 ≤ op ∧ op < 56) ∨ (60 ≤ op ∧ op < 76)) : ∃ t1 t2 o, sigM op = ([t1, t2], [o], true) ∧ (o = 105 ∨ o = 108) := by
  by_cases h1 : 40 ≤ op ∧ op < 56
  · exact ⟨105, 105, 105, by unfold sigM; rw [if_neg (by omega), if_neg (by omega), if_neg (by omega), if_neg (by omega), if_neg (by omega), if_neg (by omega), if_neg (by omega), if_pos h1], .inl rfl⟩
  · by_cases h2 : 60 ≤ op ∧ op < 73
    · exact ⟨108, 108, 108, by unfold sigM; rw [if_neg (by omega), if_neg (by omega), if_neg (by omega), if_neg (by omega), if_neg (by omega), if_neg (by omega), if_neg (by omega), if_neg h1, if_pos h2], .inr rfl⟩
    · exact ⟨108, 108, 105, by unfold sigM; rw [if_neg (by omega), if_neg (by omega), if_neg (by omega), if_neg (by omega), if_neg (by omega), if_neg (by omega), if_neg (by omega), if_neg h1, if_neg h2, decide_eq_true (by omega)], .inl rfl⟩

theorem rm_stepP (x pb kb : Nat) (rv : Value) (E : RE) (R : RS) (s : Seg) (hm : isR x (.pointer (some ⟨pb, 0, none⟩)) rv (.pointer (some ⟨kb, 0, none⟩)) E R s) (la : Option Addr) (lc : Nat) (loc : List W) (sl : Seg) (hl : Arr 110 2 la loc.length lc (loc.flatMap wv) sl) (sk : Seg) (hk : isMm kb R.mem sk) (depth : Int) (c : Ins) (hS : Small R) (hfu : E.fuel ≤ 9223372036854775807) (hlo : loc.length ≤ 100) (hpay : ¬ E.fuel ≤ R.used) (hw : well c = true) (hno : c.op = 0 ∨ 6 ≤ c.op) (h10 : c.op ≠ 10) (br e : Int) (R' : RS) (loc' : List W) (h : stepP R.pay loc c = some (br, e, R', loc')) : Spec Tryz.prog 150 [.pointer (some ⟨x, 0, none⟩), .agg (insV c).toArray, .slice la loc.length lc, I depth] [s, sl, sk] (Ret fun v H => ∃ s' sl' sk', v = .tuple #[I br, I e] ∧ H = [s', sl', sk'] ∧ isR x (.pointer (some ⟨pb, 0, none⟩)) rv (.pointer (some ⟨kb, 0, none⟩)) E R' s' ∧ Arr 110 2 la loc.length lc (loc'.flatMap wv) sl' ∧ isMm kb R'.mem sk') := by
  have hwg := well_ge hw
  have hpst : R.pay.st = R.st := rfl
  rcases well_ops hw with o | o | o | o | o | o | o | o | o | o | o | o | o | o | o | o
  · unfold stepP at h; rw [if_pos o] at h
    simp only [Option.some.injEq, Prod.mk.injEq] at h
    obtain ⟨rfl, rfl, rfl, rfl⟩ := h
    exact rm_step_unr x pb kb rv E R s hm la lc loc sl hl sk hk depth c hS hfu hlo hpay o
  · omega
  · omega
  · omega
  · omega
  · omega
  · unfold stepP at h; rw [if_neg (by omega), if_pos o] at h
    simp only [Option.some.injEq, Prod.mk.injEq] at h
    obtain ⟨rfl, rfl, rfl, rfl⟩ := h
    exact rm_step_br x pb kb rv E R s hm la lc loc sl hl sk hk depth c hS hfu hlo hpay o
  · unfold stepP at h; rw [if_neg (by omega), if_neg (by omega), if_pos o] at h
    split at h
    case isFalse => cases h
    rename_i hc
    simp only [Option.some.injEq, Prod.mk.injEq] at h
    obtain ⟨rfl, rfl, rfl, rfl⟩ := h
    exact rm_step_brif x pb kb rv E R s hm la lc loc sl hl sk hk depth c hS hfu hlo hpay o _ _ (split1 hc.1) (w105 hc.2)
  · unfold stepP at h; rw [if_neg (by omega), if_neg (by omega), if_neg (by omega), if_pos o] at h
    split at h
    case isFalse => cases h
    rename_i hc
    simp only [Option.some.injEq, Prod.mk.injEq] at h
    obtain ⟨rfl, rfl, rfl, rfl⟩ := h
    exact rm_step_table x pb kb rv E R s hm la lc loc sl hl sk hk depth c hS hfu hlo hpay o _ _ (split1 hc.1) (w105 hc.2) (hwg.2 o)
  · unfold stepP at h; rw [if_neg (by omega), if_neg (by omega), if_neg (by omega), if_neg (by omega), if_pos o] at h
    simp only [Option.some.injEq, Prod.mk.injEq] at h
    obtain ⟨rfl, rfl, rfl, rfl⟩ := h
    exact rm_step_ret x pb kb rv E R s hm la lc loc sl hl sk hk depth c hS hfu hlo hpay o
  · exact absurd o h10
  · unfold stepP at h; rw [if_neg (by omega), if_neg (by omega), if_neg (by omega), if_neg (by omega), if_neg (by omega), if_pos o] at h
    split at h
    case isFalse => cases h
    rename_i hc
    simp only [Option.some.injEq, Prod.mk.injEq] at h
    obtain ⟨rfl, rfl, rfl, rfl⟩ := h
    exact rm_step_drop x pb kb rv E R s hm la lc loc sl hl sk hk depth c hS hfu hlo hpay o _ _ (split1 hc)
  · unfold stepP at h; rw [if_neg (by omega), if_neg (by omega), if_neg (by omega), if_neg (by omega), if_neg (by omega), if_neg (by omega), if_pos o] at h
    split at h
    case isFalse => cases h
    rename_i hc
    simp only [Option.some.injEq, Prod.mk.injEq] at h
    obtain ⟨rfl, rfl, rfl, rfl⟩ := h
    exact rm_step_sel x pb kb rv E R s hm la lc loc sl hl sk hk depth c hS hfu hlo hpay o _ _ _ _ (split3 hc.1) (w105 hc.2.1) (teq hc.2.2)
  · unfold stepP at h; rw [if_neg (by omega), if_neg (by omega), if_neg (by omega), if_neg (by omega), if_neg (by omega), if_neg (by omega), if_neg (by omega), if_pos o] at h
    split at h
    case isFalse => cases h
    rename_i hc
    have hi := hwg.1 (by omega)
    have hil : c.imm.toNat < loc.length := by omega
    simp only [Option.some.injEq, Prod.mk.injEq] at h
    obtain ⟨rfl, rfl, rfl, rfl⟩ := h
    rw [List.getD_eq_getElem?_getD, List.getElem?_eq_getElem hil]
    exact rm_step_get x pb kb rv E R s hm la lc loc sl hl sk hk depth c hS hfu hlo hpay o c.imm.toNat (by omega) _ hil rfl
  · unfold stepP at h; rw [if_neg (by omega), if_neg (by omega), if_neg (by omega), if_neg (by omega), if_neg (by omega), if_neg (by omega), if_neg (by omega), if_neg (by omega), if_pos o] at h
    split at h
    case isFalse => cases h
    rename_i hc
    have hi := hwg.1 (by omega)
    have hil : c.imm.toNat < loc.length := by omega
    rw [List.getD_eq_getElem?_getD, List.getElem?_eq_getElem hil] at hc
    simp only [Option.some.injEq, Prod.mk.injEq] at h
    obtain ⟨rfl, rfl, rfl, rfl⟩ := h
    exact rm_step_set x pb kb rv E R s hm la lc loc sl hl sk hk depth c hS hfu hlo hpay o c.imm.toNat (by omega) _ _ _ (split1 hc.2.1) hil rfl (teq hc.2.2)
  · unfold stepP at h; rw [if_neg (by omega), if_neg (by omega), if_neg (by omega), if_neg (by omega), if_neg (by omega), if_neg (by omega), if_neg (by omega), if_neg (by omega), if_neg (by omega)] at h
    obtain ⟨r, hr, hrr⟩ := Option.map_eq_some_iff.1 h
    clear h
    simp only [Prod.mk.injEq] at hrr
    obtain ⟨rfl, rfl, rfl, rfl⟩ := hrr
    unfold plainP at hr
    split at hr
    case isFalse => cases hr
    rename_i hc
    dsimp only at hr
    simp only [Option.some.injEq] at hr
    subst hr
    rw [hpst] at hc
    dsimp only
    rw [hpst]
    by_cases o1 : c.op = 15 ∨ c.op = 17 ∨ c.op = 18
    · have hsg : ∃ o', sigM c.op = ([], [o'], true) ∧ (o' = 105 ∨ o' = 108) := by
        by_cases o2 : c.op = 18
        · exact ⟨108, sgB o2, .inr rfl⟩
        · exact ⟨105, sgA (by omega), .inl rfl⟩
      obtain ⟨o', hsig, ho'⟩ := hsg
      rw [hsig]
      dsimp only
      rw [show ([] : List UInt8).length = 0 from rfl, cut0]
      rcases o1 with o1 | o1 | o1
      · have hu : ∀ a b, unitP R.pay.mem c.op c.imm a b = (R.mem, ((R.mem.bytes.length / 8 : Nat) : Int), 0) := fun a b => by unfold unitP; rw [if_pos o1]; rfl
        rw [hu, if_pos rfl]
        exact rm_step_size x pb kb rv E R s hm la lc loc sl hl sk hk depth c hS hfu hlo hpay R.st o1 o' ho' hsig (by simp) rfl
      · have hu : ∀ a b, unitP R.pay.mem c.op c.imm a b = (R.mem, c.imm, 0) := fun a b => by unfold unitP; rw [if_neg (by omega), if_neg (by omega), if_pos (by omega)]; rfl
        rw [hu, if_pos rfl]
        exact rm_step_cst17 x pb kb rv E R s hm la lc loc sl hl sk hk depth c hS hfu hlo hpay R.st o1 o' ho' hsig (by simp) rfl
      · have hu : ∀ a b, unitP R.pay.mem c.op c.imm a b = (R.mem, c.imm, 0) := fun a b => by unfold unitP; rw [if_neg (by omega), if_neg (by omega), if_pos (by omega)]; rfl
        rw [hu, if_pos rfl]
        exact rm_step_cst18 x pb kb rv E R s hm la lc loc sl hl sk hk depth c hS hfu hlo hpay R.st o1 o' ho' hsig (by simp) rfl
    by_cases o2 : c.op = 16 ∨ (19 ≤ c.op ∧ c.op ≤ 24) ∨ (29 ≤ c.op ∧ c.op ≤ 33)
    · obtain ⟨t, o', hsig, ho'⟩ := sgC o2
      rw [hsig] at hc ⊢
      dsimp only at hc ⊢
      obtain ⟨A, y, hy, hcu, hto, hty⟩ := top1 hc.1 hc.2
      rw [show [t].length = 1 from rfl, hcu, hto]
      rw [show (List.getD [y] 0 (⟨false, 0⟩ : W)) = y from rfl, show (List.getD [y] 1 (⟨false, 0⟩ : W)).n = 0 from rfl]
      rcases o2 with o2 | o2 | o2
      · have hu : ∀ b, unitP R.pay.mem c.op c.imm y.n b = ((grow R.mem y.n).1, (grow R.mem y.n).2, 0) := fun b => by unfold unitP; rw [if_neg (by omega), if_pos o2]; rfl
        rw [hu, if_pos rfl]
        exact rm_step_grow x pb kb rv E R s hm la lc loc sl hl sk hk depth c hS hfu hlo hpay A o2 y t o' ho' hsig hy hty
      · have hu : ∀ b, unitP R.pay.mem c.op c.imm y.n b = (R.mem, (mload R.mem c.op y.n c.imm).1, (mload R.mem c.op y.n c.imm).2) := fun b => by unfold unitP; rw [if_neg (by omega), if_neg (by omega), if_neg (by omega), if_pos o2]; rfl
        rw [hu]
        exact rm_step_load x pb kb rv E R s hm la lc loc sl hl sk hk depth c hS hfu hlo hpay A o2 y t o' ho' hsig hy hty
      · have hu : unitP R.pay.mem c.op c.imm y.n 0 = (R.mem, (alu c.op y.n 0).1, (alu c.op y.n 0).2) := by unfold unitP; rw [if_neg (by omega), if_neg (by omega), if_neg (by omega), if_neg (by omega), if_neg (by omega)]; rfl
        rw [hu]
        exact rm_step_alu1 x pb kb rv E R s hm la lc loc sl hl sk hk depth c hS hfu hlo hpay A o2 y t o' ho' hsig hy hty
    by_cases o3 : 25 ≤ c.op ∧ c.op ≤ 28
    · obtain ⟨t1, t2, hsig⟩ := sgD o3
      rw [hsig] at hc ⊢
      dsimp only at hc ⊢
      obtain ⟨A, y1, y2, hy, hcu, hto, hty⟩ := top2 hc.1 hc.2
      rw [show [t1, t2].length = 2 from rfl, hcu, hto]
      rw [show (List.getD [y1, y2] 0 (⟨false, 0⟩ : W)) = y1 from rfl, show (List.getD [y1, y2] 1 (⟨false, 0⟩ : W)) = y2 from rfl]
      have hu : unitP R.pay.mem c.op c.imm y1.n y2.n = ((mstore R.mem c.op y1.n c.imm y2.n).1, 0, (mstore R.mem c.op y1.n c.imm y2.n).2) := by unfold unitP; rw [if_neg (by omega), if_neg (by omega), if_neg (by omega), if_neg (by omega), if_pos o3]; rfl
      rw [hu]
      simp only [List.map_nil, ite_self, List.append_nil]
      exact rm_step_store x pb kb rv E R s hm la lc loc sl hl sk hk depth c hS hfu hlo hpay A o3 y1 y2 t1 t2 hsig hy hty
    · have o4 : (40 ≤ c.op ∧ c.op < 56) ∨ (60 ≤ c.op ∧ c.op < 76) := by omega
      obtain ⟨t1, t2, o', hsig, ho'⟩ := sgE o4
      rw [hsig] at hc ⊢
      dsimp only at hc ⊢
      obtain ⟨A, y1, y2, hy, hcu, hto, hty⟩ := top2 hc.1 hc.2
      rw [show [t1, t2].length = 2 from rfl, hcu, hto]
      rw [show (List.getD [y1, y2] 0 (⟨false, 0⟩ : W)) = y1 from rfl, show (List.getD [y1, y2] 1 (⟨false, 0⟩ : W)) = y2 from rfl]
      have hu : unitP R.pay.mem c.op c.imm y1.n y2.n = (R.mem, (alu c.op y1.n y2.n).1, (alu c.op y1.n y2.n).2) := by unfold unitP; rw [if_neg (by omega), if_neg (by omega), if_neg (by omega), if_neg (by omega), if_neg (by omega)]; rfl
      rw [hu]
      exact rm_step_alu2 x pb kb rv E R s hm la lc loc sl hl sk hk depth c hS hfu hlo hpay A o4 y1 y2 t1 t2 o' ho' hsig hy hty

end Go.Sl
