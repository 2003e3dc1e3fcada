/- Plain: the compiler answers: all parts. -/
import Derived.Test.Qxb6500573aGreatDoorQP
import Derived.Test.Qxb6500573aGreatDoorBW
namespace Go.Wl
open Go Go.Sl Go.Proofs
set_option linter.unusedVariables false
def Law (ns : List Nd) : Kd → Nat → Nat → Int → Nat → Nat → Prop
  | .ex q, lo, hi, r, n, n' => ExL ns q lo hi r n n' ∧ 1 ≤ q
  | .cl q, lo, hi, r, n, n' => ClL ns q lo hi r n n' ∧ 2 ≤ q ∧ ∃ d, ns[hi]? = some d ∧ d.k = 19
  | .it q len, lo, hi, r, n, n' => ArL ns q len lo hi r n n' ∧ TbL ns q len lo hi r n n' ∧ (1 ≤ len → 1 ≤ q)
  | .ps _, _, _, _, _, _ => True
  | .st al lp al', lo, hi, r, n, n' => StL ns al lp al' lo hi r n n'
  | .bl al lp al', lo, hi, r, n, n' => BsL ns al lp al' lo hi r n n'
theorem law_all {ns : List Nd} (h0 : ns[0]? = some nd0) (hns : ns.length ≤ 1000) {kd : Kd} {lo hi : Nat} {r : Int} {n n' : Nat} (h : Nn ns kd lo hi r n n') : Law ns kd lo hi r n n' := by
  induction h with
  | lit hd hl hq hk => exact ⟨ex_lit hd hl hq hk, hq⟩
  | num hd hl hq hk => exact ⟨ex_num hd hl hq hk, hq⟩
  | str hd hl hq hk => exact ⟨ex_str hd hl hq hk, hq⟩
  | name hd hl hq hk => exact ⟨ex_name hd hl hq hk, hq⟩
  | index hd hx hk hl h1 h2 i1 i2 =>
    have r1 := hx.reg; have r2 := hk.reg
    exact ⟨ex_index hd i1.1 i2.1 (r1.2.2 rfl) (r2.2.2 rfl) r2.2.1 hl h1 h2 i2.2, by omega⟩
  | call hd hf ha hl hl3 h1 h2 h3 i1 i2 =>
    have r1 := hf.reg; have r2 := ha.reg
    exact ⟨cl_call hd i1.1 i2.1 (r1.2.2 rfl) r2.1 r2.2.1 hl hl3 h1 h2 h3 i2.2.2, h3, _, hd, rfl⟩
  | ofcl h i =>
    obtain ⟨i1, i2, d, i3, i4⟩ := i
    exact ⟨ex_ofcl i3 i4 i1 (h.reg.2.2 rfl) i2, by omega⟩
  | func hd hp hb hl hq hl3 hn i1 i2 =>
    have r1 := hp.reg; have r2 := hb.reg
    exact ⟨ex_func hd hp i2 r1.1 r2.1 hl (by have := lt_of hd; omega) hq hl3 hn, hq⟩
  | table hd hi hl h1 i1 =>
    have r1 := hi.reg
    exact ⟨ex_table hd i1.2.1 r1.1 hl h1, by omega⟩
  | bin hd ho hx hy hl h1 h2 i1 i2 =>
    have r1 := hx.reg; have r2 := hy.reg
    exact ⟨ex_bin hd ho i1.1 i2.1 (r1.2.2 rfl) (r2.2.2 rfl) r2.2.1 hl h1 h2 i2.2, by omega⟩
  | log hd ho hx hy hl h1 h2 i1 i2 =>
    have r1 := hx.reg; have r2 := hy.reg
    have := i1.2
    exact ⟨ex_log hd ho i1.1 i2.1 (r1.2.2 rfl) (r2.2.2 rfl) r2.2.1 hl h1 h2 i1.2, by omega⟩
  | un hd ho hx hl h1 i1 =>
    have r1 := hx.reg
    have := i1.2
    exact ⟨ex_un hd ho i1.1 (r1.2.2 rfl) hl h1 i1.2, by omega⟩
  | inil => exact ⟨ar_nil, tb_nil, fun q => by omega⟩
  | icons hd hn ht hl i1 i2 =>
    have r1 := ht.reg; have r2 := hl.reg
    exact ⟨ar_cons hd hn i1.1 i2.1 (r1.2.2 rfl) r2.1 r2.2.1, tb_cons hd hn i1.1 i2.2.1 (r1.2.2 rfl) r2.1 r2.2.1 i1.2, fun _ => i1.2⟩
  | pnil => trivial
  | pcons => trivial
  | loc0 hd hl h1 h => exact st_loc0 h0 hd hl h1 h
  | loc1 hd hl h1 hv hq h i1 => exact st_loc1 hd (hv.reg.2.2 rfl) hl h1 i1.1 hq h
  | loc2 hd hl hp hv hq h i1 i2 => exact st_loc2 hd hp.reg.1 (hv.reg.2.2 rfl) hl hp i2.1 hq h
  | locFn hd hl h1 hk hv hq h i1 => exact st_locFn hd (hv.reg.2.2 rfl) hl h1 i1.1 hq h
  | asgN hd hd1 hk hs1 hl1 hl hv hq i1 => exact st_asgN hd hd1 hk hs1 hl1 (hv.reg.2.2 rfl) hl i1.1 hq
  | asgI hd hd1 hk hx hy hl3 hv hl h0 h1 h2 i1 i2 i3 => exact st_asgI hd hd1 hk i1.1 i2.1 (hx.reg.2.2 rfl) (hy.reg.2.2 rfl) hl3 (hv.reg.2.2 rfl) i3.1 hy.reg.2.1 hv.reg.2.1 hl h0 h1 h2
  | callS hd hl hv hq i1 => exact st_callS hd (hv.reg.2.2 rfl) hl i1.1 hq
  | ife hd hl hc hq h1 h2 i1 i2 i3 => exact st_ife hd (hc.reg.2.2 rfl) h1.reg.1 h2.reg.1 h1.reg.2.1 h2.reg.2.1 hl i1.1 hq i2 i3
  | whl hd hl hc hq h1 i1 i2 => exact st_whl hd (hc.reg.2.2 rfl) h1.reg.1 h1.reg.2.1 hl i1.1 hq i2
  | for2 hd hl hs1 hf hd1 hn1 hg hd2 hn2 hq hq1 h h1 i1 i2 i3 => exact st_for2 hd (hf.reg.2.2 rfl) (hg.reg.2.2 rfl) h1.reg.1 hg.reg.2.1 h1.reg.2.1 hl hs1 i1.1 hd1 hn1 i2.1 hd2 hn2 hq hq1 h i3
  | for3 hd hl hs1 hf hd1 hn1 hg hd2 hn2 hst hq hq1 hq2 h h1 i1 i2 i3 i4 => exact st_for3 hd (hf.reg.2.2 rfl) (hg.reg.2.2 rfl) (hst.reg.2.2 rfl) h1.reg.1 hg.reg.2.1 hst.reg.2.1 h1.reg.2.1 hl hs1 i1.1 hd1 hn1 i2.1 hd2 hn2 i3.1 hq2 hq hq1 h i4
  | forIn hd hl hp hx hq h h1 i1 i2 i3 => exact st_forIn hd hp.reg.1 (hx.reg.2.2 rfl) h1.reg.1 h1.reg.2.1 hl hp i2.1 hq h i3
  | ret0 hd hl => exact st_ret0 h0 hd hl
  | ret1 hd hl hx hq i1 => exact st_ret1 h0 hd (hx.reg.2.2 rfl) hl i1.1 hq
  | ret2 hd hl hx hy hq hq1 i1 i2 => exact st_ret2 hd (hx.reg.2.2 rfl) (hy.reg.2.2 rfl) hy.reg.2.1 hl i1.1 i2.1 hq hq1
  | brk hd hl => exact st_brk hd hl
  | bnil => exact bs_nil
  | bcons hd hn ht hl i1 i2 => exact bs_cons hd hn i1 i2 (ht.reg.2.2 rfl) hl.reg.1 hl.reg.2.1
/-- The compiler makes of nodes in form functions in form. -/
theorem comp_all {ns : List Nd} (h0 : ns[0]? = some nd0) {hi n al : Nat} {root : Int} (hl : ns.length = hi + 1) (hhi : hi ≤ 300) (hn : n ≤ 12) (h : Nn ns (.bl 0 false al) 0 hi root 0 n) : ∃ L' : List Fs, (∀ s : CS, s.fs.length = 13 → ∃ s', compM 100000 ns root s = some s' ∧ Rep s' L') ∧ L'.length = n + 1 ∧ DN L' 0 L'.length ∧ Mz L' ≤ 31000 ∧ (∀ f, L'[0]? = some f → f.nparams = 0 ∧ f.ups = []) ∧ progS ns L' root := by
  have hb : BsL ns 0 false al 0 hi root 0 n := law_all h0 (by omega) h
  have hI : Inv ns 0 [] [frs none] (frs none) 0 7 := ⟨rfl, rfl, ⟨frs none, rfl, rfl, rfl⟩, ⟨(fun b i h => by cases h), (fun t i h => by cases h), (fun v hv => by cases hv), (fun i v hv => by cases hv), rfl⟩, by simp [frs], (fun v hv => by cases hv), by simp [Mz, cost, cbs, frs]⟩
  obtain ⟨F, hF⟩ : ∃ F, F = 100000 := ⟨_, rfl⟩
  obtain ⟨L', f', b1, b2, b3, b4⟩ := body_go hb (Nat.zero_le _) (m := F) (by omega) (by omega) hn (by omega) hI (fun x hx => by cases hx) rfl rfl rfl
  have hch := b1.inv.ch
  obtain ⟨f2, c1, c2, c3⟩ := hch
  have hat := b1.inv.at_
  rw [hat] at c1
  injection c1 with c1
  subst c1
  have hnp : f'.nparams = 0 := b1.stp.fx.np
  have hal := b1.inv.al
  have hsl : (0 : Int) ≤ f'.nslots := b1.stp.fx.sl
  refine ⟨L', fun s hs => ?_, b1.inv.ln, fun x f q1 q2 q3 => ?_, by have := b1.inv.ms; omega, fun f hf => ?_, ?_⟩
  · have hr : Rep { s with np := 0 } [] := ⟨rfl, hs, by simp, (fun x hx => by cases hx), (fun f hf => by cases hf)⟩
    obtain ⟨s1, w1, v1⟩ := fresh_run (L := []) (p := none) (by simp) _ hr
    obtain ⟨s2, w2, v2⟩ := b1.run s1 v1
    refine ⟨s2, ?_, v2⟩
    unfold compM
    rw [← hF]
    rw [show freshM 0 none { s with np := 0 } = some s1 from w1]
    exact w2
  · by_cases e : x = 0
    · subst e
      rw [hat] at q3
      injection q3 with q3
      subst q3
      exact ⟨by omega, by rw [c3]; simp, (by rw [c3]; exact fun d hd => by cases hd), b1.inv.ko, b2, fun g p hE hC hN => b3 g p hE hC hN⟩
    · exact b1.stp.dn x f (by simp; omega) q2 q3
  · rw [hat] at hf
    injection hf with hf
    subst hf
    exact ⟨hnp, c3⟩
  · obtain ⟨m0, hm⟩ := b4 L' [] ⟨fun y g hg => ⟨g, hg, List.prefix_refl _, List.prefix_refl _⟩, fun _ _ _ => rfl, fun y g h hg hh => by rw [hg] at hh; injection hh with hh; subst hh; exact Int.le_refl _⟩ rfl (fun j i hj => by
      unfold insP
      rw [hat, Nat.zero_add]
      exact hj)
    obtain ⟨p1, h1, h2⟩ := hm m0 (Nat.le_refl _)
    obtain ⟨h2, h3, h4, h5, h6, h7⟩ := h2
    exact ⟨m0, f', p1, hat, c3, h1, h2, h3, h4, h5, ⟨by rw [h6, hnp]; rfl, h7⟩, ⟨by rw [c3]; exact List.nodup_nil, by rw [c3]; simp⟩, b1.inv.kq, (fun xL E' q => by cases q), fun _ => c2⟩
end Go.Wl
