/- Plain: the interpreter and the machine go on together: any call; any task; the whole run. -/
import Derived.Test.Qxb6500573aGreatDoorSim35
import Derived.Test.Qxb6500573aGreatDoorSimJ
namespace Go.Sm
open Go Go.Sl Go.Wl Go.Nm Go.Proofs
set_option linter.unusedVariables false
section
variable {K : Cn} {s : RnM} {m : VM} {S : List Nat} {cn : Int} {ρ : Nat → Option Plc} {fi : Nat → List FI} {c : Cx} {t : Th} {l : List FI} {F : FI} {Tk : List TkM} {W low ops : List V}
theorem sim_call (Y : Vw K s m S cn ρ fi c t l F Tk W low ops) {n : Int} {d : Nd} {e : Option Nat} {T : List TkM} {j no w : Nat} (hT : F.T = ⟨22, n, (j : Int), e⟩ :: T) (hn : F.no = no + j + 1) (hd : Go.Wl.nd K.ns n = some d) (hj : j ≤ 3) (i : insP K.P F.x F.pc = some (26, (j : Int))) (ht : ∀ p, p ∈ F.tb → p < no) (k : KtV K s m ρ c F F.br F.L (F.pc + 1) (no + 2) F.tb T w) (hJ : (0 ≤ cn ∧ cn ≤ 4) ∧ (S = [] → c.th = 0)) : Prog K F.w s (.run S c.th cn m) := by
  have hno := Y.nops
  obtain ⟨ops', f, args, ho, hl1, hl2⟩ : ∃ ops' f args, ops = ops' ++ [f] ++ args ∧ ops'.length = no ∧ args.length = j := by
    cases h : ops.drop no with
    | nil =>
      have := congrArg List.length h
      rw [List.length_drop, List.length_nil] at this
      omega
    | cons f args =>
      have h2 := congrArg List.length h
      rw [List.length_drop, List.length_cons] at h2
      refine ⟨ops.take no, f, args, ?_, by rw [List.length_take]; omega, by omega⟩
      rw [List.append_assoc, show [f] ++ args = f :: args from rfl, ← h, List.take_append_drop]
  subst hl2
  rcases Y.N.xcall (Y.ins i) hj (Z := low ++ ops') (args := args) (f := f) (by rw [Y.sk, ho]; simp only [List.append_assoc]) rfl with ⟨h0, hv⟩ | ⟨h0, hv⟩
  · exact Y.dry hT hd (by rw [Y.R.fu]; exact h0) hv
  · have Z : Cl22 K s m S cn ρ fi c t l F Tk W low ops n e T no w ops' args f := ⟨Y, hT, ⟨d, hd⟩, hj, ho, hl1.symm, ht, k, ⟨by rw [Y.R.fu]; exact h0, by rw [Y.R.fu]; exact Y.N.run.mi.fu.2⟩, hv⟩
    by_cases h5 : f.t = 5
    · exact call_fn Z h5
    by_cases h6 : f.t = 6
    · have vf : VVm m f := Y.vv (by rw [ho]; simp)
      have hw : 1 ≤ f.n ∧ f.n ≤ 11 := by
        have h1 := vf.wl
        unfold well at h1
        rw [if_neg (by omega)] at h1
        split at h1
        · cases h1
        · rw [if_neg (by omega), if_neg (by omega)] at h1
          exact of_decide_eq_true h1
      have hc : f.n = 1 ∨ f.n = 2 ∨ f.n = 3 ∨ f.n = 4 ∨ f.n = 5 ∨ f.n = 6 ∨ f.n = 7 ∨ f.n = 8 ∨ f.n = 9 ∨ f.n = 10 ∨ f.n = 11 := by omega
      rcases hc with q | q | q | q | q | q | q | q | q | q | q
      · exact call_print Z h6 q
      · exact call_str Z h6 q
      · exact call_num Z h6 q
      · exact call_type Z h6 q
      · exact call_error Z h6 q
      · exact call_pcall Z h6 q
      · exact call_next Z h6 q
      · exact call_create Z h6 q
      · exact call_resume Z hJ.1 h6 q
      · exact call_yield Z hJ.2 h6 q
      · exact call_status Z h6 q
    · exact call_none Z h5 h6
end
/-- Any task. -/
theorem sim {K : Cn} (hK : Kok K) {s : RnM} {S : List Nat} {th w : Nat} {cn : Int} {m : VM} (hR : RR K w s (.run S th cn m)) (hJ : Jc K.g K.PT (.run S th cn m)) : Prog K w s (.run S th cn m) := by
  cases hR with
  | @run _ _ _ _ ρ fi c l F hg hp hr R hf =>
    obtain ⟨t, l2, F2, Tk, W, low, ops, Y⟩ := view hK R hr hg hp
    obtain ⟨e1, e2⟩ := List.append_inj' (hf.symm.trans Y.hfi) rfl
    injection e2 with e2 _
    subst e1 e2
    have hJ' := hJ.cn
    have hpos : ∀ {hi : Nat} {d : Nd}, K.ns[hi]? = some d → d.k ≠ 0 → 0 < hi := fun {hi d} hd hk => by
      refine Nat.pos_of_ne_zero fun q => ?_
      subst q
      rw [hK.n0] at hd
      injection hd with hd
      subst hd
      exact hk rfl
    have hkt := Y.fr.kt
    obtain ⟨x, E, br, L, B, up, pc, T, w, h, nsl, no, tb, iv⟩ := F
    dsimp only at hkt
    cases hkt with
    | ret i0 i1 i2 => exact sim_ret Y rfl rfl i0 i1 i2
    | hid i hb k => exact sim_hid Y rfl i k
    | jmp i hq k => exact sim_jmp Y i hq k
    | eval h ve hb ht k => exact sim_eval Y rfl rfl h ve hb ht k (fun d hd hk hs hn hv k' => by subst hn; exact sim_name Y rfl (hpos hd (by omega)) hd hk hs ve hv ht k') (fun d hd hk hn hsp k' => by subst hn; exact sim_func Y rfl (hpos hd (by omega)) hd hk hsp ve ht k') (fun d m1 hd hk hn hl i hsp => by subst hn; exact sim_table Y rfl hd hk hl i hsp ve hb ht k)
    | one i hc hb ht k => exact sim_one Y rfl i hc ht k
    | pop i hb ht k => exact sim_pop Y rfl rfl i ht k
    | idx i hb ht k => exact sim_idx Y rfl rfl i ht k
    | bin hd ho i hb ht k => exact sim_bin Y rfl rfl hd ho i ht k
    | una hd ho i hb ht k => exact sim_una Y rfl rfl hd ho i ht k
    | log hd hk i h ve hb ht k => exact sim_log Y rfl rfl hd hk i h ve hb ht k
    | item hd i h ve hb ht h0 hsb k => exact sim_item Y rfl rfl hd i h ve hb ht h0 hsb k
    | call hd hj i hb ht k => exact sim_call Y rfl rfl hd hj i ht k hJ'
    | bind hd hs' i h lb hz v ve hb k => exact sim_bind Y rfl rfl hd hs' i h lb hz v ve hb k
    | bind2 hd ha hb' hs' i0 i1 h lb hz v ve hb k => exact sim_bind2 Y rfl rfl hd ha hb' hs' i0 i1 h lb hz v ve hb k
    | stN hd hn v ve hb ht k => exact sim_stN Y rfl rfl hd hn v ve ht k
    | stI i hb ht k => exact sim_stI Y rfl rfl i ht k
    | cond hd i1 h2 v2 i2 h3 v3 ve hb k => exact sim_cond Y rfl rfl hd i1 h2 v2 i2 h3 v3 ve hb k
    | block h lb hz v ve hb k => exact sim_block Y rfl rfl rfl rfl h lb hz v ve hb k (fun mi d d1 m1 p h0 hlo hhi hn hd hk hs hd1 hk1 hm1 h1 i1 h2 => by subst hn; exact sim_locFn Y rfl rfl h0 hlo hhi hd hk hs hd1 hk1 h1 i1 h2 lb hz v ve hb k) (fun mi base out p d h0 hlo hhi hn hd hk hbr hv i h2 => by subst hn; exact sim_brk (lo := 0) Y rfl rfl h0 hd hk hbr hv i h2 lb v ve k)
    | loopW hh hb hiv k => exact sim_loop Y rfl rfl rfl (Nat.lt_succ_self _) k
    | cls i k => exact sim_cls Y rfl i k
    | whl hd D ve hb hl k => exact sim_whl Y rfl rfl rfl rfl hd D ve hb hl k
    | whlT hd D ve hb hl k => exact sim_whlT Y rfl rfl hd D ve hb hl k
    | whlB hd D ve hb hl k => exact sim_whlB Y rfl rfl hd D ve hb hl k
    | forI hd D ve hb hiv k => exact sim_forI Y rfl rfl rfl rfl rfl hd D ve hb hiv k
    | forT hd D ve hb hiv k => exact sim_forT Y rfl rfl rfl rfl rfl hd D ve hb hiv k
    | forB hd D ve hb hiv k => exact sim_forB Y rfl rfl rfl rfl hd D ve hb hiv k
    | inI hd D ve hb hiv k => exact sim_inI Y rfl rfl rfl rfl rfl hd D ve hb hiv k
    | inT hd D ve hb hiv k => exact sim_inT Y rfl rfl rfl rfl rfl rfl hd D ve hb hiv k
    | inB hd D ve hb hiv k => exact sim_inB Y rfl rfl rfl rfl rfl hd D ve hb hiv k
    | rtn i hb ht k => exact sim_rtn (no := 0) Y rfl i k
/-- The whole run. -/
theorem sims {K : Cn} (hK : Kok K) {r : An} {cn' : Int} {m' : VM} (n : Nat) : ∀ (w : Nat) (s : RnM) (cfg : Cfg), RR K w s cfg → Jc K.g K.PT cfg → GS n cfg (.fin r cn' m') → (∃ s', MS s s' ∧ s'.done = true ∧ s'.ans = ansOf r cn' m') ∧ ∃ rs, TsX m'.vs.tabs rs := by
  induction n using Nat.strongRecOn with
  | ind n ihn =>
    intro w
    induction w using Nat.strongRecOn with
    | ind w ihw =>
      intro s cfg hR hJ hG
      cases cfg with
      | fin r1 cn1 m1 =>
        cases hG with
        | refl =>
          cases hR with
          | fin hd ha ht => exact ⟨⟨s, .refl _, hd, ha⟩, ht⟩
        | step h _ => cases h
      | run S th cn m =>
        obtain ⟨k, s1, cfg1, w1, h1, h2, h3, h4⟩ := sim hK hR hJ
        obtain ⟨q1, q2⟩ := hG.rest h2
        have hJ1 := h2.J hJ
        have fin : ((∃ s', MS s1 s' ∧ s'.done = true ∧ s'.ans = ansOf r cn' m') ∧ ∃ rs, TsX m'.vs.tabs rs) → (∃ s', MS s s' ∧ s'.done = true ∧ s'.ans = ansOf r cn' m') ∧ ∃ rs, TsX m'.vs.tabs rs := fun ⟨⟨s', a, b⟩, c⟩ => ⟨⟨s', h1.trans a, b⟩, c⟩
        by_cases hk : 1 ≤ k
        · exact fin (ihn (n - k) (by omega) w1 s1 cfg1 h3 hJ1 q2)
        · have hk0 : k = 0 := by omega
          subst hk0
          exact fin (ihw w1 (by omega) s1 cfg1 h3 hJ1 q2)
end Go.Sm
