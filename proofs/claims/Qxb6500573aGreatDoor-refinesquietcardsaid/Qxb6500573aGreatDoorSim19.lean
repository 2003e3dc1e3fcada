/- Plain: the interpreter and the machine go on together: a loop over a table goes on. -/
import Derived.Test.Qxb6500573aGreatDoorSim18
namespace Go.Sm
open Go Go.Sl Go.Wl Go.Nm Go.Proofs
set_option linter.unusedVariables false
theorem live_in : ∀ l : Row, liveL l ∈ l ∨ liveL l = (V.nil, V.nil)
  | [] => .inr rfl
  | e :: l => by
    unfold liveL
    split
    · exact .inl List.mem_cons_self
    · rcases live_in l with q | q
      · exact .inl (List.mem_cons_of_mem _ q)
      · exact .inr q
theorem findL_mem {k : V} : ∀ {l : Row} {i : Nat}, k ∈ l.map (·.1) → 0 ≤ findL l k i
  | [], _, h => by cases h
  | e :: l, i, h => by
    unfold findL
    split
    · omega
    · rename_i q
      rcases List.mem_cons.1 h with h | h
      · exact absurd h.symm q
      · exact findL_mem h
/-- The key that next gives is found. -/
theorem nx_next {tabs : List Tb} {ts : List Row} (h : TsX tabs ts) {t k : V} (ht : t.t = 4) (hj : t.n.toNat < tabs.length) (h1 : (nextR (tabs.getD t.n.toNat Tb.empty).order k).1.t ≠ 0) : NxOk tabs t (nextR (tabs.getD t.n.toNat Tb.empty).order k).1 := by
  refine ⟨ht, ?_⟩
  obtain ⟨r1, r2, r3⟩ := h.row hj
  rw [r2] at h1 ⊢
  have hin : (nextR tabs[t.n.toNat].order k).1 ∈ tabs[t.n.toNat].order.map (·.1) := by
    have key : ∀ n, (liveL (tabs[t.n.toNat].order.drop n)).1.t ≠ 0 → (liveL (tabs[t.n.toNat].order.drop n)).1 ∈ tabs[t.n.toNat].order.map (·.1) := fun n hn => by
      rcases live_in (tabs[t.n.toNat].order.drop n) with q | q
      · exact List.mem_map.2 ⟨_, List.mem_of_mem_drop q, rfl⟩
      · rw [q] at hn; exact absurd rfl hn
    unfold nextR at h1 ⊢
    split at h1
    · split at h1
      · exact absurd rfl h1
      · rename_i q1 q2
        rw [if_pos q1, if_neg q2]
        exact key _ h1
    · rename_i q1
      rw [if_neg q1]
      exact key 0 h1
  have hkn := r3.ix.kk _ hin
  rw [next0]
  intro _
  unfold findW
  have e : normV (nextR tabs[t.n.toNat].order k).1 = (nextR tabs[t.n.toNat].order k).1 := by
    unfold normV
    rw [if_neg (fun q => (hkn.nu q.1).2 q.2)]
  rw [e]
  exact findL_mem hin
section
variable {K : Cn} {s : RnM} {m : VM} {S : List Nat} {cn : Int} {ρ : Nat → Option Plc} {fi : Nat → List FI} {c : Cx} {t : Th} {l : List FI} {F : FI} {Tk : List TkM} {W low ops : List V}
theorem sim_inT (Y : Vw K s m S cn ρ fi c t l F Tk W low ops) {p1 p4 p5 m2 m3 w : Nat} {n : Int} {d dk dv : Nd} {e : Option Nat} {T : List TkM} {L L1 : List Nm8} {iv : List Nat} (hT : F.T = ⟨19, n, 0, e⟩ :: T) (hL : F.L = L ++ [[], []]) (hpc : F.pc = p1 + 3) (hn0 : F.no = 0) (ht0 : F.tb = []) (hI : F.iv = hidN L :: iv) (hd : nd K.ns n = some d) (D : InD K.ns K.P F.x F.E L d dk dv p1 p4 p5 m2 m3 L1) (ve : VOf K s m ρ c F L e) (hb : T.length + 7 * (m3 - m2) + 1 ≤ K.HB) (hiv : ∀ q, q ∈ iv → q + 2 ≤ hidN L) (k : Kt K.ns K.P F.x F.E K.HB (VOk K.P s.envs ρ m c.th F.B F.x F.E F.up) F.h (if c.f.prot = true then 1 else 0) iv (some (L.length, p4 + 2)) L (p4 + 2) 0 [] T w) : Prog K F.w s (.run S c.th cn m) := by
  have hops := ops0 Y.toVs hn0
  have htl := Y.tlen hT
  have hsk : t.stack = low := by rw [Y.sk, hops, List.append_nil]
  have hlo := Y.lo
  have hbase := Y.base
  have hll := Y.fr.ll
  have hn := Y.hn
  have hle := D.le
  have hlen : F.L.length = L.length + 2 := by rw [hL]; simp
  have hr := D.hr
  have hj := hr.j3
  rw [← hpc] at hj
  obtain ⟨_, f1, f2⟩ := Y.N.for3 (Y.ins hj) (.inr (.inr rfl))
  have hnsl : L.length + 4 ≤ F.nsl := by omega
  obtain ⟨v0, h0⟩ : ∃ v0, low[F.B + L.length]? = some v0 := ⟨_, getD_some (by omega)⟩
  obtain ⟨v1, h1⟩ : ∃ v1, low[F.B + L.length + 1]? = some v1 := ⟨_, getD_some (by omega)⟩
  have gd : ∀ {X : List V} {i : Nat} {x : V}, X[i]? = some x → X.getD i V.nil = x := fun h => by rw [List.getD_eq_getElem?_getD, h]; rfl
  have ehX : ∀ X : List V, hidV X F.B F.L = hidV X F.B L ++ [X.getD (F.B + L.length) V.nil, X.getD (F.B + L.length + 1) V.nil] := fun X => by
    rw [hL, hidV_app]
    rfl
  have ehid : hidV low F.B F.L = hidV low F.B L ++ [v0, v1] := by rw [ehX, gd h0, gd h1]
  have va : VVm m v0 := Y.N.thr.vv _ (by rw [hsk]; exact List.mem_of_getElem? h0)
  have vk : VVm m v1 := Y.N.thr.vv _ (by rw [hsk]; exact List.mem_of_getElem? h1)
  have hnx : NxOk m.vs.tabs v0 v1 := by
    obtain ⟨_, x, y, q1, q2, q3⟩ := Y.ivs (hidN L) (by rw [hI]; exact List.mem_cons_self)
    rw [ehid, List.getElem?_append_right (by rw [hidV_len]; omega), hidV_len] at q1 q2
    rw [Nat.sub_self] at q1
    rw [show hidN L + 1 - hidN L = 1 from by omega] at q2
    injection q1 with q1
    injection q2 with q2
    subst q1 q2
    exact q3
  obtain ⟨h4, hx0⟩ := hnx
  obtain ⟨t1, t2, _⟩ := Y.tab va h4 (T ++ Tk) (W ++ (hidV low F.B F.L ++ ops))
  have t3 : ∀ T X, tbOk (Go.Sm.ms s T X) v0 := fun T X => (Y.tab va h4 T X).2.2
  have htn := Y.N.run.mi.tn
  obtain ⟨r, n1, n2, n3⟩ := nextM_ok Y.N.run.mi.tb t2 vk
  have nW : nextW s.ts v0.n.toNat v1 = r := next_all Y.R.ts (fun t ht e he => ((Y.N.run.mi.tb t ht).ord e he).2) (j := v0.n.toNat) (by omega) vk (by rw [Int.toNat_of_nonneg t2.1]; exact n1)
  have nR : nextR (m.vs.tabs.getD v0.n.toNat Tb.empty).order v1 = r := by
    rw [tsx_ord Y.R.ts]
    rw [← nW]
    unfold nextW
    rw [if_neg (by rw [vk.wl]; decide)]
  have nE : r.2.2 = 0 := by rw [← nR]; exact hx0
  have g1 := (Y.N.xnext (Y.ins hj) (v0 := v0) (v1 := v1) (by rw [hsk, Y.hB, Int.toNat_natCast]; exact h0) (by rw [hsk, Y.hB, Int.toNat_natCast]; exact h1)).2 h4 r t1 ⟨t2.1, t2.2, by omega, vk.nn⟩ n1 nE
  rw [hsk, Y.hB, Int.toNat_natCast] at g1
  generalize hlow : ((low.set (F.B + L.length + 1) r.1).set (F.B + L.length + 2) r.1).set (F.B + L.length + 3) r.2.1 = low3 at g1
  have l3 : low3.length = low.length := by rw [← hlow]; simp
  have s0 : ∀ a, a < F.B + L.length + 1 → low3[a]? = low[a]? := fun a ha => by rw [← hlow, List.getElem?_set_ne (by omega), List.getElem?_set_ne (by omega), List.getElem?_set_ne (by omega)]
  have s1 : low3[F.B + L.length + 1]? = some r.1 := by rw [← hlow, List.getElem?_set_ne (by omega), List.getElem?_set_ne (by omega), List.getElem?_set_self (by omega)]
  have s2 : low3[F.B + L.length + 2]? = some r.1 := by rw [← hlow, List.getElem?_set_ne (by omega), List.getElem?_set_self (by rw [List.length_set]; omega)]
  have s3 : low3[F.B + L.length + 3]? = some r.2.1 := by rw [← hlow, List.getElem?_set_self (by rw [List.length_set, List.length_set]; omega)]
  have eh3 : hidV low3 F.B L = hidV low F.B L := hidV_congr _ _ fun k hk => s0 _ (by have := lt_of hk; omega)
  have htk : low3.take F.B = low.take F.B := by
    apply List.ext_getElem?
    intro a
    by_cases ha : a < F.B
    · rw [List.getElem?_take_of_lt ha, List.getElem?_take_of_lt ha]; exact s0 a (by omega)
    · rw [List.getElem?_eq_none (by rw [List.length_take]; omega), List.getElem?_eq_none (by rw [List.length_take]; omega)]
  have N1 := Y.N.on g1
  have g2 := N1.xjf (q := p4 + 2) (Y.ins (by rw [hpc]; exact hr.j4)) (by omega) (S := low3) (v := boolV (decide (r.1.t ≠ 0))) rfl
  rw [upd_upd, truthy_bool] at g2
  have eX : W ++ (hidV low F.B F.L ++ ops) = (W ++ hidV low F.B L) ++ [v0, v1] := by rw [ehid, hops, List.append_nil, List.append_assoc]
  have hXl : (W ++ (hidV low F.B F.L ++ ops)).length ≤ 1000000 := by simp only [List.length_append]; omega
  have hXn : (W ++ (hidV low F.B F.L ++ ops)).length = (W ++ hidV low F.B L).length + 2 := by rw [eX, List.length_append]; rfl
  have top2 : ∀ T, vTop 2 (Go.Sm.ms s T (W ++ (hidV low F.B F.L ++ ops))) = some v0 := fun T => by
    refine ms_top Y.cur hXl (by omega) ?_
    rw [hXn, eX, List.getElem?_append_right (by omega), show (W ++ hidV low F.B L).length + 2 - 2 - (W ++ hidV low F.B L).length = 0 from by omega]
    rfl
  have top1 : ∀ T, vTop 1 (Go.Sm.ms s T (W ++ (hidV low F.B F.L ++ ops))) = some v1 := fun T => by
    refine ms_top Y.cur hXl (by omega) ?_
    rw [hXn, eX, List.getElem?_append_right (by omega), show (W ++ hidV low F.B L).length + 2 - 1 - (W ++ hidV low F.B L).length = 1 from by omega]
    rfl
  have hnk := Y.numr vk
  by_cases hz : r.1.t = 0
  · rw [if_neg (by simp [hz])] at g2
    have N2 := N1.on2 g2
    have R' := Y.loc (iv' := iv) (L' := L) (low' := low3) (ops' := []) l3 htk (fun k nm h hn => by
      have h' := named_pre (L := L) (R := [[], []]) (by simp) (by rw [← hL]; exact h) hn
      exact ⟨h', s0 _ (by have := lt_of h'; omega)⟩) (by omega) k rfl tb_nil (fun q hq => ⟨hiv q hq, by rw [eh3]; exact NxAt.hid (by rw [← hL]; exact (Y.ivs q (by rw [hI]; exact List.mem_cons_of_mem _ hq)).2) (hiv q hq)⟩)
    rw [List.append_nil low3, eh3] at R'
    refine Y.stepN (n := 2) (Y.task hT (by intro q; cases q) (Y.nd hd) ?_) (.step (gstep_ok g1) (.one (gstep_ok g2))) (by decide) N2.go ⟨rfl, rfl, rfl⟩ R' (fiUp_at _ _ _)
    rw [rt19]
    unfold k19
    rw [top2, b1, top1, b1, if_neg (fun q => q ⟨t3 _ _, hnk⟩), show (Go.Sm.ms s (T ++ Tk) (W ++ (hidV low F.B F.L ++ ops))).ts = s.ts from rfl, nW, if_pos hz, ms_cut (W := W ++ (hidV low F.B F.L ++ ops)) Y.cur hXl (by omega), hXn, Nat.add_sub_cancel, eX, List.take_left, List.append_nil]
  · rw [if_pos (by simp [hz])] at g2
    have N2 := N1.on2 g2
    have eL : F.L ++ [dk.s, dv.s] = L ++ [[], [], dk.s, dv.s] := by rw [hL]; simp
    have ehF : hidV low3 F.B F.L = hidV low F.B L ++ [v0, r.1] := by rw [ehX, eh3, gd (x := v0) (by rw [s0 _ (by omega)]; exact h0), gd s1]
    have ve2 : VOf K s m ρ c F F.L e := by
      have := VOk.hid (VOk.hid ve)
      rw [show L ++ [[]] ++ [[]] = F.L from by rw [hL]; simp] at this
      exact this
    have hw2 : EnvWf (s.envs ++ [⟨dk.s, r.1, e⟩, ⟨dv.s, r.2.1, some s.envs.length⟩]) := by
      have h1 := wf_snoc (nm := dk.s) (v := r.1) Y.R.wf ve.rg
      have h2 := wf_snoc (nm := dv.s) (v := r.2.1) (e := some s.envs.length) h1 (fun i hi => by injection hi with hi; subst hi; simp)
      rw [List.append_assoc] at h2
      exact h2
    have hv2 : VOk K.P (s.envs ++ [⟨dk.s, r.1, e⟩, ⟨dv.s, r.2.1, some s.envs.length⟩]) (rhoN ρ s.envs.length c.th (F.B + F.L.length) 2) m c.th F.B F.x F.E F.up (F.L ++ [dk.s, dv.s]) (some (s.envs.length + 1)) := by
      have h1 := VOk.snoc (nm := dk.s) (v := r.1) (ρ' := rhoN ρ s.envs.length c.th (F.B + F.L.length) 1) ve2 (by have := rhoN_new (ρ := ρ) (n0 := s.envs.length) (th := c.th) (o := F.B + F.L.length) (n := 1) (j := 0) (by omega); rw [Nat.add_zero, Nat.add_zero] at this; exact this) (fun i hi => rhoN_old hi)
      have h2 := VOk.snoc (nm := dv.s) (v := r.2.1) (ρ' := rhoN ρ s.envs.length c.th (F.B + F.L.length) 2) h1 (by rw [List.length_append, List.length_singleton, rhoN_new (by omega), List.length_append, List.length_singleton, Nat.add_assoc]) (fun i hi => by
        rw [List.length_append, List.length_singleton] at hi
        by_cases q : i < s.envs.length
        · rw [rhoN_old q, rhoN_old q]
        · have : i = s.envs.length + 0 := by omega
          rw [this, rhoN_new (by omega), rhoN_new (by omega)])
      rw [List.append_assoc, List.append_assoc, List.length_append, List.length_singleton] at h2
      exact h2
    have hc : Chg AllK s.envs ρ m (s.envs ++ [⟨dk.s, r.1, e⟩, ⟨dv.s, r.2.1, some s.envs.length⟩]) (rhoN ρ s.envs.length c.th (F.B + F.L.length) 2) m := Chg.new rfl rfl
    have R' := Y.binds (iv' := F.iv) (nms := [dk.s, dv.s]) (news := [⟨dk.s, r.1, e⟩, ⟨dv.s, r.2.1, some s.envs.length⟩]) (br' := some (L.length, p4 + 2)) (no' := 0) (tb' := []) (T' := ⟨1, d.c, 0, some (s.envs.length + 1)⟩ :: ⟨20, n, 0, e⟩ :: T) (pc' := F.pc + 1 + 1) (w' := w + 1 + (6 * (m3 - m2) + 1)) (low' := low3) (ops' := []) l3 htk (fun k nm h1 h2 => s0 _ (by
        have h' := named_pre (L := L) (R := [[], []]) (by simp) (by rw [← hL]; exact h1) h2
        have := lt_of h'
        omega)) (by simp; omega) rfl (fun j nm hj => by
        match j, hj with
        | 0, hj => injection hj with hj; subst hj; exact D.hs.1
        | 1, hj => injection hj with hj; subst hj; exact D.hs.2) (fun j ev hj => by
        match j, hj with
        | 0, hj => injection hj with hj; subst hj; show low3[F.B + F.L.length]? = some r.1; rw [hlen]; exact s2
        | 1, hj => injection hj with hj; subst hj; show low3[F.B + F.L.length + 1]? = some r.2.1; rw [hlen]; exact s3) hw2 (by
        have hvb := hv2
        rw [eL] at hvb ⊢
        rw [hpc, hI]
        exact .block D.hb (List.prefix_refl _) rfl (by rw [show (L ++ [[], [], dk.s, dv.s]).length = L.length + 4 from by simp]; exact D.hv) hvb (by simp only [List.length_cons]; omega) (.inB hd D (ve.chg hc fun _ _ _ _ => trivial) hb hiv (k.mono (b := L.length) (fun L e hl hv => hv.chg hc fun _ _ _ _ => trivial) (Nl.self _)))) rfl tb_nil (fun q hq => by
        rw [hI] at hq
        rcases List.mem_cons.1 hq with rfl | hq
        · refine ⟨by rw [hL, hidN_app]; exact Nat.le_refl _, v0, r.1, ?_, ?_, ?_⟩
          · rw [ehF, List.getElem?_append_right (by rw [hidV_len]; exact Nat.le_refl _), hidV_len, Nat.sub_self]; rfl
          · rw [ehF, List.getElem?_append_right (by rw [hidV_len]; omega), hidV_len, show hidN L + 1 - hidN L = 1 from by omega]; rfl
          · have := nx_next Y.R.ts (k := v1) h4 (by omega) (by rw [nR]; exact hz)
            rw [nR] at this
            exact this
        · have h1 := hiv q hq
          refine ⟨by rw [hL, hidN_app]; omega, ?_⟩
          rw [ehF]
          exact (NxAt.hid (by rw [← hL]; exact (Y.ivs q (by rw [hI]; exact List.mem_cons_of_mem _ hq)).2) h1).app _)
    rw [List.append_nil low3, ehF] at R'
    refine Y.stepN (n := 2) (Y.task hT (by intro q; cases q) (Y.nd hd) ?_) (.step (gstep_ok g1) (.one (gstep_ok g2))) (by decide) N2.go ⟨rfl, rfl, rfl⟩ R' (fiUp_at _ _ _)
    rw [rt19]
    unfold k19
    rw [top2, b1, top1, b1, if_neg (fun q => q ⟨t3 _ _, hnk⟩), show (Go.Sm.ms s (T ++ Tk) (W ++ (hidV low F.B F.L ++ ops))).ts = s.ts from rfl, nW, if_neg hz, ms_put Y.cur _ hXl (by omega), b1]
    have eP : (W ++ (hidV low F.B F.L ++ ops)).set ((W ++ (hidV low F.B F.L ++ ops)).length - 1) r.1 = W ++ (hidV low F.B L ++ [v0, r.1] ++ []) := by
      rw [hXn, eX, List.set_append_right _ _ (by omega), show (W ++ hidV low F.B L).length + 2 - 1 - (W ++ hidV low F.B L).length = 1 from by omega, List.append_nil, List.append_assoc]
      rfl
    rw [eP, show ndG (Go.Sm.ms s (T ++ Tk) (W ++ (hidV low F.B L ++ [v0, r.1] ++ []))) d.a = some dk from Y.nd D.hdk, b1, show ndG (Go.Sm.ms s (T ++ Tk) (W ++ (hidV low F.B L ++ [v0, r.1] ++ []))) dk.next = some dv from Y.nd D.hdv, b1]
    unfold newE
    rw [if_pos (show ∀ i, e = some i → i < (Go.Sm.ms s (T ++ Tk) (W ++ (hidV low F.B L ++ [v0, r.1] ++ []))).envs.length from ve.rg), b2]
    show bind1 (rdo 20 n 0 e (Go.Sm.ms { s with envs := s.envs ++ [⟨dk.s, r.1, e⟩] } (T ++ Tk) (W ++ (hidV low F.B L ++ [v0, r.1] ++ [])))) _ = _
    rw [ms_do (s := { s with envs := s.envs ++ [⟨dk.s, r.1, e⟩] }) Y.cur _ _ _ (by omega) (fun i hi => by have := ve.rg i hi; show i < (s.envs ++ [_]).length; rw [List.length_append]; omega), b1]
    rw [if_pos (fun i hi => by injection hi with hi; subst hi; show _ < (s.envs ++ [_]).length; simp; exact Nat.lt_succ_self _), b2]
    show rdo 1 d.c 0 (some (s.envs ++ [(⟨dk.s, r.1, e⟩ : EvM)]).length) (Go.Sm.ms { s with envs := s.envs ++ [⟨dk.s, r.1, e⟩] ++ [⟨dv.s, r.2.1, some s.envs.length⟩] } (⟨20, n, 0, e⟩ :: (T ++ Tk)) (W ++ (hidV low F.B L ++ [v0, r.1] ++ []))) = _
    rw [ms_do (s := { s with envs := s.envs ++ [⟨dk.s, r.1, e⟩] ++ [⟨dv.s, r.2.1, some s.envs.length⟩] }) Y.cur _ _ _ (by simp only [List.length_cons]; omega) (fun i hi => by injection hi with hi; subst hi; show _ < (s.envs ++ [_] ++ [_]).length; simp)]
    rw [List.append_assoc s.envs, List.length_append, List.length_singleton]
    rfl
end
end Go.Sm
