/- Plain: the interpreter and the machine go on together: tables, stores to names. -/
import Derived.Test.Qxb6500573aGreatDoorSim5
namespace Go.Sm
open Go Go.Sl Go.Wl Go.Nm Go.Proofs
set_option linter.unusedVariables false
section
variable {K : Cn} {s : RnM} {m : VM} {S : List Nat} {cn : Int} {ρ : Nat → Option Plc} {fi : Nat → List FI} {c : Cx} {t : Th} {l : List FI} {F : FI} {Tk : List TkM} {W low ops : List V}
theorem thr_rest {U : RnM → Option RnM} (hU : ∀ s, s.done = false → U s = some s) (x : Option RnM) : (bind1 x fun m2 => if m2.done = false then U m2 else some m2) = x := by
  cases x with
  | none => rfl
  | some s2 =>
    rw [b1]
    by_cases h : s2.done = false
    · rw [if_pos h, hU s2 h]
    · rw [if_neg h]
/-- The items that are left. -/
theorem Vw.items (Y : Vw K s m S cn ρ fi c t l F Tk W low ops) {lo hi pc q no w : Nat} {tb tb' : List Nat} {n j : Int} {e : Option Nat} {T : List TkM} (h : Sp K.ns K.P (.it j) lo hi F.x F.E F.L pc n q) (ve : VOf K s m ρ c F F.L e) (hb : T.length + 7 * (hi - lo) + 1 ≤ K.HB) (htl : (T ++ Tk).length + 1 ≤ 100000) (ht : ∀ p, p ∈ tb' → p < no + 1) (h0 : no ∈ tb') (hsb : ∀ p, p ∈ tb → p ∈ tb') (k : KtV K s m ρ c F F.br F.L q (no + 1) tb T w) :
    ∃ T' w' tb2, (∀ s' : RnM, s'.envs = s.envs → Go.Nm.curOk s' → ∀ X, ritems n (j + 1) e (Go.Sm.ms s' (T ++ Tk) X) = some (Go.Sm.ms s' (T' ++ Tk) X)) ∧ KtV K s m ρ c F F.br F.L pc (no + 1) tb2 T' w' ∧ ∀ p, p ∈ tb2 → p ∈ tb' := by
  cases h with
  | inil => exact ⟨T, w, tb, (fun s' _ _ X => by unfold ritems; rw [if_pos rfl]), k, hsb⟩
  | @icons _ md _ _ _ p1 _ _ _ d _ hm hd h1 i1 h2 =>
    have r1 := h1.reg
    have r2 := h2.reg
    refine ⟨⟨2, (md : Int), 0, e⟩ :: ⟨23, (md : Int), j + 1, e⟩ :: T, _, tb', fun s' he hc X => ?_, .eval h1 ve (by simp only [List.length_cons]; omega) ht (.item (nd_pos hd) i1 h2 ve (by omega) ht h0 hsb k), fun _ h => h⟩
    unfold ritems
    rw [if_neg (by omega), ms_do hc _ _ _ (by omega) (by rw [he]; exact ve.rg), b1, ms_do hc _ _ _ (by simp only [List.length_cons]; omega) (by rw [he]; exact ve.rg)]
    rfl
theorem sim_item (Y : Vw K s m S cn ρ fi c t l F Tk W low ops) {lo hi q no w : Nat} {tb : List Nat} {n j : Int} {d : Nd} {e : Option Nat} {T : List TkM} (hT : F.T = ⟨23, n, j, e⟩ :: T) (hn : F.no = no + 2) (hd : nd K.ns n = some d) (i : insP K.P F.x F.pc = some (13, j)) (h : Sp K.ns K.P (.it j) lo hi F.x F.E F.L (F.pc + 1) d.next q) (ve : VOf K s m ρ c F F.L e) (hb : T.length + 7 * (hi - lo) + 1 ≤ K.HB) (ht : ∀ p, p ∈ F.tb → p < no + 1) (h0 : no ∈ F.tb) (hsb : ∀ p, p ∈ tb → p ∈ F.tb) (k : KtV K s m ρ c F F.br F.L q (no + 1) tb T w) : Prog K F.w s (.run S c.th cn m) := by
  have hdd := Y.nd hd
  have htl := Y.tlen hT
  obtain ⟨_, hx, _⟩ := Y.N.step (Y.ins i)
  obtain ⟨ops', tv, v, ho⟩ := Y.top2 (Y.need (Y.ins i) (n := 2) rfl)
  have hno := Y.nops
  have hlen : ops.length = ops'.length + 2 := by rw [ho]; simp
  have hbase := Y.base
  have hsm := Y.N.small
  have hsk : t.stack = (low ++ (ops' ++ [tv])) ++ [v] := by rw [Y.sk, ho]; simp only [List.append_assoc]
  obtain ⟨T', w', tb2, g1, g2, g3⟩ := Y.items (no := no) h ve hb htl ht h0 hsb k
  have hvt : VVm m tv := Y.vv (by rw [ho]; simp)
  have hj := numI_ok (n := j.toNat) (by omega)
  rw [Int.toNat_of_nonneg hx.1] at hj
  have hvk : VVm m (numI j) := VV.numb hj
  have ht4 : tv.t = 4 := by
    obtain ⟨v', w1, w2⟩ := Y.tbs no h0
    rw [ho, List.append_assoc, List.getElem?_append_right (by omega), show no - ops'.length = 0 from by omega] at w1
    injection w1 with w1
    rw [w1]
    exact w2
  have hnan : cmpM 2 (numI j).n.toNat (numI j).n.toNat = false := by
    have hnr := near_ok (n := j.toNat) (by omega)
    rw [Int.toNat_of_nonneg hx.1] at hnr
    rcases hj.2 with q | q
    · exact q
    · omega
  refine Y.stores (T' := T') (tv := tv) (k := numI j) (v := v) (ops' := ops' ++ [tv]) (U := fun m2 => ritems d.next (j + 1) e m2) hT (by intro q; cases q) hdd (Y.ins i) (by decide) hvt hvk (Y.vv (by rw [ho]; simp)) (by rw [List.length_append, List.length_singleton]; omega) ?_ ?_ (fun s' _ he hc => g1 s' he hc _) (.inr ⟨ht4, rfl, hnan⟩) k g2 (by rw [List.length_append, List.length_singleton]; omega) (tb_cut (B := [v]) (by rw [← ho]; exact fun p hp => Y.tbs p (g3 p hp)) fun p hp => by have := ht p (g3 p hp); rw [List.length_append, List.length_singleton]; omega)
  · rw [rt23]
    unfold k23
    have p1 := Y.pop (T := T ++ Tk) (ops' := ops' ++ [tv]) v (by rw [List.length_append, List.length_singleton]; omega)
    rw [← ho] at p1
    have htop : vTop 1 (Go.Sm.ms s (T ++ Tk) (W ++ (hidV low F.B F.L ++ (ops' ++ [tv])))) = some tv := ms_top Y.cur (by simp only [List.length_append, List.length_singleton]; omega) (by simp only [List.length_append, List.length_singleton]; omega) (by
      rw [← List.append_assoc, ← List.append_assoc, List.length_append, List.length_singleton, Nat.add_sub_cancel, List.getElem?_append_right (Nat.le_refl _), Nat.sub_self]
      rfl)
    rw [p1, b2, htop, b1]
    dsimp only
    rw [if_pos ⟨by omega, by omega⟩]
    rfl
  · rw [(Y.N.in79 (Y.ins i)).2.2.2.2.2.1 rfl]
    unfold pSetI
    have hl : (low ++ (ops' ++ [tv])).length ≤ 2300 := by rw [hsk, List.length_append] at hsm; omega
    rw [Y.N.pop1 hsk, bind2_some]
    unfold getT
    rw [setTh_at Y.ht, bind1_some]
    dsimp only
    rw [if_pos (by omega)]
    have e1 : (low ++ (ops' ++ [tv]))[(low ++ (ops' ++ [tv])).length - 1]? = some tv := by
      rw [← List.append_assoc, List.length_append, List.length_singleton, Nat.add_sub_cancel, List.getElem?_append_right (Nat.le_refl _), Nat.sub_self]
      rfl
    rw [e1, bind1_some]
theorem TsX_add {tb : List Tb} {ts : List Row} (h : TsX tb ts) : TsX (tb ++ [Tb.empty]) (ts ++ [[]]) := by
  refine ⟨by rw [h.eq]; simp [Tb.empty], fun t ht => ?_, fun r hr => ?_⟩
  · rcases List.mem_append.1 ht with q | q
    · exact h.ok t q
    · rw [List.mem_singleton] at q; subst q; exact TbX.empty
  · rcases List.mem_append.1 hr with q | q
    · exact h.nn r q
    · rw [List.mem_singleton] at q; subst q; intro e he; cases he
theorem nx_add {a : List Tb} : ∀ t k, NxOk a t k → NxOk (a ++ [Tb.empty]) t k := fun t k ⟨h1, h2⟩ => by
  refine ⟨h1, ?_⟩
  have e : (a ++ [Tb.empty]).getD t.n.toNat Tb.empty = a.getD t.n.toNat Tb.empty := by
    rw [List.getD_eq_getElem?_getD, List.getD_eq_getElem?_getD]
    by_cases c : t.n.toNat < a.length
    · rw [List.getElem?_append_left c]
    · rw [List.getElem?_append_right (by omega), List.getElem?_eq_none (l := a) (by omega)]
      cases t.n.toNat - a.length with
      | zero => rfl
      | succ n => rfl
  rw [e]
  exact h2
theorem sim_table (Y : Vw K s m S cn ρ fi c t l F Tk W low ops) {lo hi m1 q w : Nat} {d : Nd} {e : Option Nat} {T : List TkM} (hT : F.T = ⟨2, (hi : Int), 0, e⟩ :: T) (hd : K.ns[hi]? = some d) (hk : d.k = 21) (hl : m1 < hi) (i : insP K.P F.x F.pc = some (14, 0)) (h : Sp K.ns K.P (.it 0) lo m1 F.x F.E F.L (F.pc + 1) d.a q) (ve : VOf K s m ρ c F F.L e) (hb : T.length + 7 * (hi - lo) ≤ K.HB) (ht : ∀ p, p ∈ F.tb → p < F.no) (k : KtV K s m ρ c F F.br F.L q (F.no + 1) F.tb T w) : Prog K F.w s (.run S c.th cn m) := by
  have htl := Y.tlen hT
  have hr := h.reg
  have hno := Y.nops
  have hbase := Y.base
  have hts := Y.R.ts
  have hln := hts.len
  have hin := (Y.N.in79 (Y.ins i)).2.2.2.2.2.2.1 rfl
  have hev : ∀ X, evB (hi : Int) e d (Go.Sm.ms s (T ++ Tk) X) = (if 12 ≤ s.ts.length then some (rfin 8 [45] (Go.Sm.ms s (T ++ Tk) X)) else bind1 (rpush ⟨4, s.ts.length, []⟩ (Go.Sm.ms { s with ts := s.ts ++ [[]] } (T ++ Tk) X)) fun m1 => ritems d.a 1 e m1) := fun X => by
    unfold evB
    rw [if_neg (by omega), if_neg (by omega), if_neg (by omega), if_neg (by omega), if_neg (by omega), if_neg (by omega), if_neg (by omega), if_neg (by omega), if_neg (by omega), if_pos hk]
    rfl
  by_cases h12 : 12 ≤ m.vs.tabs.length
  · refine Y.trap (e := 8) (s1 := Go.Sm.ms s (T ++ Tk) (W ++ (hidV low F.B F.L ++ ops))) (m1 := m) (Y.ev hT (by omega) hd ?_) Y.R.fu Y.R.ou rfl (Y.plainX (Y.ins i) (by decide) ?_) ⟨_, Y.R.ts⟩
    · rw [hev, if_pos (by omega)]
    · rw [hin]
      unfold pNewT
      rw [if_pos h12]
  · obtain ⟨T', w', tb2, g1, g2, g3⟩ := Y.items (no := F.no) (tb := F.tb) (tb' := F.no :: F.tb) h ve (by omega) htl (fun p hp => by
      rcases List.mem_cons.1 hp with rfl | hp
      · omega
      · have := ht p hp; omega) List.mem_cons_self (fun p hp => List.mem_cons_of_mem _ hp) k
    have hst := Y.N.small
    refine Y.stepG (fu := s.fuel) (ou := s.out) (T' := T') (ops' := ops ++ [⟨4, (m.vs.tabs.length : Int), []⟩]) (TsX_add hts) nx_add (Y.ev hT (by omega) hd ?_) ?_ g2 (by rw [List.length_append, List.length_singleton]; omega) (fun p hp => ?_)
    · rw [hev, if_neg (by omega), ms_push (s := { s with ts := s.ts ++ [[]] }) Y.cur _ (by simp only [List.length_append]; omega), b1, hln]
      have := g1 { s with ts := s.ts ++ [[]] } rfl Y.cur (W ++ (hidV low F.B F.L ++ ops) ++ [⟨4, (m.vs.tabs.length : Int), []⟩])
      rw [show (0 : Int) + 1 = 1 from rfl] at this
      rw [this]
      simp only [List.append_assoc]
    · have hp : plainM c.th c.fs.length c.p 14 0 m = some (.ok () (setTh (mTs m (m.vs.tabs ++ [Tb.empty])) c.th { t with stack := t.stack ++ [⟨4, (m.vs.tabs.length : Int), []⟩] })) := by
        rw [hin]
        unfold pNewT
        rw [if_neg h12]
        show okU () (pushM c.th [⟨4, (m.vs.tabs.length : Int), []⟩] (mTs m (m.vs.tabs ++ [Tb.empty]))) = _
        rw [push_x (m := mTs m (m.vs.tabs ++ [Tb.empty])) (t := t) Y.ht (by simp; omega)]
        rfl
      rw [Y.N.plainO (Y.ins i) (by decide) hp (t1 := { t with stack := t.stack ++ [⟨4, (m.vs.tabs.length : Int), []⟩] }) (setTh_at (m := mTs m (m.vs.tabs ++ [Tb.empty])) Y.ht) Y.hfr, setTh_2, Y.R.fu, Y.R.ou, Y.sk, List.append_assoc]
      rfl
    · rcases List.mem_cons.1 (g3 p hp) with rfl | hp
      · exact ⟨⟨4, (m.vs.tabs.length : Int), []⟩, by rw [hno, List.getElem?_append_right (Nat.le_refl _), Nat.sub_self]; rfl, rfl⟩
      · exact tb_app (B := []) (C := [⟨4, (m.vs.tabs.length : Int), []⟩]) (by rw [List.append_nil]; exact Y.tbs) (by rw [← hno]; exact ht) p hp
end
end Go.Sm
