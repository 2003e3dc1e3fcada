/- Plain: the interpreter and the machine go on together: loops over tables. -/
import Derived.Test.Qxb6500573aGreatDoorSim17
namespace Go.Wl
open Go Go.Sl Go.Proofs
set_option linter.unusedVariables false
section
variable {c : Cx} {m : VM} {t : Th} {pc : Nat} {x : Int}
/-- The next pair of a table, exactly. -/
theorem Now.xnext (N : Now c m t pc) (hi : InsAt c pc 32 x) {v0 v1 : V} (h0 : t.stack[c.B + x.toNat]? = some v0) (h1 : t.stack[c.B + x.toNat + 1]? = some v1) :
    (v0.t ≠ 4 → vstepL c.th m = some (.thr (strV s_for) m)) ∧ (v0.t = 4 → ∀ r : V × V × Int, IntKind.i64.wrap v0.n = v0.n → (0 ≤ v0.n ∧ v0.n < m.vs.tabs.length ∧ m.vs.tabs.length ≤ 1000 ∧ 0 ≤ v1.n) → nextM m.vs.tabs v0.n v1 = some r → r.2.2 = 0 → vstepL c.th m = some (.ok ev0 (upd c m t (((t.stack.set (c.B + x.toNat + 1) r.1).set (c.B + x.toNat + 2) r.1).set (c.B + x.toNat + 3) r.2.1 ++ [boolV (decide (r.1.t ≠ 0))]) (pc + 1)))) := by
  obtain ⟨hp, hx, hx4⟩ := N.for3 hi (.inr (.inr rfl))
  have hsl := N.thr.sl
  have hsm := N.small
  have hO : c.O = c.B + c.p.nslots.toNat := rfl
  unfold forV at hp
  rw [if_neg (by decide), if_neg (by decide), if_pos rfl] at hp
  unfold fNext at hp
  rw [N.gets h0, bind1_some] at hp
  unfold tabOfM at hp
  refine ⟨fun h4 => ?_, fun h4 r hw hj hn he => ?_⟩
  · rw [if_pos h4] at hp
    rw [N.plain hi (by decide), hp]
    rfl
  · rw [if_neg (fun q => q h4)] at hp
    have key : plainM c.th c.fs.length c.p 32 x m = some (.ok () (setTh m c.th { t with stack := ((t.stack.set (c.B + x.toNat + 1) r.1).set (c.B + x.toNat + 2) r.1).set (c.B + x.toNat + 3) r.2.1 ++ [boolV (decide (r.1.t ≠ 0))] })) := by
      rw [hp]
      show bind1 (getS m c.th ((c.B + x.toNat + 1 : Nat) : Int)) _ = _
      rw [N.gets h1, bind1_some, hw, if_pos hj, hn, bind1_some, if_neg (by omega)]
      unfold setS getT
      rw [N.ht, bind1_some, if_pos (by omega), bind1_some, setTh_at N.ht, bind1_some, if_pos (by dsimp only; rw [List.length_set]; omega), bind1_some, setTh_at (setTh_at N.ht), bind1_some, if_pos (by dsimp only; rw [List.length_set, List.length_set]; omega), bind1_some]
      rw [setTh_2, setTh_2]
      rw [push_x (setTh_at N.ht) (by simp; omega), setTh_2]
      rfl
    exact N.plainS hi (by decide) key
end
end Go.Wl
namespace Go.Sm
open Go Go.Sl Go.Wl Go.Nm Go.Proofs
set_option linter.unusedVariables false
section
variable {K : Cn} {s : RnM} {m : VM} {S : List Nat} {cn : Int} {ρ : Nat → Option Plc} {fi : Nat → List FI} {c : Cx} {t : Th} {l : List FI} {F : FI} {Tk : List TkM} {W low ops : List V}
/-- Both throw, behind several steps of the machine. -/
theorem Vw.throwN (Y : Vw K s m S cn ρ fi c t l F Tk W low ops) {q : TkM} {T : List TkM} {d : Nd} {v : V} {ops' X : List V} {w q2 n : Nat} {br' : Brk} {L' : List Nm8} {pc' no' : Nat} {tb' : List Nat} (hT : F.T = q :: T) (hq : q.k ≠ 3) (hd : ndG s q.n = some d) (hm : rtask q d (Go.Sm.ms s (T ++ Tk) (W ++ (hidV low F.B F.L ++ ops))) = rthrow v (Go.Sm.ms s (T ++ Tk) (W ++ (hidV low F.B F.L ++ ops')))) (ho : ops'.length ≤ ops.length) (hg : GS n (.run S c.th cn m) (.run S c.th cn (upd c m t X q2))) (N2 : Now (c.pc (q2 : Nat)) (upd c m t X q2) { t with stack := X, frames := c.fs ++ [{ c.f with pc := (q2 : Nat) }] } q2) (hv : vstepL c.th (upd c m t X q2) = some (.thr v (upd c m t X q2))) (h3 : ∀ a, a < F.B → X[a]? = t.stack[a]?) (hs1 : ∀ a, Live (fi c.th) a → X[a]? = t.stack[a]?) (k : KtV K s m ρ c F br' L' pc' no' tb' T w) : Prog K F.w s (.run S c.th cn m) := by
  obtain ⟨o, g1, g2⟩ := step_ok N2.go
  have hv' : vstepL (c.pc (q2 : Nat)).th (upd c m t X q2) = some (.thr v (upd c m t X q2)) := hv
  rw [hv'] at g1
  injection g1 with g1
  subst g1
  obtain ⟨c', ty, q1, q2', q3, q4, q5, q6, q7, q8⟩ := g2
  have htl := Y.tlen hT
  have hb := Y.base
  obtain ⟨cfg, s', w', y1, y2, y3⟩ := thrown Y.kok Y.toVs (t1 := { t with stack := X, frames := c.fs ++ [{ c.f with pc := (q2 : Nat) }] }) (f1 := { c.f with pc := (q2 : Nat) }) rfl ⟨rfl, rfl, rfl⟩ h3 hs1 ⟨rfl, rfl⟩ q4 ⟨q1.trans Y.kg, q2'.trans Y.kp, q3⟩ q5 k.len (X := W ++ (hidV low F.B F.L ++ ops')) (List.prefix_append _ _) (by simp only [List.length_append]; omega) (by omega)
  exact ⟨n + 1, s', cfg, w', Y.task hT hq hd (hm.trans y1), hg.trans (.one (by rw [gstep_thr hv]; exact y2)), y3, .inl (by omega)⟩
theorem Vs.live_at (Y : Vs K s m S cn ρ fi c t l F Tk W low ops) {a : Nat} (h : Live (fi c.th) a) : a < F.B ∨ ∃ (k : Nat) (nm : Nm8), F.L[k]? = some nm ∧ nm ≠ [] ∧ a = F.B + k := by
  rw [Y.hfi] at h
  obtain ⟨G, hG, s', nm, y1, y2, y3⟩ := h
  have := lt_of y1
  have h3 := Y.fr.r
  rcases List.mem_append.1 hG with hG | hG
  · have := Y.trs.lens.2.2.2 G hG
    exact .inl (by omega)
  · rw [List.mem_singleton] at hG
    subst hG
    exact .inr ⟨s', nm, y1, y2, y3⟩
theorem sim_inI (Y : Vw K s m S cn ρ fi c t l F Tk W low ops) {p1 p4 p5 m2 m3 w : Nat} {n : Int} {d dk dv : Nd} {e : Option Nat} {T : List TkM} {L L1 : List Nm8} (hT : F.T = ⟨18, n, 0, e⟩ :: T) (hL : F.L = L ++ [[]]) (hpc : F.pc = p1 + 1) (hn0 : F.no = 0) (ht0 : F.tb = []) (hd : nd K.ns n = some d) (D : InD K.ns K.P F.x F.E L d dk dv p1 p4 p5 m2 m3 L1) (ve : VOf K s m ρ c F L e) (hb : T.length + 7 * (m3 - m2) + 1 ≤ K.HB) (hiv : ∀ q, q ∈ F.iv → q + 2 ≤ hidN L) (k : KtV K s m ρ c F (some (L.length, p4 + 2)) L (p4 + 2) 0 [] T w) : Prog K F.w s (.run S c.th cn m) := by
  have hops := ops0 Y.toVs hn0
  have htl := Y.tlen hT
  have hsk : t.stack = low := by rw [Y.sk, hops, List.append_nil]
  have hlo := Y.lo
  have hbase := Y.base
  have hll := Y.fr.ll
  have hn := Y.hn
  have hlen : F.L.length = L.length + 1 := by rw [hL]; simp
  have hr := D.hr
  obtain ⟨v0, h0⟩ : ∃ v0, low[F.B + L.length]? = some v0 := ⟨_, getD_some (by omega)⟩
  have g1 := Y.N.xlit (.inl ⟨rfl, rfl⟩) (Y.ins (by rw [hpc]; exact hr.j1))
  rw [hsk] at g1
  have N1 := Y.N.on g1
  obtain ⟨g2, k2, k3, k4⟩ := N1.xsetL (x := ((L.length + 1 : Nat) : Int)) (Y.ins (by rw [hpc]; exact hr.j2)) (S := low) (v := V.nil) rfl
  rw [upd_upd, Int.toNat_natCast, show (c.pc ((F.pc + 1 : Nat) : Int)).B = F.B from Y.hB] at g2
  dsimp only [Cx.pc] at k3
  have N2 := N1.on2 g2
  have hG : GS 2 (.run S c.th cn m) (.run S c.th cn _) := .step (gstep_ok g1) (.one (gstep_ok g2))
  have hset : ∀ a, a ≠ F.B + (L.length + 1) → (low.set (F.B + (L.length + 1)) V.nil)[a]? = low[a]? := fun a ha => List.getElem?_set_ne (by omega)
  have ehid : hidV low F.B F.L = hidV low F.B L ++ [v0] := by
    rw [hL, hidV_app]
    show hidV low F.B L ++ ([low.getD (F.B + L.length) V.nil] ++ []) = _
    rw [List.getD_eq_getElem?_getD, h0]
    rfl
  have ehid2 : hidV (low.set (F.B + (L.length + 1)) V.nil) F.B (L ++ [[], []]) = hidV low F.B L ++ [v0, V.nil] := by
    rw [hidV_app]
    show _ ++ ([(low.set (F.B + (L.length + 1)) V.nil).getD (F.B + L.length) V.nil] ++ ([(low.set (F.B + (L.length + 1)) V.nil).getD (F.B + L.length + 1) V.nil] ++ [])) = _
    rw [List.getD_eq_getElem?_getD, hset _ (by omega), h0, List.getD_eq_getElem?_getD, show F.B + L.length + 1 = F.B + (L.length + 1) from rfl, List.getElem?_set_self (by omega)]
    congr 1
    exact hidV_congr _ _ fun k hk => hset _ (by have := lt_of hk; omega)
  have htop : ∀ T, vTop 1 (Go.Sm.ms s T (W ++ (hidV low F.B F.L ++ ops))) = some v0 := fun T => by
    have eX : W ++ (hidV low F.B F.L ++ ops) = (W ++ hidV low F.B L) ++ [v0] := by rw [ehid, hops, List.append_nil, List.append_assoc]
    refine ms_top Y.cur (by simp only [List.length_append]; omega) (by rw [eX, List.length_append, List.length_singleton]; omega) ?_
    rw [eX, List.length_append, List.length_singleton, Nat.add_sub_cancel, List.getElem?_append_right (Nat.le_refl _), Nat.sub_self]
    rfl
  by_cases h4 : v0.t ≠ 4
  · have g3 := (N2.xnext (x := (L.length : Int)) (Y.ins (by rw [hpc]; exact hr.j3)) (v0 := v0) (v1 := V.nil) (by rw [Int.toNat_natCast]; show (low.set (F.B + (L.length + 1)) V.nil)[c.B + L.length]? = _; rw [Y.hB, hset _ (by omega)]; exact h0) (by rw [Int.toNat_natCast]; show (low.set (F.B + (L.length + 1)) V.nil)[c.B + L.length + 1]? = _; rw [Y.hB, show F.B + L.length + 1 = F.B + (L.length + 1) from rfl, List.getElem?_set_self (by omega)])).1 h4
    refine Y.throwN (v := strV s_for) (ops' := ops) hT (by intro q; cases q) (Y.nd hd) ?_ (Nat.le_refl _) hG N2 g3 (fun a ha => by rw [hsk]; exact hset a (by omega)) (fun a ha => by
      rw [hsk]
      refine hset a ?_
      rcases Y.live_at ha with q | ⟨k, nm, q1, q2, q3⟩
      · omega
      · have := lt_of q1; omega) k
    rw [rt18]
    unfold k18
    rw [htop, b1, if_pos h4]
    rfl
  · have h4' : v0.t = 4 := by omega
    have R' := Y.loc (iv' := hidN L :: F.iv) (L' := L ++ [[], []]) (br' := some (L.length, p4 + 2)) (T' := ⟨19, n, 0, e⟩ :: T) (pc' := F.pc + 1 + 1) (w' := w + 1) (no' := 0) (tb' := []) (low' := low.set (F.B + (L.length + 1)) V.nil) (ops' := []) (by simp) (by rw [List.take_set_of_le (by omega)]) (fun k nm h hn => ⟨by
        have h' := named_pre (L := L) (R := [[]]) (by simp) (by rw [← hL]; exact h) hn
        rw [List.getElem?_append_left (lt_of h')]
        exact h', hset _ (by have := lt_of h; omega)⟩) (by simp; omega) (by
        rw [hpc]
        exact .inT hd D ve hb hiv k) rfl tb_nil (fun q hq => by
        rcases List.mem_cons.1 hq with rfl | hq
        · refine ⟨by rw [hidN_app]; exact Nat.le_refl _, v0, V.nil, ?_, ?_, h4', ?_⟩
          · rw [ehid2, List.getElem?_append_right (by rw [hidV_len]; exact Nat.le_refl _), hidV_len, Nat.sub_self]; rfl
          · rw [ehid2, List.getElem?_append_right (by rw [hidV_len]; omega), hidV_len, show hidN L + 1 - hidN L = 1 from by omega]; rfl
          · rw [next0]; intro q; exact absurd rfl q
        · refine ⟨by have := hiv q hq; rw [hidN_app]; omega, ?_⟩
          rw [ehid2]
          exact (NxAt.hid (by rw [← hL]; exact (Y.ivs q hq).2) (hiv q hq)).app _)
    rw [List.append_nil (low.set (F.B + (L.length + 1)) V.nil), ehid2] at R'
    refine Y.stepN (n := 2) (Y.task hT (by intro q; cases q) (Y.nd hd) ?_) hG (by decide) N2.go ⟨rfl, rfl, rfl⟩ R' (fiUp_at _ _ _)
    rw [rt18]
    unfold k18
    rw [htop, b1, if_neg h4, Y.push V.nil (Nat.le_refl _), b1, ms_do Y.cur _ _ _ (by omega) ve.rg, ehid, hops]
    simp
end
end Go.Sm
