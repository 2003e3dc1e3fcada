/- Plain: the interpreter and the machine go on together: blocks. -/
import Derived.Test.Qxb6500573aGreatDoorSim10
namespace Go.Sm
open Go Go.Sl Go.Wl Go.Nm Go.Proofs
set_option linter.unusedVariables false
/-- The interpreter at a statement that makes no local. -/
def stC (n : Int) (e : Option Nat) (d : Nd) (m1 : RnM) : Option RnM :=
    if d.k = 4 then bind1 (ndG m1 d.a) fun g => (if g.k = 17 then bind1 (rdo 9 d.a 0 e m1) fun m2 => rdo 2 d.b 0 e m2
      else bind1 (rdo 10 0 0 e m1) fun m2 => bind1 (rdo 2 d.b 0 e m2) fun m3 => bind1 (rdo 2 g.b 0 e m3) fun m4 => rdo 2 g.a 0 e m4)
    else if d.k = 5 then bind1 (rdo 5 0 0 none m1) fun m2 => rdo 2 d.a 0 e m2
    else if d.k = 6 then bind1 (rdo 11 n 0 e m1) fun m2 => rdo 2 d.a 0 e m2
    else if d.k = 7 then bind1 (rdo 4 0 (thG m1).vals.length none m1) fun m2 => rdo 12 n 0 e m2
    else if d.k = 8 then rfor n d (thG m1).vals.length e m1
    else if d.k = 9 then bind1 (rdo 4 0 (thG m1).vals.length none m1) fun m2 => bind1 (rdo 18 n 0 e m2) fun m3 => rdo 2 d.b 0 e m3
    else if d.k = 10 then bind1 (rdo 21 0 0 none m1) fun m2 => bind1 (rdo 2 d.b 0 e m2) fun m3 => rdo 2 d.a 0 e m3
    else if d.k = 11 then rbrk m1
    else some m1
theorem rstmt_at {n : Int} {e : Option Nat} {d : Nd} {m m1 : RnM} (hd : ndG m n = some d) (h1 : d.k ≠ 1) (h2 : d.k ≠ 2) (h3 : d.k ≠ 3) (hm : rdo 1 d.next 0 e m = some m1) (hc : curOk m1) : rstmt n e m = stC n e d m1 := by
  unfold rstmt
  rw [hd, b1, if_neg h1, if_neg h2, if_neg h3, hm, b1, if_neg (fun q => q hc)]
  rfl
section
variable {K : Cn} {s : RnM} {m : VM} {S : List Nat} {cn : Int} {ρ : Nat → Option Plc} {fi : Nat → List FI} {c : Cx} {t : Th} {l : List FI} {F : FI} {Tk : List TkM} {W low ops : List V}
theorem Vw.stm (Y : Vw K s m S cn ρ fi c t l F Tk W low ops) {hi : Nat} {e : Option Nat} {d : Nd} {T : List TkM} {s' : RnM} (hT : F.T = ⟨1, (hi : Int), 0, e⟩ :: T) (hn : 0 < hi) (hd : K.ns[hi]? = some d) (he : ∀ i, e = some i → i < s.envs.length) (h4 : 4 ≤ d.k) (h : stC hi e d (Go.Sm.ms s ((⟨1, d.next, 0, e⟩ :: T) ++ Tk) (W ++ (hidV low F.B F.L ++ ops))) = some s') : MS s s' := by
  have htl := Y.tlen hT
  refine Y.task hT (by intro q; cases q) (Y.nd (nd_pos hd)) ?_
  rw [rt1, if_pos (by omega)]
  exact (rstmt_at (m := Go.Sm.ms s (T ++ Tk) (W ++ (hidV low F.B F.L ++ ops))) (Y.nd (nd_pos hd)) (by omega) (by omega) (by omega) (ms_do Y.cur _ _ _ (by omega) he) (ms_cur Y.cur _ _)).trans h
theorem Vw.hgt (Y : Vw K s m S cn ρ fi c t l F Tk W low ops) (h0 : ops = []) (T : List TkM) : ((thG (Go.Sm.ms s T (W ++ (hidV low F.B F.L ++ ops)))).vals.length : Int) = ((F.h + hidN F.L : Nat) : Int) := by
  rw [ms_th Y.cur]
  dsimp only
  rw [h0, List.length_append, List.length_append, hidV_len, Y.h]
  rfl
/-- The machine ends variables that the interpreter just forgets. -/
theorem Vw.leave (Y : Vw K s m S cn ρ fi c t l F Tk W low ops) {Lb : List Nm8} {br' : Brk} {p2 w' : Nat} {T' : List TkM} (hops : ops = []) (hm : MS s (Go.Sm.ms s (T' ++ Tk) (W ++ (hidV low F.B F.L ++ ops)))) (lb : Lb <+: F.L) (hz : hidN F.L = hidN Lb) (i : insP K.P F.x F.pc = some (29, (Lb.length : Int))) (hp : p2 = F.pc + 1) (k : KtV K s m ρ c F br' Lb p2 0 [] T' w') : Prog K F.w s (.run S c.th cn m) := by
  subst hp
  have hll := Y.fr.ll
  have hlb := lb.length_le
  obtain ⟨o, cs, g1, g2⟩ := Y.N.xclose (Y.ins i)
  rw [Y.hB] at g2
  have R' := Y.closeTo (b := Lb.length) (low' := low) (o := o) hops (fun k nm h1 h2 h3 => by
    obtain ⟨r, hr⟩ := lb
    rw [← hr, List.getElem?_append_left h1] at h2
    exact h2) (Nat.le_refl _) (by omega) rfl rfl (fun _ _ _ _ => rfl) g2 k (fun q hq => by rw [← hidV_pre lb hz, ← hz]; exact Y.ivs q hq)
  rw [← hidV_pre lb hz] at R'
  rw [hops] at hm
  rw [Y.sk, hops, List.append_nil] at g1
  exact Y.step1 hm g1 (setTh_at (m := { m with vs := { m.vs with cells := cs } }) Y.ht) rfl (fun _ _ h => h) R' (fiUp_at _ _ _)
theorem sim_block (Y : Vw K s m S cn ρ fi c t l F Tk W low ops) {n : Int} {e : Option Nat} {T : List TkM} {lo hi p1 p2 w : Nat} {L1 Lb : List Nm8} (hT : F.T = ⟨1, n, 0, e⟩ :: T) (hn0 : F.no = 0) (ht0 : F.tb = []) (hw : F.w = w + (6 * (hi - lo) + 1)) (h : Sp K.ns K.P (.sts F.br L1) lo hi F.x F.E F.L F.pc n p1) (lb : Lb <+: F.L) (hz : hidN F.L = hidN Lb) (v : levS K.P F.x Lb.length L1 p1 p2) (ve : VOf K s m ρ c F F.L e) (hb : T.length + 7 * (hi - lo) ≤ K.HB) (k : KtV K s m ρ c F F.br Lb p2 0 [] T w)
    (hfn : ∀ (mi : Nat) d d1 (m1 : Nat) p, 0 < mi → lo < mi → mi ≤ hi → n = (mi : Int) → K.ns[mi]? = some d → d.k = 3 → d.s ≠ [] → nd K.ns d.a = some d1 → d1.k = 20 → m1 < mi → Sp K.ns K.P .ex lo m1 F.x F.E (F.L ++ [d.s]) F.pc d.a p → insP K.P F.x p = some (6, (F.L.length : Int)) → Sp K.ns K.P (.sts F.br L1) mi hi F.x F.E (F.L ++ [d.s]) (p + 1) d.next p1 → Prog K F.w s (.run S c.th cn m))
    (hbrk : ∀ (mi base out p : Nat) d, 0 < mi → lo < mi → mi ≤ hi → n = (mi : Int) → K.ns[mi]? = some d → d.k = 11 → F.br = some (base, out) → levS K.P F.x base F.L F.pc p → insP K.P F.x p = some (21, (out : Int)) → Sp K.ns K.P (.sts F.br L1) mi hi F.x F.E F.L (p + 1) d.next p1 → Prog K F.w s (.run S c.th cn m)) : Prog K F.w s (.run S c.th cn m) := by
  have hops := ops0 Y.toVs hn0
  have htl := Y.tlen hT
  have htl2 := htl
  rw [List.length_append] at htl2
  have hcur := Y.cur
  cases h with
  | snil =>
    have hm : MS s (Go.Sm.ms s (T ++ Tk) (W ++ (hidV low F.B F.L ++ ops))) := Y.task hT (by intro q; cases q) Y.nd0 (by rw [rt1, if_neg (fun q => q rfl)])
    unfold levS at v
    by_cases c1 : Lb.length < F.L.length
    · rw [if_pos c1] at v
      exact Y.leave hops hm lb hz v.1 v.2 k
    · rw [if_neg c1] at v
      have e1 : Lb = F.L := lb.eq_of_length_le (by omega)
      subst e1 v
      exact Y.admin (L' := F.L) hm (by rw [hn0, ht0]; exact k) (by omega)
  | @scons _ mi _ _ _ pm _ _ _ L' _ _ d hm hd h1 h2 =>
    have r2 := h2.reg
    have hivs : ∀ q, q ∈ F.iv → q + 2 ≤ hidN F.L := fun q hq => (Y.ivs q hq).1
    have htb : ∀ no, ∀ p, p ∈ F.tb → p < no := fun no p hp => by rw [ht0] at hp; cases hp
    have hdd := Y.nd (nd_pos hd)
    have rest : L' = F.L → KtV K s m ρ c F F.br F.L pm 0 [] (⟨1, d.next, 0, e⟩ :: T) (w + (6 * (hi - mi) + 1)) := fun q => by subst q; exact .block h2 lb hz v ve (by omega) k
    generalize hbr : F.br = br at h1
    cases h1 with
    | @loc0 _ _ _ _ _ _ _ d' hl hd' hk ha hs i0 i1 =>
      rw [hd] at hd'; injection hd' with hd'; subst hd'
      have g := Y.N.xlit (.inl ⟨rfl, rfl⟩) (Y.ins i0)
      refine Y.step (br' := F.br) (T' := ⟨6, (mi : Int), 0, e⟩ :: T) (ops' := [V.nil]) (no' := 1) (tb' := []) (Y.task hT (by intro q; cases q) hdd ?_) (by rw [g, Y.sk, hops]; simp) (.bind (nd_pos hd) hs i1 h2 lb hz v ve (by omega) k) rfl tb_nil
      rw [rt1, if_pos (by omega)]
      unfold rstmt
      rw [show ndG (Go.Sm.ms s (T ++ Tk) (W ++ (hidV low F.B F.L ++ ops))) (mi : Int) = some d from hdd, b1, if_pos hk, ms_do hcur _ _ _ (by omega) ve.rg, b1, if_neg (fun q => q ha), Y.push V.nil (Nat.le_refl _), hops]
      rfl
    | @loc1 _ m1 _ _ _ pa _ _ _ d' hl hd' hk ha hs h1 i1 =>
      rw [hd] at hd'; injection hd' with hd'; subst hd'
      have r1 := h1.reg
      refine Y.admin (br' := F.br) (L' := F.L) (T' := ⟨2, d.a, 0, e⟩ :: ⟨6, (mi : Int), 0, e⟩ :: T) (Y.task hT (by intro q; cases q) hdd ?_) (.eval h1 ve (by simp only [List.length_cons]; omega) (htb _) (by rw [hn0, ht0]; exact .bind (nd_pos hd) hs i1 h2 lb hz v ve (by omega) k)) (by omega)
      rw [rt1, if_pos (by omega)]
      unfold rstmt
      rw [show ndG (Go.Sm.ms s (T ++ Tk) (W ++ (hidV low F.B F.L ++ ops))) (mi : Int) = some d from hdd, b1, if_pos hk, ms_do hcur _ _ _ (by omega) ve.rg, b1, if_pos ha, ms_do hcur _ _ _ (by simp only [List.length_cons]; omega) ve.rg]
      rfl
    | @loc2 _ m1 m2 _ _ _ pa _ _ _ d' a b hlo hl hd' hk ha hb' hs h1 i0 i1 =>
      rw [hd] at hd'; injection hd' with hd'; subst hd'
      have r1 := h1.reg
      obtain ⟨T1, w1, g1, g2, g3⟩ := Y.rcallX (T0 := ⟨7, (mi : Int), 0, e⟩ :: T) (n0 := 0) (tb := []) (X := W ++ (hidV low F.B F.L ++ ops)) h1 ve (by simp only [List.length_cons]; omega) (by simp only [List.length_append, List.length_cons]; omega) (fun p hp => by cases hp) (.bind2 (nd_pos hd) ha hb' hs i0 i1 h2 lb hz v ve (by omega) k)
      refine Y.admin (br' := F.br) (L' := F.L) (T' := T1) (Y.task hT (by intro q; cases q) hdd ?_) (by rw [hn0, ht0]; exact g2) (by omega)
      rw [rt1, if_pos (by omega)]
      unfold rstmt
      rw [show ndG (Go.Sm.ms s (T ++ Tk) (W ++ (hidV low F.B F.L ++ ops))) (mi : Int) = some d from hdd, b1, if_neg (by omega), if_pos hk, ms_do hcur _ _ _ (by omega) ve.rg, b1]
      exact g1
    | @locFn _ m1 _ _ _ pa _ _ _ d' d1 hl hd' hk hs hd1 hk1 h1 i =>
      rw [hd] at hd'; injection hd' with hd'; subst hd'
      exact hfn mi d d1 m1 pa (by omega) hm r2.1 rfl hd hk hs hd1 hk1 hl h1 i h2
    | @asgN _ m1 m2 _ _ _ pa _ _ _ d' g hlo hl hd' hk hg hgk hs h1 hv =>
      rw [hd] at hd'; injection hd' with hd'; subst hd'
      have r1 := h1.reg
      refine Y.admin (br' := F.br) (L' := F.L) (T' := ⟨2, d.b, 0, e⟩ :: ⟨9, d.a, 0, e⟩ :: ⟨1, d.next, 0, e⟩ :: T) (Y.stm hT (by omega) hd ve.rg (by omega) ?_) (.eval h1 ve (by simp only [List.length_cons]; omega) (htb _) (by rw [hn0, ht0]; exact .stN hg hs hv ve (by simp only [List.length_cons]; omega) (fun p hp => by cases hp) (rest rfl))) (by omega)
      unfold stC
      rw [if_pos hk, show ndG (Go.Sm.ms s _ _) d.a = some g from Y.nd hg, b1, if_pos hgk, ms_do hcur _ _ _ (by simp only [List.length_cons, List.cons_append]; omega) ve.rg, b1, ms_do hcur _ _ _ (by simp only [List.length_cons, List.cons_append]; omega) ve.rg]
      rfl
    | @asgI _ m1 m2 m3 m4 _ _ _ pa pb pc' _ _ _ d' g hlo hl hd' hk hg hgk h1 h22 h3 i =>
      rw [hd] at hd'; injection hd' with hd'; subst hd'
      have r1 := h1.reg
      have r22 := h22.reg
      have r3 := h3.reg
      refine Y.admin (br' := F.br) (L' := F.L) (T' := ⟨2, g.a, 0, e⟩ :: ⟨2, g.b, 0, e⟩ :: ⟨2, d.b, 0, e⟩ :: ⟨10, 0, 0, e⟩ :: ⟨1, d.next, 0, e⟩ :: T) (Y.stm hT (by omega) hd ve.rg (by omega) ?_) (.eval h1 ve (by simp only [List.length_cons]; omega) (htb _) (by rw [hn0, ht0]; exact .eval h22 ve (by simp only [List.length_cons]; omega) (fun p hp => by cases hp) (.eval h3 ve (by simp only [List.length_cons]; omega) (fun p hp => by cases hp) (.stI i (by simp only [List.length_cons]; omega) (fun p hp => by cases hp) (rest rfl))))) (by omega)
      unfold stC
      rw [if_pos hk, show ndG (Go.Sm.ms s _ _) d.a = some g from Y.nd hg, b1, if_neg hgk, ms_do hcur _ _ _ (by simp only [List.length_cons, List.cons_append]; omega) ve.rg, b1, ms_do hcur _ _ _ (by simp only [List.length_cons, List.cons_append]; omega) ve.rg, b1, ms_do hcur _ _ _ (by simp only [List.length_cons, List.cons_append]; omega) ve.rg, b1, ms_do hcur _ _ _ (by simp only [List.length_cons, List.cons_append]; omega) ve.rg]
      rfl
    | @callS _ m1 _ _ _ pa _ _ _ d' hl hd' hk h1 i =>
      rw [hd] at hd'; injection hd' with hd'; subst hd'
      have r1 := h1.reg
      refine Y.admin (br' := F.br) (L' := F.L) (T' := ⟨2, d.a, 0, e⟩ :: ⟨5, 0, 0, none⟩ :: ⟨1, d.next, 0, e⟩ :: T) (Y.stm hT (by omega) hd ve.rg (by omega) ?_) (.eval h1 ve (by simp only [List.length_cons]; omega) (htb _) (by rw [hn0, ht0]; exact .pop i (by simp only [List.length_cons]; omega) (fun p hp => by cases hp) (rest rfl))) (by omega)
      unfold stC
      rw [if_neg (by omega), if_pos hk, ms_do hcur _ _ _ (by simp only [List.length_cons, List.cons_append]; omega) (fun i q => by cases q), b1, ms_do hcur _ _ _ (by simp only [List.length_cons, List.cons_append]; omega) ve.rg]
      rfl
    | @ife _ m1 m2 m3 _ _ _ pa pb pc' pd pe _ _ La Lc _ d' hl hd' hk h1 i1 h22 v2 i2 h3 v3 =>
      subst hbr
      rw [hd] at hd'; injection hd' with hd'; subst hd'
      have r1 := h1.reg
      have r22 := h22.reg
      have r3 := h3.reg
      refine Y.admin (br' := F.br) (L' := F.L) (T' := ⟨2, d.a, 0, e⟩ :: ⟨11, (mi : Int), 0, e⟩ :: ⟨1, d.next, 0, e⟩ :: T) (Y.stm hT (by omega) hd ve.rg (by omega) ?_) (.eval h1 ve (by simp only [List.length_cons]; omega) (htb _) (by rw [hn0, ht0]; exact .cond (nd_pos hd) i1 h22 v2 i2 h3 v3 ve (by simp only [List.length_cons]; omega) (rest rfl))) (by omega)
      unfold stC
      rw [if_neg (by omega), if_neg (by omega), if_pos hk, ms_do hcur _ _ _ (by simp only [List.length_cons, List.cons_append]; omega) ve.rg, b1, ms_do hcur _ _ _ (by simp only [List.length_cons, List.cons_append]; omega) ve.rg]
      rfl
    | @whl _ m1 m2 _ _ _ pa pb pc' _ _ La _ d' hl hd' hk h1 i1 h22 v2 i2 =>
      rw [hd] at hd'; injection hd' with hd'; subst hd'
      have r1 := h1.reg
      have r22 := h22.reg
      refine Y.admin (br' := some (F.L.length, pc' + 1)) (L' := F.L) (T' := ⟨12, (mi : Int), 0, e⟩ :: ⟨4, 0, ((F.h + hidN F.L : Nat) : Int), none⟩ :: ⟨1, d.next, 0, e⟩ :: T) (Y.stm hT (by omega) hd ve.rg (by omega) ?_) (by rw [hn0, ht0]; exact .whl (nd_pos hd) ⟨h1, i1, h22, v2, i2⟩ ve (by simp only [List.length_cons]; omega) ⟨r1.1, r22.1⟩ (.loopW rfl (by simp only [List.length_cons]; omega) hivs (rest rfl))) (by omega)
      unfold stC
      rw [if_neg (by omega), if_neg (by omega), if_neg (by omega), if_pos hk, Y.hgt hops, ms_do hcur _ _ _ (by simp only [List.length_cons, List.cons_append]; omega) (fun i q => by cases q), b1, ms_do hcur _ _ _ (by simp only [List.length_cons, List.cons_append]; omega) ve.rg]
      rfl
    | @for2 _ m1 m2 m3 _ _ _ pa pb pd pe _ _ La _ d' da dl c0 hl hd' hk hs hda hdl h1 i1 h22 i2 hn i3 hc hr hb' hv =>
      rw [hd] at hd'; injection hd' with hd'; subst hd'
      have r1 := h1.reg
      have r22 := h22.reg
      have rb := hb'.reg
      have ve1 : VOf K s m ρ c F (F.L ++ [[]]) e := VOk.hid ve
      have ve2 : VOf K s m ρ c F (F.L ++ [[]] ++ [[]]) e := VOk.hid ve1
      have hL2 : F.L ++ [[]] ++ [[]] = F.L ++ [[], []] := by simp
      have hL3 : F.L ++ [[], []] ++ [[]] = F.L ++ [[], [], []] := by simp
      have k1 : KtV K s m ρ c F (some (F.L.length, pd + 6)) (F.L ++ [[], []]) (pb + 2) 1 [] (⟨15, (mi : Int), 0, e⟩ :: ⟨4, 0, ((F.h + hidN F.L : Nat) : Int), none⟩ :: ⟨1, d.next, 0, e⟩ :: T) (w + (6 * (hi - mi) + 1) + 1 + 1) := .hid (by rw [hr.j0]; simp) (fun b o q => by injection q with q; injection q with q _; simp; omega) (by rw [hL3]; exact .forI (nd_pos hd) ⟨hs, hr, hb', hv⟩ ve (by simp only [List.length_cons]; omega) hivs (.loopW rfl (by simp only [List.length_cons]; omega) hivs (.cls hr.k6 (rest rfl))))
      rw [← hL2] at k1
      refine Y.admin (br' := some (F.L.length, pd + 6)) (L' := F.L) (T' := ⟨2, d.a, 0, e⟩ :: ⟨2, da.next, 0, e⟩ :: ⟨2, 0, 1, e⟩ :: ⟨15, (mi : Int), 0, e⟩ :: ⟨4, 0, ((F.h + hidN F.L : Nat) : Int), none⟩ :: ⟨1, d.next, 0, e⟩ :: T) (Y.stm hT (by omega) hd ve.rg (by omega) ?_) (.eval h1 ve (by simp only [List.length_cons]; omega) (htb _) (by
        rw [hn0, ht0]
        exact .hid i1 (fun b o q => by injection q with q; injection q with q _; omega) (.eval h22 ve1 (by simp only [List.length_cons]; omega) (fun p hp => by cases hp) (.hid (by rw [i2]; simp) (fun b o q => by injection q with q; injection q with q _; simp; omega) (.one i3 hc (by simp only [List.length_cons]; omega) (fun p hp => by cases hp) k1))))) (by omega)
      unfold stC
      rw [if_neg (by omega), if_neg (by omega), if_neg (by omega), if_neg (by omega), if_pos hk, Y.hgt hops]
      unfold rfor
      rw [ms_do hcur _ _ _ (by simp only [List.length_cons, List.cons_append]; omega) (fun i q => by cases q), b1, ms_do hcur _ _ _ (by simp only [List.length_cons, List.cons_append]; omega) ve.rg, b1, show ndG (Go.Sm.ms s _ _) d.a = some da from Y.nd hda, b1, show ndG (Go.Sm.ms s _ _) da.next = some dl from Y.nd hdl, b1, if_neg (fun q => q hn), ms_do hcur _ _ _ (by simp only [List.length_cons, List.cons_append]; omega) ve.rg, b1, ms_do hcur _ _ _ (by simp only [List.length_cons, List.cons_append]; omega) ve.rg, b1, ms_do hcur _ _ _ (by simp only [List.length_cons, List.cons_append]; omega) ve.rg]
      rfl
    | @for3 _ m1 m2 m3 m4 _ _ _ pa pb pc' pd pe _ _ La _ d' da dl hl hd' hk hs hda hdl h1 i1 h22 i2 hn h3 hr hb' hv =>
      rw [hd] at hd'; injection hd' with hd'; subst hd'
      have r1 := h1.reg
      have r22 := h22.reg
      have r3 := h3.reg
      have rb := hb'.reg
      have ve1 : VOf K s m ρ c F (F.L ++ [[]]) e := VOk.hid ve
      have ve2 : VOf K s m ρ c F (F.L ++ [[]] ++ [[]]) e := VOk.hid ve1
      have hL2 : F.L ++ [[]] ++ [[]] = F.L ++ [[], []] := by simp
      have hL3 : F.L ++ [[], []] ++ [[]] = F.L ++ [[], [], []] := by simp
      rw [hL2] at ve2
      have k1 : KtV K s m ρ c F (some (F.L.length, pd + 6)) (F.L ++ [[], []]) (pb + 1) 0 [] (⟨2, dl.next, 0, e⟩ :: ⟨15, (mi : Int), 0, e⟩ :: ⟨4, 0, ((F.h + hidN F.L : Nat) : Int), none⟩ :: ⟨1, d.next, 0, e⟩ :: T) (w + (6 * (hi - mi) + 1) + 1 + 1 + (6 * (m3 - m2) + 1)) := .eval h3 ve2 (by simp only [List.length_cons]; omega) (fun p hp => by cases hp) (.hid (by rw [hr.j0]; simp) (fun b o q => by injection q with q; injection q with q _; simp; omega) (by rw [hL3]; exact .forI (nd_pos hd) ⟨hs, hr, hb', hv⟩ ve (by simp only [List.length_cons]; omega) hivs (.loopW rfl (by simp only [List.length_cons]; omega) hivs (.cls hr.k6 (rest rfl)))))
      rw [← hL2] at k1
      refine Y.admin (br' := some (F.L.length, pd + 6)) (L' := F.L) (T' := ⟨2, d.a, 0, e⟩ :: ⟨2, da.next, 0, e⟩ :: ⟨2, dl.next, 0, e⟩ :: ⟨15, (mi : Int), 0, e⟩ :: ⟨4, 0, ((F.h + hidN F.L : Nat) : Int), none⟩ :: ⟨1, d.next, 0, e⟩ :: T) (Y.stm hT (by omega) hd ve.rg (by omega) ?_) (.eval h1 ve (by simp only [List.length_cons]; omega) (htb _) (by
        rw [hn0, ht0]
        exact .hid i1 (fun b o q => by injection q with q; injection q with q _; omega) (.eval h22 ve1 (by simp only [List.length_cons]; omega) (fun p hp => by cases hp) (.hid (by rw [i2]; simp) (fun b o q => by injection q with q; injection q with q _; simp; omega) k1)))) (by omega)
      unfold stC
      rw [if_neg (by omega), if_neg (by omega), if_neg (by omega), if_neg (by omega), if_pos hk, Y.hgt hops]
      unfold rfor
      rw [ms_do hcur _ _ _ (by simp only [List.length_cons, List.cons_append]; omega) (fun i q => by cases q), b1, ms_do hcur _ _ _ (by simp only [List.length_cons, List.cons_append]; omega) ve.rg, b1, show ndG (Go.Sm.ms s _ _) d.a = some da from Y.nd hda, b1, show ndG (Go.Sm.ms s _ _) da.next = some dl from Y.nd hdl, b1, if_pos hn, ms_do hcur _ _ _ (by simp only [List.length_cons, List.cons_append]; omega) ve.rg, b1, ms_do hcur _ _ _ (by simp only [List.length_cons, List.cons_append]; omega) ve.rg, b1, ms_do hcur _ _ _ (by simp only [List.length_cons, List.cons_append]; omega) ve.rg]
      rfl
    | @forIn _ m1 m2 m3 _ _ _ pa pd pe _ _ La _ d' dk dv hlo hl hd' hk hdk hdv hs h1 hr hb' hv =>
      rw [hd] at hd'; injection hd' with hd'; subst hd'
      have r1 := h1.reg
      have rb := hb'.reg
      refine Y.admin (br' := some (F.L.length, pd + 2)) (L' := F.L) (T' := ⟨2, d.b, 0, e⟩ :: ⟨18, (mi : Int), 0, e⟩ :: ⟨4, 0, ((F.h + hidN F.L : Nat) : Int), none⟩ :: ⟨1, d.next, 0, e⟩ :: T) (Y.stm hT (by omega) hd ve.rg (by omega) ?_) (.eval h1 ve (by simp only [List.length_cons]; omega) (htb _) (by
        rw [hn0, ht0]
        exact .hid hr.j0 (fun b o q => by injection q with q; injection q with q _; omega) (.inI (nd_pos hd) ⟨hdk, hdv, hs, hr, hb', hv⟩ ve (by simp only [List.length_cons]; omega) hivs (.loopW rfl (by simp only [List.length_cons]; omega) hivs (.cls hr.k2 (rest rfl)))))) (by omega)
      unfold stC
      rw [if_neg (by omega), if_neg (by omega), if_neg (by omega), if_neg (by omega), if_neg (by omega), if_pos hk, Y.hgt hops, ms_do hcur _ _ _ (by simp only [List.length_cons, List.cons_append]; omega) (fun i q => by cases q), b1, ms_do hcur _ _ _ (by simp only [List.length_cons, List.cons_append]; omega) ve.rg, b1, ms_do hcur _ _ _ (by simp only [List.length_cons, List.cons_append]; omega) ve.rg]
      rfl
    | @ret _ m1 m2 _ _ _ pa pb _ _ _ d' hl hd' hk h1 h22 i =>
      rw [hd] at hd'; injection hd' with hd'; subst hd'
      have r1 := h1.reg
      have r22 := h22.reg
      refine Y.admin (br' := F.br) (L' := F.L) (T' := ⟨2, d.a, 0, e⟩ :: ⟨2, d.b, 0, e⟩ :: ⟨21, 0, 0, none⟩ :: ⟨1, d.next, 0, e⟩ :: T) (Y.stm hT (by omega) hd ve.rg (by omega) ?_) (.eval h1 ve (by simp only [List.length_cons]; omega) (htb _) (by rw [hn0, ht0]; exact .eval h22 ve (by simp only [List.length_cons]; omega) (fun p hp => by cases hp) (.rtn i (by simp only [List.length_cons]; omega) (fun p hp => by cases hp) (rest rfl)))) (by omega)
      unfold stC
      rw [if_neg (by omega), if_neg (by omega), if_neg (by omega), if_neg (by omega), if_neg (by omega), if_neg (by omega), if_pos hk, ms_do hcur _ _ _ (by simp only [List.length_cons, List.cons_append]; omega) (fun i q => by cases q), b1, ms_do hcur _ _ _ (by simp only [List.length_cons, List.cons_append]; omega) ve.rg, b1, ms_do hcur _ _ _ (by simp only [List.length_cons, List.cons_append]; omega) ve.rg]
      rfl
    | @brk _ _ _ _ pa base out _ _ d' hl hd' hk hv i =>
      rw [hd] at hd'; injection hd' with hd'; subst hd'
      exact hbrk mi base out pa d (by omega) hm r2.1 rfl hd hk hbr hv i h2
end
end Go.Sm
