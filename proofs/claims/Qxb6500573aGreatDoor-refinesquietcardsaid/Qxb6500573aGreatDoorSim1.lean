/- Plain: the interpreter and the machine go on together: expressions. -/
import Derived.Test.Qxb6500573aGreatDoorSim0
namespace Go.Sm
open Go Go.Sl Go.Wl Go.Nm Go.Proofs
set_option linter.unusedVariables false
section
variable {K : Cn} {s : RnM} {m : VM} {S : List Nat} {cn : Int} {ρ : Nat → Option Plc} {fi : Nat → List FI} {c : Cx} {t : Th} {l : List FI} {F : FI} {Tk : List TkM} {W low ops : List V}
abbrev VOf (K : Cn) (s : RnM) (m : VM) (ρ : Nat → Option Plc) (c : Cx) (F : FI) : List Nm8 → Option Nat → Prop := VOk K.P s.envs ρ m c.th F.B F.x F.E F.up
/-- Both push the value v. -/
theorem Vw.both (Y : Vw K s m S cn ρ fi c t l F Tk W low ops) {n y : Int} {e : Option Nat} {T : List TkM} {d : Nd} {v : V} {w : Nat} (hT : F.T = ⟨2, n, y, e⟩ :: T) (hd : ndG s n = some d) (h : reval n y e (Go.Sm.ms s (T ++ Tk) (W ++ (hidV low F.B F.L ++ ops))) = rpush v (Go.Sm.ms s (T ++ Tk) (W ++ (hidV low F.B F.L ++ ops)))) (hv : vstepL c.th m = some (.ok ev0 (upd c m t (t.stack ++ [v]) (F.pc + 1)))) (ht : ∀ p, p ∈ F.tb → p < F.no) (k : KtV K s m ρ c F F.br F.L (F.pc + 1) (F.no + 1) F.tb T w) : Prog K F.w s (.run S c.th cn m) := by
  refine Y.step (ops' := ops ++ [v]) (Y.task hT (by intro q; cases q) hd (by rw [rt2, h, Y.push v (Nat.le_refl _)])) ?_ k (by rw [List.length_append, Y.nops]; rfl) (tb_app (B := []) (by rw [List.append_nil]; exact Y.tbs) (by rw [← Y.nops]; exact ht))
  rw [hv, Y.sk, List.append_assoc]
theorem sim_one (Y : Vw K s m S cn ρ fi c t l F Tk W low ops) {c0 : Int} {e : Option Nat} {T : List TkM} {w : Nat} (hT : F.T = ⟨2, 0, 1, e⟩ :: T) (i : insP K.P F.x F.pc = some (1, c0)) (hc : kP K.P F.x c0 ⟨2, 4607182418800017408, []⟩) (ht : ∀ p, p ∈ F.tb → p < F.no) (k : KtV K s m ρ c F F.br F.L (F.pc + 1) (F.no + 1) F.tb T w) : Prog K F.w s (.run S c.th cn m) := by
  refine Y.both hT Y.nd0 ?_ (Y.N.xkon (Y.ins i) (Y.kon hc)) ht k
  unfold reval
  rw [if_pos rfl, if_pos rfl]
  have : ((FloatKind.f64.nearest 1 : Nat) : Int) = 4607182418800017408 := by decide +kernel
  rw [this]
theorem sim_eval (Y : Vw K s m S cn ρ fi c t l F Tk W low ops) {n : Int} {e : Option Nat} {T : List TkM} {lo hi q w : Nat} (hT : F.T = ⟨2, n, 0, e⟩ :: T) (hw : F.w = w + (6 * (hi - lo) + 1)) (h : Sp K.ns K.P .ex lo hi F.x F.E F.L F.pc n q) (ve : VOf K s m ρ c F F.L e) (hb : T.length + 7 * (hi - lo) ≤ K.HB) (ht : ∀ p, p ∈ F.tb → p < F.no) (k : KtV K s m ρ c F F.br F.L q (F.no + 1) F.tb T w)
    (hname : ∀ d, K.ns[hi]? = some d → d.k = 17 → nameOk d.s → n = (hi : Int) → VarS K.P F.x F.E F.L d.s 5 7 9 F.pc → KtV K s m ρ c F F.br F.L (F.pc + 1) (F.no + 1) F.tb T w → Prog K F.w s (.run S c.th cn m))
    (hfunc : ∀ d, K.ns[hi]? = some d → d.k = 20 → n = (hi : Int) → Sp K.ns K.P .ex lo hi F.x F.E F.L F.pc n (F.pc + 1) → KtV K s m ρ c F F.br F.L (F.pc + 1) (F.no + 1) F.tb T w → Prog K F.w s (.run S c.th cn m))
    (htab : ∀ d m1, K.ns[hi]? = some d → d.k = 21 → n = (hi : Int) → m1 < hi → insP K.P F.x F.pc = some (14, 0) → Sp K.ns K.P (.it 0) lo m1 F.x F.E F.L (F.pc + 1) d.a q → Prog K F.w s (.run S c.th cn m)) : Prog K F.w s (.run S c.th cn m) := by
  have htl := Y.tlen hT
  have htl2 := htl
  rw [List.length_append] at htl2
  have hcur := Y.cur
  cases h with
  | blank i => exact Y.both hT Y.nd0 rfl (Y.N.xlit (.inl ⟨rfl, rfl⟩) (Y.ins i)) ht k
  | @lit _ _ _ _ _ _ d op hl hd hk i =>
    have hdd := Y.nd (nd_pos hd)
    rcases hk with ⟨hk, rfl⟩ | ⟨hk, rfl⟩ | ⟨hk, rfl⟩
    · refine Y.both hT hdd ?_ (Y.N.xlit (.inl ⟨rfl, rfl⟩) (Y.ins i)) ht k
      refine (reval_at (m := Go.Sm.ms s _ _) (by omega) hdd).trans ?_
      unfold evB
      rw [if_pos hk]
    · refine Y.both hT hdd ?_ (Y.N.xlit (.inr (.inl ⟨rfl, rfl⟩)) (Y.ins i)) ht k
      refine (reval_at (m := Go.Sm.ms s _ _) (by omega) hdd).trans ?_
      unfold evB
      rw [if_neg (by omega), if_pos hk]
    · refine Y.both hT hdd ?_ (Y.N.xlit (.inr (.inr ⟨rfl, rfl⟩)) (Y.ins i)) ht k
      refine (reval_at (m := Go.Sm.ms s _ _) (by omega) hdd).trans ?_
      unfold evB
      rw [if_neg (by omega), if_neg (by omega), if_pos hk]
  | @num _ _ _ _ _ _ d c0 hl hd hk i hc =>
    have hdd := Y.nd (nd_pos hd)
    refine Y.both hT hdd ?_ (Y.N.xkon (Y.ins i) (Y.kon hc)) ht k
    refine (reval_at (m := Go.Sm.ms s _ _) (by omega) hdd).trans ?_
    unfold evB
    rw [if_neg (by omega), if_neg (by omega), if_neg (by omega), if_pos hk]
  | @str _ _ _ _ _ _ d c0 hl hd hk i hc =>
    have hdd := Y.nd (nd_pos hd)
    refine Y.both hT hdd ?_ (Y.N.xkon (Y.ins i) (Y.kon hc)) ht k
    refine (reval_at (m := Go.Sm.ms s _ _) (by omega) hdd).trans ?_
    unfold evB
    rw [if_neg (by omega), if_neg (by omega), if_neg (by omega), if_neg (by omega), if_pos hk]
  | name hl hd hk hs hv => exact hname _ hd hk hs rfl hv k
  | @index _ m1 m2 _ _ _ p1 p2 _ _ d hl hd hk h1 h2 i =>
    have r1 := h1.reg
    have r2 := h2.reg
    refine Y.admin (br' := F.br) (L' := F.L) (T' := ⟨2, d.a, 0, e⟩ :: ⟨2, d.b, 0, e⟩ :: ⟨28, 0, 0, none⟩ :: T) (Y.ev hT (by omega) hd ?_) (.eval h1 ve (by simp only [List.length_cons]; omega) ht (.eval h2 ve (by simp only [List.length_cons]; omega) (fun p hp => Nat.lt_succ_of_lt (ht p hp)) (.idx i (by omega) ht k))) (by omega)
    unfold evB
    rw [if_neg (by omega), if_neg (by omega), if_neg (by omega), if_neg (by omega), if_neg (by omega), if_neg (by omega), if_pos hk, ms_do hcur _ _ _ (by omega) (fun i q => by cases q), b1, ms_do hcur _ _ _ (by simp only [List.length_cons]; omega) ve.rg, b1, ms_do hcur _ _ _ (by simp only [List.length_cons]; omega) ve.rg]
    rfl
  | @call _ _ _ _ p1 _ _ d hl hd hk h i =>
    cases h with
    | @clmk _ m1 m2 _ _ _ p3 p4 j _ _ d2 hl2 hd2 hk2 h1 h2 hj i2 =>
      rw [hd] at hd2
      injection hd2 with hd2
      subst hd2
      have r1 := h1.reg
      have r2 := h2.reg
      -- the arguments
      have hargs : ∀ (j : Nat) {a b pc q : Nat} {r : Int} {T0 : List TkM} {w0 : Nat}, Sp K.ns K.P (.ar j) a b F.x F.E F.L pc r q → T0.length + 7 * (b - a) + j ≤ K.HB → ∀ n0, (∀ p, p ∈ F.tb → p < n0) → KtV K s m ρ c F F.br F.L q (n0 + j) F.tb T0 w0 → ∀ f, j ≤ f → ∃ al : List Int, argL s f r = some al ∧ al.length = j ∧ KtV K s m ρ c F F.br F.L pc n0 F.tb (al.map (fun a => (⟨2, a, 0, e⟩ : TkM)) ++ T0) (w0 + 6 * (b - a) + j) := by
        intro j
        induction j with
        | zero =>
          intro a b pc q r T0 w0 hS hl0 n0 ht0 hk0 f hf
          cases hS with
          | anil =>
            refine ⟨[], ?_, rfl, ?_⟩
            · cases f with
              | zero => rfl
              | succ f => unfold argL; rw [if_pos rfl]
            · rw [Nat.sub_self]; exact hk0
        | succ j ih =>
          intro a b pc q r T0 w0 hS hl0 n0 ht0 hk0 f hf
          cases hS with
          | @acons _ md _ _ _ pm _ _ _ _ d hm hd h1 h2 =>
            have q1 := h1.reg
            have q2 := h2.reg
            obtain ⟨f, rfl⟩ : ∃ g, f = g + 1 := ⟨f - 1, by omega⟩
            obtain ⟨al, g1, g2, g3⟩ := ih (T0 := T0) h2 (by omega) (n0 + 1) (fun p hp => Nat.lt_succ_of_lt (ht0 p hp)) (by rw [show n0 + 1 + j = n0 + (j + 1) from by omega]; exact hk0) f (by omega)
            have hmd : 0 < md := by omega
            refine ⟨(md : Int) :: al, ?_, by simp [g2], ?_⟩
            · unfold argL
              rw [if_neg (by omega), Y.nd (nd_pos hd)]
              dsimp only
              rw [g1]
              rfl
            · have h9 := Kt.eval (T := al.map (fun a => (⟨2, a, 0, e⟩ : TkM)) ++ T0) h1 ve (by simp only [List.length_append, List.length_map]; omega) ht0 g3
              have e9 : w0 + 6 * (b - md) + j + (6 * (md - a) + 1) = w0 + 6 * (b - a) + (j + 1) := by omega
              rw [e9] at h9
              exact h9
      obtain ⟨al, g1, g2, g3⟩ := hargs j (T0 := ⟨22, (hi : Int), (j : Int), e⟩ :: ⟨5, 0, 0, none⟩ :: T) h2 (by simp only [List.length_cons]; omega) (F.no + 1) (fun p hp => Nat.lt_succ_of_lt (ht p hp)) (by rw [show F.no + 1 + j = F.no + j + 1 from by omega]; exact .call (nd_pos hd) hj i2 (by simp only [List.length_cons]; omega) ht (.pop i (by omega) (fun p hp => Nat.lt_succ_of_lt (ht p hp)) k)) 3 hj
      have hdo : ∀ (al : List Int) (T0 : List TkM), T0.length + al.length ≤ 100010 → doL e al (Go.Sm.ms s T0 (W ++ (hidV low F.B F.L ++ ops))) = some (Go.Sm.ms s (al.reverse.map (fun a => (⟨2, a, 0, e⟩ : TkM)) ++ T0) (W ++ (hidV low F.B F.L ++ ops))) := by
        intro al
        induction al with
        | nil => intro T0 _; rfl
        | cons a al ih =>
          intro T0 hl0
          rw [List.length_cons] at hl0
          unfold doL
          rw [ms_do hcur _ _ _ (by omega) ve.rg, b1, ih _ (by simp only [List.length_cons]; omega)]
          simp
      have hal : (al.map (fun a => (⟨2, a, 0, e⟩ : TkM))).length = j := by simp [g2]
      refine Y.admin (br' := F.br) (L' := F.L) (T' := ⟨2, d.a, 0, e⟩ :: (al.map (fun a => (⟨2, a, 0, e⟩ : TkM)) ++ (⟨22, (hi : Int), (j : Int), e⟩ :: ⟨5, 0, 0, none⟩ :: T))) (Y.ev hT (by omega) hd ?_) (.eval h1 ve (by simp only [List.length_append, List.length_cons, hal]; omega) ht g3) (by omega)
      unfold evB
      rw [if_neg (by omega), if_neg (by omega), if_neg (by omega), if_neg (by omega), if_neg (by omega), if_neg (by omega), if_neg (by omega), if_pos hk, ms_do hcur _ _ _ (by omega) (fun i q => by cases q), b1]
      unfold rcall
      rw [show ndG (Go.Sm.ms s (⟨5, 0, 0, none⟩ :: (T ++ Tk)) (W ++ (hidV low F.B F.L ++ ops))) (hi : Int) = some d from Y.nd (nd_pos hd), b1, show argL (Go.Sm.ms s (⟨5, 0, 0, none⟩ :: (T ++ Tk)) (W ++ (hidV low F.B F.L ++ ops))) 3 d.b = some al from g1, b1, ms_do hcur _ _ _ (by simp only [List.length_cons]; omega) ve.rg, b1, hdo _ _ (by simp only [List.length_cons, List.length_reverse]; omega), b1, List.reverse_reverse, ms_do hcur _ _ _ (by simp only [List.length_append, List.length_cons, hal]; omega) ve.rg, g2]
      simp
  | func hlo hl hd hk hn i hf hp hnp hps hb' hv hr => exact hfunc _ hd hk rfl (.func hlo hl hd hk hn i hf hp hnp hps hb' hv hr) k
  | table hl hd hk i h => exact htab _ _ hd hk rfl hl i h
  | @bin _ m1 m2 _ _ _ p1 p2 _ _ d hl hd hk ho h1 h2 i =>
    have r1 := h1.reg
    have r2 := h2.reg
    refine Y.admin (br' := F.br) (L' := F.L) (T' := ⟨2, d.a, 0, e⟩ :: ⟨2, d.b, 0, e⟩ :: ⟨24, (hi : Int), 0, none⟩ :: T) (Y.ev hT (by omega) hd ?_) (.eval h1 ve (by simp only [List.length_cons]; omega) ht (.eval h2 ve (by simp only [List.length_cons]; omega) (fun p hp => Nat.lt_succ_of_lt (ht p hp)) (.bin (nd_pos hd) ho i (by omega) ht k))) (by omega)
    unfold evB
    rw [if_neg (by omega), if_neg (by omega), if_neg (by omega), if_neg (by omega), if_neg (by omega), if_neg (by omega), if_neg (by omega), if_neg (by omega), if_neg (by omega), if_neg (by omega), if_pos hk, ms_do hcur _ _ _ (by omega) (fun i q => by cases q), b1, ms_do hcur _ _ _ (by simp only [List.length_cons]; omega) ve.rg, b1, ms_do hcur _ _ _ (by simp only [List.length_cons]; omega) ve.rg]
    rfl
  | @una _ m1 _ _ _ p1 _ _ d hl hd hk ho h1 i =>
    have r1 := h1.reg
    refine Y.admin (br' := F.br) (L' := F.L) (T' := ⟨2, d.a, 0, e⟩ :: ⟨25, (hi : Int), 0, none⟩ :: T) (Y.ev hT (by omega) hd ?_) (.eval h1 ve (by simp only [List.length_cons]; omega) ht (.una (nd_pos hd) ho i (by omega) ht k)) (by omega)
    unfold evB
    rw [if_neg (by omega), if_neg (by omega), if_neg (by omega), if_neg (by omega), if_neg (by omega), if_neg (by omega), if_neg (by omega), if_neg (by omega), if_neg (by omega), if_neg (by omega), if_neg (by omega), if_pos hk, ms_do hcur _ _ _ (by omega) (fun i q => by cases q), b1, ms_do hcur _ _ _ (by simp only [List.length_cons]; omega) ve.rg]
    rfl
  | @log _ m1 m2 _ _ _ p1 p2 _ _ d op hl hd hk h1 i h2 =>
    have r1 := h1.reg
    have r2 := h2.reg
    rcases hk with ⟨hk, rfl⟩ | ⟨hk, rfl⟩
    · refine Y.admin (br' := F.br) (L' := F.L) (T' := ⟨2, d.a, 0, e⟩ :: ⟨26, (hi : Int), 0, e⟩ :: T) (Y.ev hT (by omega) hd ?_) (.eval h1 ve (by simp only [List.length_cons]; omega) ht (.log (nd_pos hd) (.inl ⟨rfl, rfl⟩) i h2 ve (by omega) ht k)) (by omega)
      unfold evB
      rw [if_neg (by omega), if_neg (by omega), if_neg (by omega), if_neg (by omega), if_neg (by omega), if_neg (by omega), if_neg (by omega), if_neg (by omega), if_neg (by omega), if_neg (by omega), if_neg (by omega), if_neg (by omega), if_pos hk, ms_do hcur _ _ _ (by omega) ve.rg, b1, ms_do hcur _ _ _ (by simp only [List.length_cons]; omega) ve.rg]
      rfl
    · refine Y.admin (br' := F.br) (L' := F.L) (T' := ⟨2, d.a, 0, e⟩ :: ⟨27, (hi : Int), 0, e⟩ :: T) (Y.ev hT (by omega) hd ?_) (.eval h1 ve (by simp only [List.length_cons]; omega) ht (.log (nd_pos hd) (.inr ⟨rfl, rfl⟩) i h2 ve (by omega) ht k)) (by omega)
      unfold evB
      rw [if_neg (by omega), if_neg (by omega), if_neg (by omega), if_neg (by omega), if_neg (by omega), if_neg (by omega), if_neg (by omega), if_neg (by omega), if_neg (by omega), if_neg (by omega), if_neg (by omega), if_neg (by omega), if_neg (by omega), if_pos hk, ms_do hcur _ _ _ (by omega) ve.rg, b1, ms_do hcur _ _ _ (by simp only [List.length_cons]; omega) ve.rg]
      rfl
end
end Go.Sm
