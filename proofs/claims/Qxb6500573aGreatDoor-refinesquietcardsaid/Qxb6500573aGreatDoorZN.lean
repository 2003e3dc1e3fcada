/- Plain: the two parsers: expressions. -/
import Derived.Test.Qxb6500573aGreatDoorZM
namespace Go.Zm
open Go Go.Sl Go.Wl Go.Nm Go.Proofs
set_option linter.unusedVariables false
set_option linter.unusedSectionVars false
theorem rk_out {k : Int} (h : k < 22 ∨ 36 < k) : (rk k).1 = 0 := by
  unfold rk
  rw [if_neg (by omega), if_neg (by omega), if_neg (by omega), if_neg (by omega), if_neg (by omega), if_neg (by omega)]
theorem rk_kd {k : Int} (h : (rk k).1 ≠ 0) : (rk k).2.1 = 22 ∨ (rk k).2.1 = 24 ∨ (rk k).2.1 = 25 := by
  unfold rk at h ⊢
  repeat' split
  all_goals first
    | exact .inr (.inr rfl)
    | exact .inr (.inl rfl)
    | exact .inl rfl
    | skip
  rename_i a b c d e f
  rw [if_neg a, if_neg b, if_neg c, if_neg d, if_neg e, if_neg f] at h
  exact absurd rfl h
theorem bin_kd3 {a k o : Int} {x y : T} (h : k = 22 ∨ k = 24 ∨ k = 25) : kd3 (.bin a k o x y) := by
  unfold kd3 kdT T.ty
  refine ⟨⟨fun q => ?_, fun q => ?_⟩, ⟨fun q => ?_, fun q => ?_⟩, ⟨fun q => ?_, fun q => ?_⟩⟩
  · dsimp only at q; omega
  · cases q
  · dsimp only at q; omega
  · cases q
  · dsimp only at q; omega
  · cases q
theorem exl_stop {toks : List Tok} {rc : Rec} {room least : Int} (hl : 1 ≤ least) : ∀ (k : Nat) (x : T) (s : PS) (t : T) (s' : PS), exprL toks rc k room least x s = some (t, s') → t.isNil = false → (rk s'.cur.kind).1 < least
  | 0, _, _, _, _, h, _ => by cases h
  | k + 1, x, s, t, s', h, ht => by
    rw [exprL] at h
    split at h
    · injection h with h; injection h with h1 h2; subst h1; cases ht
    · split at h
      · rename_i c; injection h with h; injection h with h1 h2; subst h2; rw [rk_out (.inl c)]; omega
      · split at h
        · rename_i c; injection h with h; injection h with h1 h2; subst h2; rw [rk_out (.inr c)]; omega
        · rename_i c1 c2
          rw [binds_rk ⟨by omega, by omega⟩] at h
          dsimp only at h
          split at h
          · rename_i c; injection h with h; injection h with h1 h2; subst h2; exact c
          · obtain ⟨s1, _, h⟩ := bnd1 h
            obtain ⟨y, s2, _, h⟩ := bnd2 h
            split at h
            · injection h with h; injection h with h1 h2; subst h1; cases ht
            · exact exl_stop hl k _ _ _ _ h ht
theorem expr_up (src : List UInt8) (N : Nat) (lv : Int) (m : PZ) : (recZ src (N + 1)).expr lv m = exprZ src (recZ src N) N lv m := rfl
theorem and_up (src : List UInt8) (N : Nat) (lv : Int) (m : PZ) : (recZ src (N + 1)).andE lv m = andZ src (recZ src N) N lv m := rfl
theorem left_up (src : List UInt8) (N : Nat) (lv r : Int) (m : PZ) : (recZ src (N + 1)).left lv r m = leftZ src (recZ src N) N lv r m := rfl
section
variable {src : List UInt8} {toks : List Tok} {rc : Rec} (hT : TOk toks) (ih : IH src toks rc)
include hT ih
theorem exl_eq {room r : Int} (hroom : 1 ≤ room ∧ room ≤ 12) (hr : 1 ≤ r ∧ r ≤ 7) (hst : ∀ {room least : Int} {s : PS} {t : T} {s' : PS}, 1 ≤ least → rc.expr room least s = some (t, s') → t.isNil = false → (rk s'.cur.kind).1 < least) {s0 : PS} {m0 : PZ} (hR0 : Rl src toks s0 m0) :
    ∀ (k : Nat) (x : T) (s : PS) (m : PZ) (xv : Int) (t : T) (s' : PS) (d j : Nat), OkE src toks s0 m0 x xv s m → x.isNil = false → 1 ≤ d → (d : Int) + j = 8 - r → (rk s.cur.kind).1 < 8 - (d : Int) → exprL toks rc k room r x s = some (t, s') →
      ∃ v m', TF src (13 - room) j d xv m (v, m') ∧ ((t.isNil = true ∧ Fl src m' s') ∨ (t.isNil = false ∧ OkE src toks s0 m0 t v s' m')) := by
  intro k
  induction k with
  | zero => intro x s m xv t s' d j _ _ _ _ _ h; cases h
  | succ k ihk =>
    intro x s m xv t s' d j hO hxn hd hdj hno h
    rw [exprL, if_neg (by rw [hxn]; decide)] at h
    have hR := hO.rl
    have ret : (rk s.cur.kind).1 < r → ∃ v m', TF src (13 - room) j d xv m (v, m') ∧ ((x.isNil = true ∧ Fl src m' s) ∨ (x.isNil = false ∧ OkE src toks s0 m0 x v s m')) := fun hlt =>
      ⟨xv, m, TF.pre j d 0 (fun i hi => lp_stop hR (by omega) (by omega) xv) rfl, .inr ⟨hxn, hO⟩⟩
    split at h
    · rename_i c; injection h with h; injection h with h1 h2; subst h1; subst h2
      exact ret (by rw [rk_out (.inl c)]; omega)
    · split at h
      · rename_i c; injection h with h; injection h with h1 h2; subst h1; subst h2
        exact ret (by rw [rk_out (.inr c)]; omega)
      · rename_i c1 c2
        rw [binds_rk ⟨by omega, by omega⟩] at h
        dsimp only at h
        split at h
        · rename_i c; injection h with h; injection h with h1 h2; subst h1; subst h2
          exact ret c
        · rename_i c
          have hb := rk_le s.cur.kind
          obtain ⟨d1, hd1⟩ : ∃ d1 : Nat, (d1 : Int) = 7 - (rk s.cur.kind).1 := ⟨(7 - (rk s.cur.kind).1).toNat, by omega⟩
          obtain ⟨e, he⟩ : ∃ e : Nat, d1 = d + e := ⟨d1 - d, by omega⟩
          obtain ⟨j', hj'⟩ : ∃ j' : Nat, j = e + (j' + 1) := ⟨j - e - 1, by omega⟩
          have hpre : ∀ {res}, TF src (13 - room) (j' + 1) d1 xv m res → TF src (13 - room) j d xv m res := fun hh => by
            rw [hj']
            exact TF.pre e d (j' + 1) (fun i hi => lp_stop hR (by omega) (by omega) xv) (by rw [← he]; exact hh)
          obtain ⟨s1, hn, h⟩ := bnd1 h
          obtain ⟨m1, k1, k2, k3, k4, _⟩ := nextR hR hn
          obtain ⟨y, s2, hy, h⟩ := bnd2 h
          have hge := hO.ge
          have hgr := hO.gr
          have hnb := hR.nb
          have fin : ∀ {yv : Int} {m2 : PZ} {q : Int}, y.isNil = false → OkE src toks s1 m1 y yv s2 m2 → addZ ⟨(rk s.cur.kind).2.1, xv, yv, 0, 0, (rk s.cur.kind).2.2, [], m.tok.at_⟩ m2 = some ((m2.nodes.length : Int), { m2 with nodes := m2.nodes ++ [⟨(rk s.cur.kind).2.1, xv, yv, 0, 0, (rk s.cur.kind).2.2, [], m.tok.at_⟩] }) ∧ OkE src toks s0 m0 (.bin s.cur.at_ (rk s.cur.kind).2.1 (rk s.cur.kind).2.2 x y) m2.nodes.length s2 { m2 with nodes := m2.nodes ++ [⟨(rk s.cur.kind).2.1, xv, yv, 0, 0, (rk s.cur.kind).2.2, [], m.tok.at_⟩] } := by
            intro yv m2 q _ hO2
            have g1 := hO2.ge
            have g2 := hO2.gr
            rw [k4] at g1 g2
            refine OkE.fin hT hO2.rl (s := s0) (m := m0) (by omega) (by omega) hR0 ?_ (bin_kd3 (rk_kd (by omega))) rfl (fun _ _ _ q => by cases q)
            rw [hR.tk.at_]
            exact LE.bin hO.la (by rw [← k4]; exact hO2.la) (by have := hO2.rl.bd hT; omega)
          by_cases h4 : (rk s.cur.kind).1 = 4
          · rw [if_pos h4] at hy
            obtain ⟨yv, m2, hev, hres⟩ := ih.expr (by omega) (by omega) k2 hy
            rw [lv1] at hev
            have hk30 : s.cur.kind = 30 := (rk_cat _).1 h4
            have z : isZ tCat m = true := isT hR (K := 30) (by omega) rfl hk30
            obtain rfl : d1 = 3 := by omega
            have hev' : Ev (fun N _ => (recZ src N).left (13 - room + 1) 2 m1) (yv, m2) := hev
            rcases hres with ⟨ht, hF⟩ | ⟨ht, _, hO2⟩
            · rw [if_pos ht] at h
              injection h with h; injection h with h1 h2; subst h1; subst h2
              obtain ⟨v, hv⟩ := TF_err hF (lv := 13 - room) j' 4 0
              exact ⟨v, m2, hpre ⟨0, m2, (show Ev (fun N n => catZ src (recZ src N) (13 - room) xv m) (0, m2) from Ev.ifn (fun q => q hR.er) (Ev.ct z (Ev.b1 k1 (Ev.b2 hev' (Ev.ifp hF.ne (Ev.pure _)))))), hv⟩, .inl ⟨rfl, hF⟩⟩
            · rw [if_neg (by rw [ht]; decide)] at h
              have hfin := fin (q := 0) ht hO2
              obtain ⟨v, m', hTF, hres3⟩ := ihk _ s2 _ _ t s' 4 j' hfin.2 rfl (by omega) (by omega) (by have := hst (by omega) hy ht; omega) h
              refine ⟨v, m', hpre ⟨_, _, (show Ev (fun N n => catZ src (recZ src N) (13 - room) xv m) _ from Ev.ifn (fun q => q hR.er) (Ev.ct z (Ev.b1 k1 (Ev.b2 hev' (Ev.ifn (fun q => q hO2.rl.er) (Ev.const ?_)))))), hTF⟩, hres3⟩
              have := hfin.1
              rw [hk30] at this ⊢
              exact this
          · rw [if_neg h4] at hy
            obtain ⟨yv, m2, hev, hres⟩ := ih.expr (by omega) (by omega) k2 hy
            rw [show (rk s.cur.kind).1 + 1 = 8 - (d1 : Int) by omega] at hev
            rcases hres with ⟨ht, hF⟩ | ⟨ht, _, hO2⟩
            · rw [if_pos ht] at h
              injection h with h; injection h with h1 h2; subst h1; subst h2
              obtain ⟨v, hv⟩ := TF_err hF (lv := 13 - room) j' (d1 + 1) 0
              exact ⟨v, m2, hpre ⟨0, m2, lp_bad hR (by omega) (by omega) (by omega) k1 hev hF.ne, hv⟩, .inl ⟨rfl, hF⟩⟩
            · rw [if_neg (by rw [ht]; decide)] at h
              have hfin := fin (q := 0) ht hO2
              obtain ⟨v, m', hTF, hres3⟩ := ihk _ s2 _ _ t s' d1 (j' + 1) hfin.2 rfl (by omega) (by omega) (by have := hst (by omega) hy ht; omega) h
              obtain ⟨x1, mm, hl, hrest⟩ := hTF
              exact ⟨v, m', hpre ⟨x1, mm, lp_step hR (by omega) (by omega) (by omega) k1 hev hO2.rl.er hfin.1 hl, hrest⟩, hres3⟩
/-- From the operand to the rank. -/
theorem lev_TF {room : Int} (hroom : 1 ≤ room ∧ room ≤ 12) {m m1 : PZ} {xv : Int} (hm : m.err = 0) (hU : Ev (fun N _ => (recZ src N).unary (13 - room) m) (xv, m1)) : ∀ (D : Nat) (res : Int × PZ), D ≤ 6 → TF src (13 - room) D 1 xv m1 res → Ev (lev src (7 - (D : Int)) (13 - room) m) res := by
  intro D
  induction D with
  | zero =>
    intro res _ h
    rw [show res = (xv, m1) from h]
    exact (show Ev (fun N _ => (recZ src N).left (13 - room) 5 m) (xv, m1) from Ev.up (f := fun N n => leftZ src (recZ src N) n (13 - room) 5 m) (Ev.grd (by omega) (Ev.grd (by omega) (Ev.ifp rfl hU))) (fun N => left_up src N _ _ _))
  | succ D ihD =>
    intro res hD h
    obtain ⟨x1, m2, h1, h2⟩ := TF.snoc h
    have h3 := ihD (x1, m2) (by omega) h1
    have hl : ∀ r : Int, r = 1 ∨ r = 3 ∨ r = 4 → Ev (fun N _ => (recZ src N).left (13 - room) (r + 1) m) (x1, m2) → Ev (fun N n => lftZL src (recZ src N) n (13 - room) r x1 m2) res → Ev (fun N _ => (recZ src N).left (13 - room) r m) res := fun r hr q1 q2 =>
      Ev.up (f := fun N n => leftZ src (recZ src N) n (13 - room) r m) (Ev.grd (by omega) (Ev.grd (by omega) (Ev.ifn (by omega) (Ev.ifn (by omega) (Ev.b2 q1 q2))))) (fun N => left_up src N _ _ _)
    rcases (show D = 0 ∨ D = 1 ∨ D = 2 ∨ D = 3 ∨ D = 4 ∨ D = 5 by omega) with rfl | rfl | rfl | rfl | rfl | rfl
    · exact hl 4 (by omega) h3 h2
    · exact hl 3 (by omega) h3 h2
    · exact (show Ev (fun N _ => (recZ src N).left (13 - room) 2 m) res from Ev.up (f := fun N n => leftZ src (recZ src N) n (13 - room) 2 m) (Ev.grd (by omega) (Ev.grd (by omega) (Ev.ifn (by omega) (Ev.ifp rfl (Ev.b2c (deepF hT ih (by omega)) (Ev.cf rfl (Ev.b2 (show Ev (fun N _ => (recZ src N).left (13 - room) 3 m) (x1, m2) from h3) h2))))))) (fun N => left_up src N _ _ _))
    · exact hl 1 (by omega) h3 h2
    · exact (show Ev (fun N _ => (recZ src N).andE (13 - room) m) res from Ev.up (f := fun N n => andZ src (recZ src N) n (13 - room) m) (Ev.b2 (show Ev (fun N _ => (recZ src N).left (13 - room) 1 m) (x1, m2) from h3) h2) (fun N => and_up src N _ _))
    · exact (show Ev (fun N _ => (recZ src N).expr (13 - room) m) res from Ev.up (f := fun N n => exprZ src (recZ src N) n (13 - room) m) (Ev.ifn (fun q => q hm) (Ev.b2c (deepF hT ih (by omega)) (Ev.cf rfl (Ev.b2 (show Ev (fun N _ => (recZ src N).andE (13 - room) m) (x1, m2) from h3) h2)))) (fun N => expr_up src N _ _))
/-- No level is left. -/
theorem lev_deep {room : Int} (hroom : -5 ≤ room ∧ room ≤ 0) {s : PS} {m : PZ} (hR : Rl src toks s m) : ∀ D : Nat, D ≤ 6 → ∃ v, Ev (lev src (7 - (D : Int)) (13 - room) m) (v, failZ 16 m) := by
  have hF := failR hT hR (e := 16) (by decide)
  have hl : ∀ (r v : Int), r = 1 ∨ r = 3 ∨ r = 4 → Ev (fun N _ => (recZ src N).left (13 - room) (r + 1) m) (v, failZ 16 m) → Ev (fun N _ => (recZ src N).left (13 - room) r m) (0, failZ 16 m) := fun r v hr q1 =>
    Ev.up (f := fun N n => leftZ src (recZ src N) n (13 - room) r m) (Ev.grd (by omega) (Ev.grd (by omega) (Ev.ifn (by omega) (Ev.ifn (by omega) (Ev.b2 q1 (Ev.rd (Ev.ifn hF.ne (Ev.pure _)) (fun N n => lftZL_succ _ _ _ _ _ _ _))))))) (fun N => left_up src N _ _ _)
  intro D
  induction D with
  | zero =>
    intro _
    refine ⟨0, (show Ev (fun N _ => (recZ src N).left (13 - room) 5 m) (0, failZ 16 m) from Ev.up (f := fun N n => leftZ src (recZ src N) n (13 - room) 5 m) (Ev.grd (by omega) (Ev.grd (by omega) (Ev.ifp rfl ?_))) (fun N => left_up src N _ _ _))⟩
    exact Ev.up (f := fun N n => unaryZ src (recZ src N) (13 - room) m) (Ev.grd (by omega) (Ev.b2c (deepT hT ih hroom.2) (Ev.ct rfl (Ev.pure _)))) (fun N => unary_up src N _ _)
  | succ D ihD =>
    intro hD
    obtain ⟨v, h3⟩ := ihD (by omega)
    rcases (show D = 0 ∨ D = 1 ∨ D = 2 ∨ D = 3 ∨ D = 4 ∨ D = 5 by omega) with rfl | rfl | rfl | rfl | rfl | rfl
    · exact ⟨0, hl 4 v (by omega) h3⟩
    · exact ⟨0, hl 3 v (by omega) h3⟩
    · exact ⟨0, (show Ev (fun N _ => (recZ src N).left (13 - room) 2 m) _ from Ev.up (f := fun N n => leftZ src (recZ src N) n (13 - room) 2 m) (Ev.grd (by omega) (Ev.grd (by omega) (Ev.ifn (by omega) (Ev.ifp rfl (Ev.b2c (deepT hT ih hroom.2) (Ev.ct rfl (Ev.pure _))))))) (fun N => left_up src N _ _ _))⟩
    · exact ⟨0, hl 1 v (by omega) h3⟩
    · exact ⟨v, (show Ev (fun N _ => (recZ src N).andE (13 - room) m) _ from Ev.up (f := fun N n => andZ src (recZ src N) n (13 - room) m) (Ev.b2 (show Ev (fun N _ => (recZ src N).left (13 - room) 1 m) (v, failZ 16 m) from h3) (Ev.rd (Ev.ifn hF.ne (Ev.pure _)) (fun N n => andZL_succ _ _ _ _ _ _))) (fun N => and_up src N _ _))⟩
    · exact ⟨0, (show Ev (fun N _ => (recZ src N).expr (13 - room) m) _ from Ev.up (f := fun N n => exprZ src (recZ src N) n (13 - room) m) (Ev.ifn (fun q => q hR.er) (Ev.b2c (deepT hT ih hroom.2) (Ev.ct rfl (Ev.pure _)))) (fun N => expr_up src N _ _))⟩
theorem expr_eq {room least : Int} (hroom : -5 ≤ room ∧ room ≤ 12) (hle : 1 ≤ least ∧ least ≤ 7) (hst : ∀ {room least : Int} {s : PS} {t : T} {s' : PS}, 1 ≤ least → rc.expr room least s = some (t, s') → t.isNil = false → (rk s'.cur.kind).1 < least) (hu0 : ∀ {room : Int} {s : PS} {t : T} {s' : PS}, room ≤ 0 → rc.unary room s = some (t, s') → t = .nil ∧ s' = failP 16 s)
    {lf : Nat} {s s' : PS} {m : PZ} {t : T} (hR : Rl src toks s m) (h : exprP toks rc lf room least s = some (t, s')) : RE src toks room s m (lev src least (13 - room) m) t s' := by
  unfold exprP at h
  obtain ⟨_, h⟩ := Wl.grd h
  obtain ⟨x, s1, hx, h⟩ := bnd2 h
  obtain ⟨D, hD⟩ : ∃ D : Nat, (D : Int) = 7 - least := ⟨(7 - least).toNat, by omega⟩
  have hlv : least = 7 - (D : Int) := by omega
  have nil : x.isNil = true → t = .nil ∧ s' = s1 := fun hxn => by
    cases lf with
    | zero => cases h
    | succ lf =>
      rw [exprL, if_pos hxn] at h
      injection h with h; injection h with h1 h2
      exact ⟨h1.symm, h2.symm⟩
  by_cases hr0 : room ≤ 0
  · obtain ⟨rfl, rfl⟩ := hu0 hr0 hx
    obtain ⟨rfl, rfl⟩ := nil rfl
    obtain ⟨v, hv⟩ := lev_deep hT ih ⟨hroom.1, hr0⟩ hR D (by omega)
    rw [← hlv] at hv
    exact ⟨v, _, hv, .inl ⟨rfl, failR hT hR (by decide)⟩⟩
  · obtain ⟨xv, m1, hev, hres⟩ := ih.unary hroom hR hx
    rcases hres with ⟨ht, hF⟩ | ⟨ht, _, hO⟩
    · obtain ⟨rfl, rfl⟩ := nil ht
      obtain ⟨v, hv⟩ := TF_err hF (lv := 13 - room) D 1 xv
      have := lev_TF hT ih (by omega) hR.er hev D _ (by omega) hv
      rw [← hlv] at this
      exact ⟨v, m1, this, .inl ⟨rfl, hF⟩⟩
    · obtain ⟨v, m', hTF, hres2⟩ := exl_eq hT ih (r := least) (by omega) hle hst hR lf x s1 m1 xv t s' 1 D hO ht (by omega) (by omega) (by have := rk_le s1.cur.kind; omega) h
      have := lev_TF hT ih (by omega) hR.er hev D _ (by omega) hTF
      rw [← hlv] at this
      exact ⟨v, m', this, hres2.imp id fun q => ⟨q.1, by omega, q.2⟩⟩
end
end Go.Zm
