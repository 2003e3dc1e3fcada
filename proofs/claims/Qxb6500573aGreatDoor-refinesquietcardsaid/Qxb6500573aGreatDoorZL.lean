/- Plain: the two parsers: tails, unary operators. -/
import Derived.Test.Qxb6500573aGreatDoorZK
namespace Go.Zm
open Go Go.Sl Go.Wl Go.Nm Go.Proofs
set_option linter.unusedVariables false
set_option linter.unusedSectionVars false
theorem pstZL_succ (src : List UInt8) (rc : RZ) (n : Nat) (lv x : Int) (m : PZ) : pstZL src rc (n + 1) lv x m = if m.err = 0 then
      bif isZ tDot m then (bind1 (nextZ src m) fun m1 => bind2 (nameZ src 0 m1) fun nm m2 => if m2.err ≠ 0 then some (0, m2)
        else bind2 (addZ ⟨16, 0, 0, 0, 0, 0, nm.1, nm.2⟩ m2) fun k m3 => bind2 (addZ ⟨18, x, k, 0, 0, 0, [], m.tok.at_⟩ m3) fun x m4 => pstZL src rc n lv x m4)
      else bif isZ tBra m then (bind1 (nextZ src m) fun m1 => bind2 (rc.expr (lv + 1) m1) fun k m2 => bind1 (wantZ src tKet m2) fun m3 => if m3.err ≠ 0 then some (0, m3)
        else bind2 (addZ ⟨18, x, k, 0, 0, 0, [], m.tok.at_⟩ m3) fun x m4 => pstZL src rc n lv x m4)
      else bif isZ tOpen m then (bind1 (nextZ src m) fun m1 => bind2 (rc.list (lv + 1) tClose 3 m1) fun a m2 => if m2.err ≠ 0 then some (0, m2)
        else bind2 (addZ ⟨19, x, a, 0, 0, 0, [], m.tok.at_⟩ m2) fun x m3 => pstZL src rc n lv x m3)
      else some (x, m)
    else some (0, m) := rfl
section
variable {src : List UInt8} {toks : List Tok} {rc : Rec} (hT : TOk toks) (ih : IH src toks rc)
include hT ih
theorem pst_eq {room : Int} (hroom : 1 ≤ room ∧ room ≤ 12) {lf : Nat} {s0 : PS} {m0 : PZ} (hR0 : Rl src toks s0 m0) :
    ∀ (k : Nat) (x : T) (s : PS) (m : PZ) (xv : Int) (t : T) (s' : PS), OkE src toks s0 m0 x xv s m → x.isNil = false → postL toks rc lf k room x s = some (t, s') →
      ∃ v m', Ev (fun N n => pstZL src (recZ src N) n (13 - room) xv m) (v, m') ∧ ((t.isNil = true ∧ Fl src m' s') ∨ (t.isNil = false ∧ OkE src toks s0 m0 t v s' m')) := by
  intro k
  induction k with
  | zero => intro x s m xv t s' _ _ h; cases h
  | succ k ihk =>
    intro x s m xv t s' hO hxn h
    rw [postL, if_neg (by rw [hxn]; decide)] at h
    have hR := hO.rl
    have hge := hO.ge
    have hgr := hO.gr
    have e39 := isR hR (K := 39) (by omega) tOpen rfl
    have e43 := isR hR (K := 43) (by omega) tBra rfl
    have e46 := isR hR (K := 46) (by omega) tDot rfl
    split at h
    · rename_i c
      obtain ⟨s1, hn, h⟩ := bnd1 h
      obtain ⟨m1, k1, k2, k3, k4, _⟩ := nextR hR hn
      obtain ⟨nm, s2, hx, h⟩ := bnd2 h
      obtain ⟨q, m2, hq, hres⟩ := nameR hT k2 hx
      have z : isZ tDot m = true := by rw [e46]; exact decide_eq_true c
      rcases hres with ⟨rfl, hF⟩ | ⟨rfl, hR2, i2, d2, _⟩
      · injection h with h; injection h with h1 h2; subst h1; subst h2
        exact ⟨0, m2, Ev.rd (Ev.ifp hR.er (Ev.ct z (Ev.b1 k1 (Ev.b2c hq (Ev.ifp hF.ne (Ev.pure _)))))) (fun N n => pstZL_succ _ _ _ _ _ _), .inl ⟨rfl, hF⟩⟩
      · dsimp only at h
        have hn2 : m2.nodes = m.nodes := d2.trans k4
        have hb := hR.bd hT
        have hnb := hR.nb
        have hnb0 := hR0.nb
        have hR3 : Rl src toks s2 { m2 with nodes := m2.nodes ++ [Nd.mk 16 0 0 0 0 0 q.1 q.2] } := hR2.add (by rw [hn2]; omega) _
        have hla : LE (.index s.cur.at_ x (.str q.2 q.1)) m0.nodes (m2.nodes ++ [Nd.mk 16 0 0 0 0 0 q.1 q.2]).length ((m2.nodes ++ [Nd.mk 16 0 0 0 0 0 q.1 q.2]) ++ [Nd.mk 18 xv (m2.nodes.length : Int) 0 0 0 [] m.tok.at_]) := by
          rw [hR.tk.at_, hn2]
          exact LE.index hO.la (LE.str (by omega)) (by simp; omega)
        have hfin := OkE.fin hT hR3 (s := s0) (m := m0) (by simp [hn2]; omega) (by simp [hn2]; omega) hR0 hla (by simp [kd3, kdT, T.ty]) rfl (fun _ _ _ q => by cases q)
        obtain ⟨v, m', hev, hres⟩ := ihk _ _ _ _ t s' hfin.2 rfl h
        exact ⟨v, m', Ev.rd (Ev.ifp hR.er (Ev.ct z (Ev.b1 k1 (Ev.b2c hq (Ev.ifn (fun q => q hR2.er) (Ev.b2c (addZ_ok (hR2.bd hT) _) (Ev.b2c hfin.1 hev))))))) (fun N n => pstZL_succ _ _ _ _ _ _), hres⟩
    · rename_i c46
      have z46 : isZ tDot m = false := by rw [e46]; exact decide_eq_false c46
      split at h
      · rename_i c
        obtain ⟨s1, hn, h⟩ := bnd1 h
        obtain ⟨m1, k1, k2, k3, k4, _⟩ := nextR hR hn
        obtain ⟨u, s2, hx, h⟩ := bnd2 h
        obtain ⟨uv, m2, hev2, hres2⟩ := ih.expr (by omega) (by omega) k2 hx
        rw [lv1] at hev2
        have z : isZ tBra m = true := by rw [e43]; exact decide_eq_true c
        rcases hres2 with ⟨ht, hF⟩ | ⟨ht, _, hO2⟩
        · rw [if_pos ht] at h
          injection h with h; injection h with h1 h2; subst h1; subst h2
          obtain ⟨m3, w1, w2, _⟩ := hF.want tKet
          exact ⟨0, m3, Ev.rd (Ev.ifp hR.er (Ev.cf z46 (Ev.ct z (Ev.b1 k1 (Ev.b2 hev2 (Ev.b1 w1 (Ev.ifp w2.ne (Ev.pure _)))))))) (fun N n => pstZL_succ _ _ _ _ _ _), .inl ⟨rfl, w2⟩⟩
        · rw [if_neg (by rw [ht]; decide)] at h
          obtain ⟨ok, s3, hx3, h⟩ := bnd2 h
          obtain ⟨m3, w1, w2⟩ := expR hT hO2.rl (K := 44) (by omega) (t := tKet) rfl hx3
          rcases w2 with ⟨rfl, hF⟩ | ⟨rfl, hR3, i3, d3, _⟩
          · injection h with h; injection h with h1 h2; subst h1; subst h2
            exact ⟨0, m3, Ev.rd (Ev.ifp hR.er (Ev.cf z46 (Ev.ct z (Ev.b1 k1 (Ev.b2 hev2 (Ev.b1 w1 (Ev.ifp hF.ne (Ev.pure _)))))))) (fun N n => pstZL_succ _ _ _ _ _ _), .inl ⟨rfl, hF⟩⟩
          · dsimp only [cond_true] at h
            have g1 := hO2.ge
            have g2 := hO2.gr
            rw [k4] at g1 g2
            have hla : LE (.index s.cur.at_ x u) m0.nodes m3.nodes.length (m3.nodes ++ [⟨18, xv, uv, 0, 0, 0, [], m.tok.at_⟩]) := by
              rw [hR.tk.at_, d3]
              exact LE.index hO.la (by rw [← k4]; exact hO2.la) (by have := hO2.rl.bd hT; omega)
            have hfin := OkE.fin hT hR3 (s := s0) (m := m0) (by rw [d3]; omega) (by rw [d3]; omega) hR0 hla (by simp [kd3, kdT, T.ty]) rfl (fun _ _ _ q => by cases q)
            obtain ⟨v, m', hev, hres⟩ := ihk _ _ _ _ t s' hfin.2 rfl h
            exact ⟨v, m', Ev.rd (Ev.ifp hR.er (Ev.cf z46 (Ev.ct z (Ev.b1 k1 (Ev.b2 hev2 (Ev.b1 w1 (Ev.ifn (fun q => q hR3.er) (Ev.b2c hfin.1 hev)))))))) (fun N n => pstZL_succ _ _ _ _ _ _), hres⟩
      · rename_i c43
        have z43 : isZ tBra m = false := by rw [e43]; exact decide_eq_false c43
        split at h
        · rename_i c
          obtain ⟨s1, hn, h⟩ := bnd1 h
          obtain ⟨m1, k1, k2, k3, k4, _⟩ := nextR hR hn
          obtain ⟨r, s2, hx, h⟩ := bnd2 h
          obtain ⟨av, m2, hev2, hres2⟩ := listZ_eq hT ih (by omega) (by omega) (ct := tClose) (mx := 3) rfl (fun k hk => Iff.rfl) k2 hx
          rw [lv1] at hev2
          have z : isZ tOpen m = true := by rw [e39]; exact decide_eq_true c
          rcases hres2 with ⟨rfl, hF⟩ | ⟨l, rfl, hO2⟩
          · injection h with h; injection h with h1 h2; subst h1; subst h2
            exact ⟨0, m2, Ev.rd (Ev.ifp hR.er (Ev.cf z46 (Ev.cf z43 (Ev.ct z (Ev.b1 k1 (Ev.b2 hev2 (Ev.ifp hF.ne (Ev.pure _)))))))) (fun N n => pstZL_succ _ _ _ _ _ _), .inl ⟨rfl, hF⟩⟩
          · dsimp only at h
            have g1 := hO2.ge
            have g2 := hO2.gr
            rw [k4] at g1 g2
            have hla : LE (.call s.cur.at_ x l) m0.nodes m2.nodes.length (m2.nodes ++ [⟨19, xv, av, 0, 0, 0, [], m.tok.at_⟩]) := by
              rw [hR.tk.at_]
              exact LE.call hO.la (by rw [← k4]; exact hO2.la) (by have := hO2.rl.bd hT; omega)
            have hfin := OkE.fin hT hO2.rl (s := s0) (m := m0) (by omega) (by omega) hR0 hla (by simp [kd3, kdT, T.ty]) rfl (fun a f l q => by injection q with q1 q2 q3; exact hR.tk.at_.trans q1)
            obtain ⟨v, m', hev, hres⟩ := ihk _ _ _ _ t s' hfin.2 rfl h
            exact ⟨v, m', Ev.rd (Ev.ifp hR.er (Ev.cf z46 (Ev.cf z43 (Ev.ct z (Ev.b1 k1 (Ev.b2 hev2 (Ev.ifn (fun q => q hO2.rl.er) (Ev.b2c hfin.1 hev)))))))) (fun N n => pstZL_succ _ _ _ _ _ _), hres⟩
        · rename_i c39
          have z39 : isZ tOpen m = false := by rw [e39]; exact decide_eq_false c39
          injection h with h; injection h with h1 h2; subst h1; subst h2
          exact ⟨xv, m, Ev.rd (Ev.ifp hR.er (Ev.cf z46 (Ev.cf z43 (Ev.cf z39 (Ev.pure _))))) (fun N n => pstZL_succ _ _ _ _ _ _), .inr ⟨hxn, hO⟩⟩
theorem deepT {room : Int} {m : PZ} (h : room ≤ 0) : some (deepZ (13 - room) m) = some (true, failZ 16 m) := by unfold deepZ; rw [if_pos (by omega)]
theorem deepF {room : Int} {m : PZ} (h : ¬ room ≤ 0) : some (deepZ (13 - room) m) = some (false, m) := by unfold deepZ; rw [if_neg (by omega)]
theorem post_eq {room : Int} (hroom : -6 ≤ room ∧ room ≤ 12) {lf : Nat} {s s' : PS} {m : PZ} {t : T} (hR : Rl src toks s m) (h : postP toks rc lf room s = some (t, s')) :
    RE src toks room s m (fun N _ => (recZ src N).post (13 - room) m) t s' := by
  unfold postP at h
  obtain ⟨_, h⟩ := Wl.grd h
  split at h
  · rename_i c
    injection h with h; injection h with h1 h2; subst h1; subst h2
    exact ⟨0, _, Ev.up (f := fun N n => postZ src (recZ src N) n (13 - room) m) (Ev.grd (by omega) (Ev.b2c (deepT hT ih c) (Ev.ct rfl (Ev.pure _)))) (fun N => post_up src N _ _), .inl ⟨rfl, failR hT hR (by decide)⟩⟩
  · rename_i c
    obtain ⟨x, s1, hx, h⟩ := bnd2 h
    obtain ⟨xv, m1, hev, hres⟩ := prim_eq hT ih (by omega) hR hx
    rcases hres with ⟨ht, hF⟩ | ⟨ht, _, hO⟩
    · cases lf with
      | zero => cases h
      | succ lf =>
        rw [postL, if_pos ht] at h
        injection h with h; injection h with h1 h2; subst h1; subst h2
        refine ⟨0, m1, Ev.up (f := fun N n => postZ src (recZ src N) n (13 - room) m) (Ev.grd (by omega) (Ev.b2c (deepF hT ih c) (Ev.cf rfl (Ev.b2 hev (Ev.rd (Ev.ifn hF.ne (Ev.pure _)) (fun N n => pstZL_succ _ _ _ _ _ _)))))) (fun N => post_up src N _ _), .inl ⟨rfl, hF⟩⟩
    · obtain ⟨v, m2, hev2, hres2⟩ := pst_eq hT ih (by omega) hR lf x s1 m1 xv t s' hO ht h
      exact ⟨v, m2, Ev.up (f := fun N n => postZ src (recZ src N) n (13 - room) m) (Ev.grd (by omega) (Ev.b2c (deepF hT ih c) (Ev.cf rfl (Ev.b2 hev hev2)))) (fun N => post_up src N _ _), hres2.imp id fun q => ⟨q.1, by omega, q.2⟩⟩
theorem unary_eq {room : Int} (hroom : -5 ≤ room ∧ room ≤ 12) {lf : Nat} {s s' : PS} {m : PZ} {t : T} (hR : Rl src toks s m) (h : unaryP toks rc lf room s = some (t, s')) :
    RE src toks room s m (fun N _ => (recZ src N).unary (13 - room) m) t s' := by
  unfold unaryP at h
  obtain ⟨_, h⟩ := Wl.grd h
  have e32 := isR hR (K := 32) (by omega) tMinus rfl
  have e17 := isR hR (K := 17) (by omega) tNot rfl
  have e37 := isR hR (K := 37) (by omega) tHash rfl
  split at h
  · rename_i c
    injection h with h; injection h with h1 h2; subst h1; subst h2
    exact ⟨0, _, Ev.up (f := fun N n => unaryZ src (recZ src N) (13 - room) m) (Ev.grd (by omega) (Ev.b2c (deepT hT ih c) (Ev.ct rfl (Ev.pure _)))) (fun N => unary_up src N _ _), .inl ⟨rfl, failR hT hR (by decide)⟩⟩
  · rename_i c
    have up : ∀ {f : Nat → Nat → Option (Int × PZ)}, RE src toks room s m f t s' → (∀ N n, (bif isZ tMinus m then unTZ src (recZ src N) (13 - room) 1 m else bif isZ tNot m then unTZ src (recZ src N) (13 - room) 2 m else bif isZ tHash m then unTZ src (recZ src N) (13 - room) 3 m else (recZ src N).post (13 - room) m) = f N n) → RE src toks room s m (fun N _ => (recZ src N).unary (13 - room) m) t s' := fun hE e => by
      obtain ⟨x, m', hev, hres⟩ := hE
      exact ⟨x, m', Ev.up (f := fun N n => unaryZ src (recZ src N) (13 - room) m) (Ev.grd (by omega) (Ev.b2c (deepF hT ih c) (Ev.cf rfl (hev.of e)))) (fun N => unary_up src N _ _), hres⟩
    have one : ∀ {op : Int}, (bind1 (nextP toks s) fun s1 => bind2 (rc.unary (room - 1) s1) fun x s2 => if x.isNil = true then some (T.nil, s2) else some (T.un s.cur.at_ op x, s2)) = some (t, s') → RE src toks room s m (fun N n => unTZ src (recZ src N) (13 - room) op m) t s' := by
      intro op h
      obtain ⟨s1, hn, h⟩ := bnd1 h
      obtain ⟨m1, k1, k2, k3, k4, _⟩ := nextR hR hn
      obtain ⟨x, s2, hx, h⟩ := bnd2 h
      obtain ⟨xv, m2, hev, hres⟩ := ih.unary (by omega) k2 hx
      rw [lv1] at hev
      rcases hres with ⟨ht, hF⟩ | ⟨ht, _, hO⟩
      · rw [if_pos ht] at h
        injection h with h; injection h with h1 h2; subst h1; subst h2
        exact ⟨0, m2, Ev.b1 k1 (Ev.b2 hev (Ev.ifp hF.ne (Ev.pure _))), .inl ⟨rfl, hF⟩⟩
      · rw [if_neg (by rw [ht]; decide)] at h
        injection h with h; injection h with h1 h2; subst h1; subst h2
        have g1 := hO.ge
        have g2 := hO.gr
        rw [k4] at g1 g2
        have := OkE.fin hT hO.rl (s := s) (m := m) (t := .un s.cur.at_ op x) (d := ⟨23, xv, 0, 0, 0, op, [], m.tok.at_⟩) (by omega) (by omega) hR (by rw [hR.tk.at_, ← k4]; exact LE.un hO.la (by have := hO.rl.bd hT; omega)) (by simp [kd3, kdT, T.ty]) rfl (fun _ _ _ q => by cases q)
        exact ⟨_, _, Ev.b1 k1 (Ev.b2 hev (Ev.ifn (fun q => q hO.rl.er) (Ev.const this.1))), .inr ⟨rfl, by omega, this.2⟩⟩
    unfold unOp at h
    by_cases c1 : s.cur.kind = 32
    · rw [if_pos c1] at h
      exact up (one h) (fun N n => by rw [e32, decide_eq_true c1]; rfl)
    · rw [if_neg c1] at h
      by_cases c2 : s.cur.kind = 17
      · rw [if_pos c2] at h
        exact up (one h) (fun N n => by rw [e32, decide_eq_false c1, e17, decide_eq_true c2]; rfl)
      · rw [if_neg c2] at h
        by_cases c3 : s.cur.kind = 37
        · rw [if_pos c3] at h
          exact up (one h) (fun N n => by rw [e32, decide_eq_false c1, e17, decide_eq_false c2, e37, decide_eq_true c3]; rfl)
        · rw [if_neg c3] at h
          exact up (post_eq hT ih (by omega) hR h) (fun N n => by rw [e32, decide_eq_false c1, e17, decide_eq_false c2, e37, decide_eq_false c3]; rfl)
end
end Go.Zm
