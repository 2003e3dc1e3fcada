/- Plain: the two parsers: bodies, returns, locals. -/
import Derived.Test.Qxb6500573aGreatDoorZN
namespace Go.Zm
open Go Go.Sl Go.Wl Go.Nm Go.Proofs
set_option linter.unusedVariables false
set_option linter.unusedSectionVars false
theorem next_al2 {src : List UInt8} {m m' : PZ} (h : nextZ src m = some m') (a b : Int) : nextZ src { m with alive := a, loops := b } = some { m' with alive := a, loops := b } := by
  unfold nextZ at h ⊢
  dsimp only
  split at h
  · rename_i c
    rw [if_pos c]
    split at h
    · injection h with h; subst h; rfl
    · injection h with h; subst h; rfl
  · cases h
theorem want_al2 {src t : List UInt8} {m m' : PZ} (h : wantZ src t m = some m') (a b : Int) : wantZ src t { m with alive := a, loops := b } = some { m' with alive := a, loops := b } := by
  unfold wantZ at h ⊢
  have e : isZ t { m with alive := a, loops := b } = isZ t m := rfl
  rw [e]
  cases hz : isZ t m <;> rw [hz] at h
  · injection h with h
    subst h
    rw [cond_false]
    unfold failZ
    dsimp only
    split <;> rfl
  · exact next_al2 h a b
theorem body_up (src : List UInt8) (N : Nat) (lv x : Int) (m : PZ) : (recZ src (N + 1)).body lv x m = bodyZ src (recZ src N) lv x m := rfl
theorem loc_up (src : List UInt8) (N : Nat) (lv : Int) (m : PZ) : (recZ src (N + 1)).locS lv m = locZ src (recZ src N) lv m := rfl
theorem for_up (src : List UInt8) (N : Nat) (lv : Int) (m : PZ) : (recZ src (N + 1)).forS lv m = forZ src (recZ src N) lv m := rfl
theorem if_up (src : List UInt8) (N : Nat) (lv : Int) (m : PZ) : (recZ src (N + 1)).ifS lv m = ifZ src (recZ src N) lv m := rfl
theorem stmt_up (src : List UInt8) (N : Nat) (lv : Int) (m : PZ) : (recZ src (N + 1)).stmt lv m = stmtZ src (recZ src N) lv m := rfl
theorem block_up (src : List UInt8) (N : Nat) (lv : Int) (m : PZ) : (recZ src (N + 1)).block lv m = blockZ (recZ src N) N lv m := rfl
section
variable {src : List UInt8} {toks : List Tok} {rc : Rec} (hT : TOk toks) (ih : IH src toks rc)
theorem expr_err {lv : Int} {s : PS} {m : PZ} (h : Fl src m s) : Ev (fun N _ => (recZ src N).expr lv m) (0, m) :=
  Ev.up (f := fun N n => exprZ src (recZ src N) n lv m) (Ev.ifp h.ne (Ev.pure _)) (fun N => expr_up src N _ _)
include hT ih
theorem ex1 {room : Int} (hroom : 1 ≤ room ∧ room ≤ 12) {s s' : PS} {m : PZ} {t : T} (hR : Rl src toks s m) (h : rc.expr (room - 1) 1 s = some (t, s')) :
    ∃ x m', Ev (fun N _ => (recZ src N).expr (13 - room + 1) m) (x, m') ∧ ((t.isNil = true ∧ Fl src m' s') ∨ (t.isNil = false ∧ OkE src toks s m t x s' m')) := by
  obtain ⟨x, m', hev, hres⟩ := ih.expr (by omega) (by omega) hR h
  rw [lv1] at hev
  exact ⟨x, m', hev, hres.imp id fun q => ⟨q.1, q.2.2⟩⟩
theorem body_eq {room extra : Int} (hroom : 1 ≤ room ∧ room ≤ 12) (hex : extra = 0 ∨ extra = 4) {s s' : PS} {m : PZ} {r : Option (List T)} (hR : Rl src toks s m) (h : bodyP_ toks rc room extra s = some (r, s')) :
    RLs src toks s m (fun N _ => (recZ src N).body (13 - room) extra m) r s' 8 := by
  unfold bodyP_ at h
  obtain ⟨_, h⟩ := Wl.grd h
  obtain ⟨ok, s1, hx, h⟩ := bnd2 h
  obtain ⟨m1, w1, w2⟩ := expR hT hR (K := 6) (by omega) (t := tDo) rfl hx
  have up : ∀ {x : Int} {m' : PZ}, Ev (fun N n => if m1.err ≠ 0 then some (0, m1) else guardB m1.alive <| guardB m1.loops <| bind2 ((recZ src N).block (13 - room + 1) { m1 with alive := m1.alive + extra, loops := m1.loops + 1 }) fun b m2 =>
      bind1 (wantZ src tEnd { m2 with loops := IntKind.i64.wrap (m2.loops - 1), alive := IntKind.i64.wrap (m2.alive - extra) }) fun m3 => some (b, m3)) (x, m') → Ev (fun N _ => (recZ src N).body (13 - room) extra m) (x, m') := fun hE =>
    Ev.up (f := fun N n => bodyZ src (recZ src N) (13 - room) extra m) (Ev.grd (by omega) (Ev.grd (by omega) (Ev.b1 w1 hE))) (fun N => body_up src N _ _ _)
  rcases w2 with ⟨rfl, hF⟩ | ⟨rfl, hR1, i1, d1, a1, l1, f1⟩
  · injection h with h; injection h with h1 h2; subst h1; subst h2
    exact ⟨0, m1, up (Ev.ifp hF.ne (Ev.pure _)), .inl ⟨rfl, hF⟩⟩
  · dsimp only [cond_true] at h
    obtain ⟨ga, h⟩ := Wl.grd h
    obtain ⟨gl, h⟩ := Wl.grd h
    obtain ⟨bd, s2, hb, h⟩ := bnd2 h
    have hR1' : Rl src toks { s1 with alive := s1.alive + extra, loops := s1.loops + 1 } { m1 with alive := m1.alive + extra, loops := m1.loops + 1 } := ⟨hR1.cur, hR1.tk, hR1.st, hR1.ps, by dsimp only; rw [hR1.al], by dsimp only; rw [hR1.lp], hR1.fu, hR1.er, hR1.se, hR1.nb, hR1.f0⟩
    obtain ⟨b, m2, hev, hres⟩ := ih.block (by omega) hR1' hb
    rw [lv1] at hev
    rcases hres with ⟨rfl, hF⟩ | ⟨l, rfl, hO⟩
    · injection h with h; injection h with h1 h2; subst h1; subst h2
      have hF2 : Fl src { m2 with loops := IntKind.i64.wrap (m2.loops - 1), alive := IntKind.i64.wrap (m2.alive - extra) } s2 := ⟨hF.e, hF.a, hF.n, hF.ps⟩
      obtain ⟨m3, q1, q2, _⟩ := hF2.want tEnd
      exact ⟨b, m3, up (Ev.ifn (fun q => q hR1.er) (Ev.grd (by rw [hR1.al]; exact ga) (Ev.grd (by rw [hR1.lp]; exact gl) (Ev.b2 hev (Ev.b1 q1 (Ev.pure _)))))), .inl ⟨rfl, q2⟩⟩
    · dsimp only at h
      obtain ⟨ok3, s3, hx3, h⟩ := bnd2 h
      obtain ⟨m3, q1, q2⟩ := expR hT hO.rl (K := 9) (by omega) (t := tEnd) rfl hx3
      have q1' := want_al2 q1 (IntKind.i64.wrap (m2.alive - extra)) (IntKind.i64.wrap (m2.loops - 1))
      rcases q2 with ⟨rfl, hF⟩ | ⟨rfl, hR3, i3, d3, a3, l3, f3⟩
      · injection h with h; injection h with h1 h2; subst h1; subst h2
        exact ⟨b, _, up (Ev.ifn (fun q => q hR1.er) (Ev.grd (by rw [hR1.al]; exact ga) (Ev.grd (by rw [hR1.lp]; exact gl) (Ev.b2 hev (Ev.b1 q1' (Ev.pure _)))))), .inl ⟨rfl, hF.e, hF.a, hF.n, hF.ps⟩⟩
      · dsimp only [cond_true] at h
        obtain ⟨ga3, h⟩ := Wl.grd h
        obtain ⟨gl3, h⟩ := Wl.grd h
        injection h with h; injection h with h1 h2; subst h1; subst h2
        have g1 := hO.ge
        have g2 := hO.gr
        dsimp only at g1 g2
        rw [d1] at g1 g2
        have hla := hO.la
        dsimp only at hla
        rw [d1] at hla
        refine ⟨b, _, up (Ev.ifn (fun q => q hR1.er) (Ev.grd (by rw [hR1.al]; exact ga) (Ev.grd (by rw [hR1.lp]; exact gl) (Ev.b2 hev (Ev.b1 q1' (Ev.pure _)))))), .inr ⟨l, rfl, ⟨hR3.cur, hR3.tk, hR3.st, hR3.ps, ?_, ?_, hR3.fu, hR3.er, hR3.se, hR3.nb, hR3.f0⟩, by dsimp only; rw [d3]; exact hla, by dsimp only; rw [d3]; omega, by dsimp only; rw [d3]; omega⟩⟩
        · dsimp only
          rw [hO.rl.al, ← a3, IntKind.wrap_i64]
          omega
        · dsimp only
          rw [hO.rl.lp, ← l3, IntKind.wrap_i64]
          omega
theorem ret_eq {room : Int} (hroom : 1 ≤ room ∧ room ≤ 12) {s0 s s' : PS} {m0 m : PZ} {t : T} (hR0 : Rl src toks s0 m0) (hi : s.i = s0.i + 1) (hn : m.nodes = m0.nodes) (hR : Rl src toks s m) (h : resultsP toks rc room s0.cur.at_ s = some (t, s')) :
    RSt src toks s0 m0 (fun N _ => retZ src (recZ src N) (13 - room) m0.tok.at_ m) t s' := by
  unfold resultsP at h
  obtain ⟨_, h⟩ := Wl.grd h
  have hen := endZ_eq hR.tk
  have hb := hR.bd hT
  cases he : endsP s with
  | true =>
    rw [he] at h hen
    injection h with h; injection h with h1 h2; subst h1; subst h2
    have := OkS.fin hT hR (s := s0) (m := m0) (t := .ret s0.cur.at_ .nil .nil) (d := ⟨10, 0, 0, 0, 0, 0, [], m0.tok.at_⟩) (by rw [hn]; omega) (by rw [hn]; omega) hR0 (by rw [hR0.tk.at_, hn]; exact LS.ret (LO.nil _) (LO.nil _) (by rw [← hn]; omega)) (by simp [T.ty])
    exact ⟨_, _, Ev.ct hen (Ev.ifn (fun q => q hR.er) (Ev.const this.1)), .inr ⟨rfl, this.2⟩⟩
  | false =>
    rw [he] at h hen
    dsimp only [cond_false] at h
    obtain ⟨a, s1, hx, h⟩ := bnd2 h
    obtain ⟨av, m1, hev, hres⟩ := ex1 hT ih hroom hR hx
    rcases hres with ⟨ht, hF⟩ | ⟨ht, hO⟩
    · rw [if_pos ht] at h
      injection h with h; injection h with h1 h2; subst h1; subst h2
      cases hz : isZ tComma m1 with
      | true =>
        obtain ⟨m2, n1, n2, _⟩ := hF.next
        exact ⟨0, m2, Ev.cf hen (Ev.b2 hev (Ev.ct hz (Ev.b1 n1 (Ev.b2 (expr_err n2) (Ev.ifp n2.ne (Ev.pure _)))))), .inl ⟨rfl, n2⟩⟩
      | false => exact ⟨0, m1, Ev.cf hen (Ev.b2 hev (Ev.cf hz (Ev.ifp hF.ne (Ev.pure _)))), .inl ⟨rfl, hF⟩⟩
    · rw [if_neg (by rw [ht]; decide)] at h
      have g1 := hO.ge
      have g2 := hO.gr
      rw [hn] at g1 g2
      obtain ⟨ok, s2, ha, h'⟩ := bnd2 h
      clear h
      have h := h'
      clear h'
      rcases accR hO.rl (K := 45) (by omega) (t := tComma) rfl ha with ⟨rfl, rfl, hz⟩ | ⟨rfl, hz, m2, n1, hR2, i2, d2, _⟩
      · dsimp only [cond_false] at h
        injection h with h; injection h with h1 h2; subst h1; subst h2
        have := OkS.fin hT hO.rl (s := s0) (m := m0) (t := .ret s0.cur.at_ a .nil) (d := ⟨10, av, 0, 0, 0, 0, [], m0.tok.at_⟩) (by omega) (by omega) hR0 (by rw [hR0.tk.at_, ← hn]; exact LS.ret (hO.la.o ht) (LO.nil _) (by have := hO.rl.bd hT; omega)) (by simp [T.ty])
        exact ⟨_, _, Ev.cf hen (Ev.b2 hev (Ev.cf hz (Ev.ifn (fun q => q hO.rl.er) (Ev.const this.1)))), .inr ⟨rfl, this.2⟩⟩
      · dsimp only [cond_true] at h
        obtain ⟨b, s3, hx3, h⟩ := bnd2 h
        obtain ⟨bv, m3, hev3, hres3⟩ := ex1 hT ih hroom hR2 hx3
        rcases hres3 with ⟨ht3, hF⟩ | ⟨ht3, hO3⟩
        · rw [if_pos ht3] at h
          injection h with h; injection h with h1 h2; subst h1; subst h2
          exact ⟨0, m3, Ev.cf hen (Ev.b2 hev (Ev.ct hz (Ev.b1 n1 (Ev.b2 hev3 (Ev.ifp hF.ne (Ev.pure _)))))), .inl ⟨rfl, hF⟩⟩
        · rw [if_neg (by rw [ht3]; decide)] at h
          injection h with h; injection h with h1 h2; subst h1; subst h2
          have g3 := hO3.ge
          have g4 := hO3.gr
          rw [d2] at g3 g4
          have hl3 := hO3.la
          rw [d2] at hl3
          have := OkS.fin hT hO3.rl (s := s0) (m := m0) (t := .ret s0.cur.at_ a b) (d := ⟨10, av, bv, 0, 0, 0, [], m0.tok.at_⟩) (by omega) (by omega) hR0 (by rw [hR0.tk.at_, ← hn]; exact LS.ret (hO.la.o ht) (hl3.o ht3) (by have := hO3.rl.bd hT; omega)) (by simp [T.ty])
          exact ⟨_, _, Ev.cf hen (Ev.b2 hev (Ev.ct hz (Ev.b1 n1 (Ev.b2 hev3 (Ev.ifn (fun q => q hO3.rl.er) (Ev.const this.1)))))), .inr ⟨rfl, this.2⟩⟩
end
end Go.Zm
