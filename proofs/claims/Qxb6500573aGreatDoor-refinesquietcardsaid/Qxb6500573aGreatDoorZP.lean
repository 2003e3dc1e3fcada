/- Plain: the two parsers: local, if. -/
import Derived.Test.Qxb6500573aGreatDoorZO
namespace Go.Zm
open Go Go.Sl Go.Wl Go.Nm Go.Proofs
set_option linter.unusedVariables false
set_option linter.unusedSectionVars false
section
variable {src : List UInt8} {toks : List Tok} {rc : Rec} (hT : TOk toks) (ih : IH src toks rc)
theorem Rl.alive {s : PS} {m : PZ} (h : Rl src toks s m) (k : Int) : Rl src toks { s with alive := s.alive + k } { m with alive := m.alive + k } := ⟨h.cur, h.tk, h.st, h.ps, by dsimp only; rw [h.al], h.lp, h.fu, h.er, h.se, h.nb, h.f0⟩
include hT ih
/-- Two names, one behind the other. -/
theorem two_eq {s : PS} {m : PZ} {q q2 : List UInt8 × Int} (hR : Rl src toks s m) (hb : m.nodes.length + 2 ≤ 1 + 4 * s.i) : ∃ m3, (∀ {α : Type} {g : Int → Int → PZ → Nat → Nat → Option α} {r : α}, Ev (fun N n => g m.nodes.length ((m.nodes.length : Int) + 1) m3 N n) r → Ev (fun N n => bind2 (addZ ⟨17, 0, 0, 0, 0, 0, q.1, q.2⟩ m) fun n1 m5 => bind2 (addZ ⟨17, 0, 0, 0, 0, 0, q2.1, q2.2⟩ m5) fun n2 m6 => bind1 (setNx n1 n2 m6) fun m7 => g n1 n2 m7 N n) r) ∧
    Rl src toks s m3 ∧ LL [.name q.2 q.1, .name q2.2 q2.1] m.nodes m.nodes.length m3.nodes ∧ m3.nodes.length = m.nodes.length + 2 := by
  have hbd := hR.bd hT
  have hnb := hR.nb
  have hR1 : Rl src toks s { m with nodes := m.nodes ++ [⟨17, 0, 0, 0, 0, 0, q.1, q.2⟩] } := hR.add (by omega) _
  have e1 : ((m.nodes ++ [Nd.mk 17 0 0 0 0 0 q.1 q.2]).length : Int) = (m.nodes.length : Int) + 1 := by simp
  have ha2 := addZ_ok (m := { m with nodes := m.nodes ++ [Nd.mk 17 0 0 0 0 0 q.1 q.2] }) (hR1.bd hT) (Nd.mk 17 0 0 0 0 0 q2.1 q2.2)
  have hR2 : Rl src toks s { m with nodes := (m.nodes ++ [Nd.mk 17 0 0 0 0 0 q.1 q.2]) ++ [Nd.mk 17 0 0 0 0 0 q2.1 q2.2] } := hR1.add (by simp; omega) _
  dsimp only at ha2
  rw [e1] at ha2
  obtain ⟨mB, hmB⟩ : ∃ z : PZ, z = { m with nodes := (m.nodes ++ [Nd.mk 17 0 0 0 0 0 q.1 q.2]) ++ [Nd.mk 17 0 0 0 0 0 q2.1 q2.2] } := ⟨_, rfl⟩
  have hBn : mB.nodes = (m.nodes ++ [Nd.mk 17 0 0 0 0 0 q.1 q.2]) ++ [Nd.mk 17 0 0 0 0 0 q2.1 q2.2] := by rw [hmB]
  rw [← hmB] at ha2 hR2
  have hla : m.nodes.length < mB.nodes.length := by rw [hBn]; simp
  have h1 : LC ([] ++ [T.name q.2 q.1]) m.nodes m.nodes.length m.nodes.length (m.nodes ++ [Nd.mk 17 0 0 0 0 0 q.1 q.2]) := LC.one (LC.nil _) (LE.name (by omega)).y
  have h2 : LY (T.name q2.2 q2.1) (m.nodes ++ [Nd.mk 17 0 0 0 0 0 q.1 q.2]) ((m.nodes.length : Int) + 1) mB.nodes := by
    rw [hBn, ← e1]
    exact (LE.name (by simp; omega)).y
  refine ⟨{ mB with nodes := mB.nodes.set m.nodes.length { mB.nodes[m.nodes.length] with next := (m.nodes.length : Int) + 1 } }, fun hg => Ev.b2c (addZ_ok hbd _) (Ev.b2c ha2 (Ev.b1 (setNx_ok hla _) hg)), hR2.set hla _, (LC.more (l := m.nodes.length) h1 h2 (by omega) hla).ll (by simp), by simp [hBn]⟩
theorem loc_eq {room : Int} (hroom : 1 ≤ room ∧ room ≤ 12) {lf : Nat} {s0 s s' : PS} {m0 m : PZ} {t : T} (hR0 : Rl src toks s0 m0) (hnx : nextZ src m0 = some m) (hi : s.i = s0.i + 1) (hn : m.nodes = m0.nodes) (hR : Rl src toks s m) (h : localP toks rc lf room s = some (t, s')) :
    RSt src toks s0 m0 (fun N _ => (recZ src N).locS (13 - room) m0) t s' := by
  have hb := hR.bd hT
  have hnb0 := hR0.nb
  have up : ∀ {f : Nat → Nat → Option (Int × PZ)}, RSt src toks s0 m0 f t s' → (∀ N n, locZ src (recZ src N) (13 - room) m0 = guardB (13 - room) (bind1 (nextZ src m0) fun _ => f N n)) → RSt src toks s0 m0 (fun N _ => (recZ src N).locS (13 - room) m0) t s' := fun hE e => by
    obtain ⟨x, m', hev, hres⟩ := hE
    exact ⟨x, m', Ev.up (f := fun N n => locZ src (recZ src N) (13 - room) m0) ((Ev.grd (by omega) (Ev.b1 hnx hev)).of e) (fun N => loc_up src N _ _), hres⟩
  unfold localP at h
  obtain ⟨_, h⟩ := Wl.grd h
  split at h
  · rename_i c
    have z : isZ tFunction m = true := isT hR (K := 12) (by omega) rfl c
    refine up (f := fun N n => if 12 ≤ m.funcs then some (0, failZ 20 m) else bind1 (nextZ src m) fun m1 => bind2 (nameZ src 1 m1) fun nm m2 => if m2.err ≠ 0 then some (0, m2)
      else guardB m2.alive <| bif isZ tOpen { m2 with alive := m2.alive + 1 } then (bind2 ((recZ src N).fnS (13 - room) nm.2 { m2 with alive := m2.alive + 1 }) fun f m3 => if m3.err ≠ 0 then some (0, m3) else addZ ⟨3, f, 0, 0, 0, 0, nm.1, nm.2⟩ m3)
      else some (0, failZ 15 { m2 with alive := m2.alive + 1 })) ?_ (fun N n => by unfold locZ; rw [hnx]; show guardB _ (cond _ _ _) = _; rw [z]; rfl)
    obtain ⟨ok, s1, hf, h⟩ := bnd2 h
    unfold functionP at hf
    split at hf
    · rename_i cf
      injection hf with hf; injection hf with h1 h2; subst h1; subst h2
      injection h with h; injection h with h1 h2; subst h1; subst h2
      exact ⟨0, _, Ev.ifp (by rw [hR.fu]; exact cf) (Ev.pure _), .inl ⟨rfl, failR hT hR (by decide)⟩⟩
    · rename_i cf
      obtain ⟨sA, hnA, hf⟩ := bnd1 hf
      injection hf with hf; injection hf with h1 h2; subst h1; subst h2
      obtain ⟨m1, k1, k2, k3, k4, _⟩ := nextR hR hnA
      dsimp only [cond_true] at h
      obtain ⟨nm, s2, hx, h⟩ := bnd2 h
      obtain ⟨q, m2, hq, hres⟩ := nameR hT k2 hx
      rcases hres with ⟨rfl, hF⟩ | ⟨rfl, hR2, i2, d2, _⟩
      · injection h with h; injection h with h1 h2; subst h1; subst h2
        exact ⟨0, m2, Ev.ifn (by rw [hR.fu]; exact cf) (Ev.b1 k1 (Ev.b2c hq (Ev.ifp hF.ne (Ev.pure _)))), .inl ⟨rfl, hF⟩⟩
      · dsimp only at h
        obtain ⟨ga, h⟩ := Wl.grd h
        obtain ⟨f, s3, hl, h⟩ := bnd2 h
        have hR2' := hR2.alive 1
        obtain ⟨fv, m3, hev, hres⟩ := lit_eq hT ih hroom hR2' hl
        have hga : -1000000 ≤ m2.alive ∧ m2.alive ≤ 1000000 := by rw [hR2.al]; exact ga
        cases hz : isZ tOpen { m2 with alive := m2.alive + 1 } with
        | true =>
          rw [hz] at hev
          rcases hres with ⟨ht, hF⟩ | ⟨ht, _, hO⟩
          · rw [if_pos ht] at h
            injection h with h; injection h with h1 h2; subst h1; subst h2
            exact ⟨0, m3, Ev.ifn (by rw [hR.fu]; exact cf) (Ev.b1 k1 (Ev.b2c hq (Ev.ifn (fun q => q hR2.er) (Ev.grd hga (Ev.ct hz (Ev.b2 hev (Ev.ifp hF.ne (Ev.pure _)))))))), .inl ⟨rfl, hF⟩⟩
          · rw [if_neg (by rw [ht]; decide)] at h
            injection h with h; injection h with h1 h2; subst h1; subst h2
            have g1 := hO.ge
            have g2 := hO.gr
            have hla := hO.la
            dsimp only at g1 g2 hla
            rw [d2, k4, hn] at g1 g2 hla
            have := OkS.fin hT hO.rl (s := s0) (m := m0) (t := .locFn q.2 q.1 f) (d := ⟨3, fv, 0, 0, 0, 0, q.1, q.2⟩) (by omega) (by omega) hR0 (LS.locFn hla (by have := hO.rl.bd hT; omega)) (by simp [T.ty])
            exact ⟨_, _, Ev.ifn (by rw [hR.fu]; exact cf) (Ev.b1 k1 (Ev.b2c hq (Ev.ifn (fun q => q hR2.er) (Ev.grd hga (Ev.ct hz (Ev.b2 hev (Ev.ifn (fun q => q hO.rl.er) (Ev.const this.1)))))))), .inr ⟨rfl, this.2⟩⟩
        | false =>
          rw [hz] at hev
          obtain ⟨N0, hev'⟩ := hev
          have e := hev' N0 N0 (Nat.le_refl _) (Nat.le_refl _)
          dsimp only [cond_false] at e
          injection e with e; injection e with e1 e2
          subst e2
          rcases hres with ⟨ht, hF⟩ | ⟨ht, _, hO⟩
          · rw [if_pos ht] at h
            injection h with h; injection h with h1 h2; subst h1; subst h2
            exact ⟨0, _, Ev.ifn (by rw [hR.fu]; exact cf) (Ev.b1 k1 (Ev.b2c hq (Ev.ifn (fun q => q hR2.er) (Ev.grd hga (Ev.cf hz (Ev.pure _)))))), .inl ⟨rfl, hF⟩⟩
          · exact absurd hO.rl.er (failR hT hR2' (e := 15) (by decide)).ne
  · rename_i c
    have z : isZ tFunction m = false := isF hR (K := 12) (by omega) rfl c
    refine up (f := fun N n => bind2 (nameZ src 1 m) fun nm m1 => if m1.err ≠ 0 then some (0, m1)
      else bif isZ tComma m1 then (bind1 (nextZ src m1) fun m2 => bind2 (nameZ src 2 m2) fun nm2 m3 => bind1 (wantZ src tEq m3) fun m4 => if m4.err ≠ 0 then some (0, m4)
        else bind2 (addZ ⟨17, 0, 0, 0, 0, 0, nm.1, nm.2⟩ m4) fun n1 m5 => bind2 (addZ ⟨17, 0, 0, 0, 0, 0, nm2.1, nm2.2⟩ m5) fun n2 m6 => bind1 (setNx n1 n2 m6) fun m7 => bind2 ((recZ src N).expr (13 - room + 1) m7) fun e m8 => if m8.err ≠ 0 then some (0, m8)
        else bind1 (nodeZ e m8) fun d => if d.k ≠ 19 then some (0, failZ 15 m8) else guardB m8.alive <| addZ ⟨2, n1, e, 0, 0, 0, [], nm.2⟩ { m8 with alive := m8.alive + 2 })
      else bif isZ tEq m1 then (bind1 (nextZ src m1) fun m2 => bind2 ((recZ src N).expr (13 - room + 1) m2) fun e m3 => if m3.err ≠ 0 then some (0, m3) else guardB m3.alive <| addZ ⟨1, e, 0, 0, 0, 0, nm.1, nm.2⟩ { m3 with alive := m3.alive + 1 })
      else guardB m1.alive <| addZ ⟨1, 0, 0, 0, 0, 0, nm.1, nm.2⟩ { m1 with alive := m1.alive + 1 }) ?_ (fun N n => by unfold locZ; rw [hnx]; show guardB _ (cond _ _ _) = _; rw [z]; rfl)
    obtain ⟨nm, s1, hx, h⟩ := bnd2 h
    obtain ⟨q, m1, hq, hres⟩ := nameR hT hR hx
    rcases hres with ⟨rfl, hF⟩ | ⟨rfl, hR1, i1, d1, _⟩
    · injection h with h; injection h with h1 h2; subst h1; subst h2
      exact ⟨0, m1, Ev.b2c hq (Ev.ifp hF.ne (Ev.pure _)), .inl ⟨rfl, hF⟩⟩
    · dsimp only at h
      obtain ⟨ok, s2, ha, h'⟩ := bnd2 h
      clear h
      have h := h'
      clear h'
      rcases accR hR1 (K := 45) (by omega) (t := tComma) rfl ha with ⟨rfl, rfl, hz⟩ | ⟨rfl, hz, m2, n1, hR2, i2, d2, _⟩
      · dsimp only [cond_false] at h
        obtain ⟨ok2, s3, ha2, h'⟩ := bnd2 h
        clear h
        have h := h'
        clear h'
        rcases accR hR1 (K := 38) (by omega) (t := tEq) rfl ha2 with ⟨rfl, rfl, hz2⟩ | ⟨rfl, hz2, m2, n1, hR2, i2, d2, _⟩
        · dsimp only [cond_false] at h
          obtain ⟨ga, h⟩ := Wl.grd h
          injection h with h; injection h with h1 h2; subst h1; subst h2
          have := OkS.fin hT (hR1.alive 1) (s := s0) (m := m0) (t := .loc [.name q.2 q.1] .nil) (d := ⟨1, 0, 0, 0, 0, 0, q.1, q.2⟩) (by dsimp only; rw [d1, hn]; omega) (by dsimp only; rw [d1, hn]; omega) hR0 (by dsimp only; rw [d1, hn]; exact LS.loc1 (LO.nil _) (by rw [← hn]; omega)) (by simp [T.ty])
          exact ⟨_, _, Ev.b2c hq (Ev.ifn (fun q => q hR1.er) (Ev.cf hz (Ev.cf hz2 (Ev.grd (by rw [hR1.al]; exact ga) (Ev.const this.1))))), .inr ⟨rfl, this.2⟩⟩
        · dsimp only [cond_true] at h
          obtain ⟨v, s4, hv, h⟩ := bnd2 h
          obtain ⟨vv, m3, hev, hres⟩ := ex1 hT ih hroom hR2 hv
          rcases hres with ⟨ht, hF⟩ | ⟨ht, hO⟩
          · rw [if_pos ht] at h
            injection h with h; injection h with h1 h2; subst h1; subst h2
            exact ⟨0, m3, Ev.b2c hq (Ev.ifn (fun q => q hR1.er) (Ev.cf hz (Ev.ct hz2 (Ev.b1 n1 (Ev.b2 hev (Ev.ifp hF.ne (Ev.pure _))))))), .inl ⟨rfl, hF⟩⟩
          · rw [if_neg (by rw [ht]; decide)] at h
            obtain ⟨ga, h⟩ := Wl.grd h
            injection h with h; injection h with h1 h2; subst h1; subst h2
            have g1 := hO.ge
            have g2 := hO.gr
            have hla := hO.la
            rw [d2, d1, hn] at g1 g2 hla
            have := OkS.fin hT (hO.rl.alive 1) (s := s0) (m := m0) (t := .loc [.name q.2 q.1] v) (d := ⟨1, vv, 0, 0, 0, 0, q.1, q.2⟩) (by dsimp only; omega) (by dsimp only; omega) hR0 (LS.loc1 (hla.o ht) (by have := hO.rl.bd hT; dsimp only; omega)) (by simp [T.ty])
            exact ⟨_, _, Ev.b2c hq (Ev.ifn (fun q => q hR1.er) (Ev.cf hz (Ev.ct hz2 (Ev.b1 n1 (Ev.b2 hev (Ev.ifn (fun q => q hO.rl.er) (Ev.grd (by rw [hO.rl.al]; exact ga) (Ev.const this.1)))))))), .inr ⟨rfl, this.2⟩⟩
      · dsimp only [cond_true] at h
        obtain ⟨nm2, s3, hx3, h⟩ := bnd2 h
        obtain ⟨q2, m3, hq3, hres3⟩ := nameR hT hR2 hx3
        rcases hres3 with ⟨rfl, hF⟩ | ⟨rfl, hR3, i3, d3, _⟩
        · injection h with h; injection h with h1 h2; subst h1; subst h2
          obtain ⟨m4, w1, w2, _⟩ := hF.want tEq
          exact ⟨0, m4, Ev.b2c hq (Ev.ifn (fun q => q hR1.er) (Ev.ct hz (Ev.b1 n1 (Ev.b2c hq3 (Ev.b1 w1 (Ev.ifp w2.ne (Ev.pure _))))))), .inl ⟨rfl, w2⟩⟩
        · dsimp only at h
          obtain ⟨ok4, s4, hx4, h⟩ := bnd2 h
          obtain ⟨m4, w1, w2⟩ := expR hT hR3 (K := 38) (by omega) (t := tEq) rfl hx4
          rcases w2 with ⟨rfl, hF⟩ | ⟨rfl, hR4, i4, d4, _⟩
          · injection h with h; injection h with h1 h2; subst h1; subst h2
            exact ⟨0, m4, Ev.b2c hq (Ev.ifn (fun q => q hR1.er) (Ev.ct hz (Ev.b1 n1 (Ev.b2c hq3 (Ev.b1 w1 (Ev.ifp hF.ne (Ev.pure _))))))), .inl ⟨rfl, hF⟩⟩
          · dsimp only [cond_true] at h
            have d40 : m4.nodes = m0.nodes := by rw [d4, d3, d2, d1, hn]
            obtain ⟨m7, hadd, hR7, hll, hlen⟩ := two_eq hT ih (q := q) (q2 := q2) hR4 (by rw [d40]; omega)
            rw [d40] at hll hlen hadd
            obtain ⟨v, s5, hv, h⟩ := bnd2 h
            obtain ⟨vv, m8, hev, hres⟩ := ex1 hT ih hroom hR7 hv
            rcases hres with ⟨ht, hF⟩ | ⟨ht, hO⟩
            · rw [if_pos ht] at h
              injection h with h; injection h with h1 h2; subst h1; subst h2
              exact ⟨0, m8, Ev.b2c hq (Ev.ifn (fun q => q hR1.er) (Ev.ct hz (Ev.b1 n1 (Ev.b2c hq3 (Ev.b1 w1 (Ev.ifn (fun q => q hR4.er) (hadd (Ev.b2 hev (Ev.ifp hF.ne (Ev.pure _)))))))))), .inl ⟨rfl, hF⟩⟩
            · rw [if_neg (by rw [ht]; decide)] at h
              obtain ⟨d, hd1, hd2, _⟩ := hO.tp
              have hkd := hO.kd.1
              have g1 := hO.ge
              have g2 := hO.gr
              rw [hlen] at g1 g2
              cases hty : Nat.beq v.ty 302 with
              | true =>
                rw [hty] at h
                dsimp only [cond_true] at h
                obtain ⟨ga, h⟩ := Wl.grd h
                injection h with h; injection h with h1 h2; subst h1; subst h2
                have h19 : ¬ d.k ≠ 19 := fun q => q (by rw [hd2]; exact hkd.2 (Nat.eq_of_beq_eq_true hty))
                have := OkS.fin hT (hO.rl.alive 2) (s := s0) (m := m0) (t := .loc [.name q.2 q.1, .name q2.2 q2.1] v) (d := ⟨2, m0.nodes.length, vv, 0, 0, 0, [], q.2⟩) (by dsimp only; omega) (by dsimp only; omega) hR0 (LS.loc2 hll hO.la (by have := hO.rl.bd hT; dsimp only; omega)) (by simp [T.ty])
                exact ⟨_, _, Ev.b2c hq (Ev.ifn (fun q => q hR1.er) (Ev.ct hz (Ev.b1 n1 (Ev.b2c hq3 (Ev.b1 w1 (Ev.ifn (fun q => q hR4.er) (hadd (Ev.b2 hev (Ev.ifn (fun q => q hO.rl.er) (Ev.b1 hd1 (Ev.ifn h19 (Ev.grd (by rw [hO.rl.al]; exact ga) (Ev.const this.1))))))))))))), .inr ⟨rfl, this.2⟩⟩
              | false =>
                rw [hty] at h
                injection h with h; injection h with h1 h2; subst h1; subst h2
                have h19 : d.k ≠ 19 := fun q => by
                  rw [hd2] at q
                  have := hkd.1 q
                  rw [this] at hty
                  exact absurd hty (by decide)
                exact ⟨0, _, Ev.b2c hq (Ev.ifn (fun q => q hR1.er) (Ev.ct hz (Ev.b1 n1 (Ev.b2c hq3 (Ev.b1 w1 (Ev.ifn (fun q => q hR4.er) (hadd (Ev.b2 hev (Ev.ifn (fun q => q hO.rl.er) (Ev.b1 hd1 (Ev.ifp h19 (Ev.pure _)))))))))))), .inl ⟨rfl, failR hT hO.rl (by decide)⟩⟩
end
end Go.Zm
