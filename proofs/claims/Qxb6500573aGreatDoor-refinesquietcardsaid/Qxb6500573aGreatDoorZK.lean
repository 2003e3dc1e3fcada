/- Plain: the two parsers: literals, primaries, tails. -/
import Derived.Test.Qxb6500573aGreatDoorZJ
namespace Go.Zm
open Go Go.Sl Go.Wl Go.Nm Go.Proofs
set_option linter.unusedVariables false
set_option linter.unusedSectionVars false
theorem next_fu {src : List UInt8} {m m' : PZ} (h : nextZ src m = some m') (k : Int) : nextZ src { m with funcs := k } = some { m' with funcs := k } := by
  unfold nextZ at h ⊢
  dsimp only
  split at h
  · rename_i c
    rw [if_pos c]
    split at h
    · rename_i e
      injection h with h; subst h
      rfl
    · rename_i e
      injection h with h; subst h
      rfl
  · cases h
theorem fnS_up (src : List UInt8) (N : Nat) (lv at_ : Int) (m : PZ) : (recZ src (N + 1)).fnS lv at_ m = fnZ src (recZ src N) N lv at_ m := rfl
theorem prim_up (src : List UInt8) (N : Nat) (lv : Int) (m : PZ) : (recZ src (N + 1)).prim lv m = primZ src (recZ src N) lv m := rfl
theorem post_up (src : List UInt8) (N : Nat) (lv : Int) (m : PZ) : (recZ src (N + 1)).post lv m = postZ src (recZ src N) N lv m := rfl
theorem unary_up (src : List UInt8) (N : Nat) (lv : Int) (m : PZ) : (recZ src (N + 1)).unary lv m = unaryZ src (recZ src N) lv m := rfl
theorem list_up (src : List UInt8) (N : Nat) (lv : Int) (c : List UInt8) (mx : Int) (m : PZ) : (recZ src (N + 1)).list lv c mx m = lstZL src (recZ src N) N lv c mx 0 0 0 m := rfl
section
variable {src : List UInt8} {toks : List Tok} {rc : Rec} (hT : TOk toks) (ih : IH src toks rc)
include hT ih
theorem lit_eq {room at_ : Int} (hroom : 1 ≤ room ∧ room ≤ 12) {lf : Nat} {s s' : PS} {m : PZ} {t : T} (hR : Rl src toks s m) (h : literalP toks rc lf room at_ s = some (t, s')) :
    RE src toks room s m (fun N _ => bif isZ tOpen m then (recZ src N).fnS (13 - room) at_ m else some (0, failZ 15 m)) t s' := by
  unfold literalP at h
  obtain ⟨_, h⟩ := Wl.grd h
  obtain ⟨ok, s1, hx, h⟩ := bnd2 h
  unfold expectP at hx
  split at hx
  · rename_i c
    injection hx with hx; injection hx with h1 h2; subst h1; subst h2
    injection h with h; injection h with h1 h2; subst h1; subst h2
    exact ⟨0, _, Ev.cf (isF hR (K := 39) (by omega) rfl c) (Ev.pure _), .inl ⟨rfl, failR hT hR (by decide)⟩⟩
  · rename_i c
    have hz := isT hR (K := 39) (by omega) (t := tOpen) rfl (Decidable.not_not.1 c)
    obtain ⟨sA, hn, hx⟩ := bnd1 hx
    injection hx with hx; injection hx with h1 h2; subst h1; subst h2
    dsimp only [cond_true] at h
    obtain ⟨hfb, h⟩ := Wl.grd h
    obtain ⟨m1, k1, k2, k3, k4, k5, k6, k7⟩ := nextR hR hn
    have k1' := next_fu k1 (m.funcs + 1)
    have hR1 : Rl src toks (al0 { sA with funcs := sA.funcs + 1 }) { m1 with funcs := m.funcs + 1, alive := 0 } := ⟨k2.cur, k2.tk, k2.st, k2.ps, rfl, k2.lp, by show m.funcs + 1 = sA.funcs + 1; rw [k7, hR.fu], k2.er, k2.se, k2.nb, by have := k2.f0; show 0 ≤ sA.funcs + 1; omega⟩
    obtain ⟨ps, s2, hp, h⟩ := bnd2 h
    have hpa := par_al _ _ _ _ _ hp
    have hnb := hR.nb
    obtain ⟨q, m3, hev, hres⟩ := params_eq hT (s0 := sA) (m0 := m1) lf [] _ _ 0 0 ps _ hR1 rfl (LC.nil _) (Nat.zero_le _) (Nat.le_refl _) (.inl ⟨rfl, rfl, rfl⟩) (Nat.le_refl _) hpa.1
    have hfm : 0 ≤ m.funcs ∧ m.funcs ≤ 1000000 := by rw [hR.fu, ← k7]; exact ⟨k2.f0, hfb.2⟩
    have fin : ∀ {x : Int} {mf : PZ}, Ev (fun N n => bind2 (parZL src n 0 0 0 { m1 with funcs := m.funcs + 1, alive := 0 }) fun r m2 => match r with
        | none => some (0, m2)
        | some (first, np) => bind1 (nextZ src m2) fun m3 => bind2 ((recZ src N).block (13 - room + 1) { m3 with alive := np, loops := 0 }) fun b m4 => bind1 (wantZ src tEnd m4) fun m5 =>
          if m5.err ≠ 0 then some (0, { m5 with alive := m1.alive, loops := m1.loops }) else addZ ⟨20, first, b, 0, 0, m.funcs + 1, [], at_⟩ { m5 with alive := m1.alive, loops := m1.loops }) (x, mf) →
        Ev (fun N _ => bif isZ tOpen m then (recZ src N).fnS (13 - room) at_ m else some (0, failZ 15 m)) (x, mf) := fun hE =>
      Ev.ct hz (Ev.up (f := fun N n => fnZ src (recZ src N) n (13 - room) at_ m) (Ev.grd (by omega) (Ev.ifp hfm (Ev.b1 k1' hE))) (fun N => fnS_up src N _ _ _))
    rcases hres with ⟨rfl, rfl, hF⟩ | ⟨l, f, rfl, rfl, hO⟩
    · injection h with h; injection h with h1 h2; subst h1; subst h2
      exact ⟨0, m3, fin (Ev.b2 hev (Ev.pure _)), .inl ⟨rfl, hF.e, hF.a, hF.n, hF.ps⟩⟩
    · dsimp only at h
      obtain ⟨s3, hn3, h⟩ := bnd1 h
      have hna := next_al hn3
      obtain ⟨m4, n1, n2, n3, n4, n5, n6, n7⟩ := nextR hO.rl hna.1
      obtain ⟨bd, s4, hb, h⟩ := bnd2 h
      have hR4 : Rl src toks { s3 with alive := (l.length : Int), loops := 0 } { m4 with alive := (l.length : Int), loops := 0 } := ⟨n2.cur, n2.tk, n2.st, n2.ps, rfl, rfl, n2.fu, n2.er, n2.se, n2.nb, n2.f0⟩
      obtain ⟨b, m5, hev5, hres5⟩ := ih.block (by omega) hR4 hb
      rw [lv1] at hev5
      have hOge := hO.ge
      have hOgr := hO.gr
      rcases hres5 with ⟨rfl, hF⟩ | ⟨body, rfl, hO5⟩
      · injection h with h; injection h with h1 h2; subst h1; subst h2
        obtain ⟨m6, w1, w2, _⟩ := hF.want tEnd
        exact ⟨0, { m6 with alive := m1.alive, loops := m1.loops }, fin (Ev.b2 hev (Ev.b1 n1 (Ev.b2 hev5 (Ev.b1 w1 (Ev.ifp w2.ne (Ev.pure _)))))), .inl ⟨rfl, w2.e, w2.a, w2.n, w2.ps⟩⟩
      · dsimp only at h
        obtain ⟨ok6, s6, hx6, h⟩ := bnd2 h
        obtain ⟨m6, w1, w2⟩ := expR hT hO5.rl (K := 9) (by omega) (t := tEnd) rfl hx6
        rcases w2 with ⟨rfl, hF⟩ | ⟨rfl, hR6, i6, d6, a6, l6, f6⟩
        · injection h with h; injection h with h1 h2; subst h1; subst h2
          exact ⟨0, { m6 with alive := m1.alive, loops := m1.loops }, fin (Ev.b2 hev (Ev.b1 n1 (Ev.b2 hev5 (Ev.b1 w1 (Ev.ifp hF.ne (Ev.pure _)))))), .inl ⟨rfl, hF.e, hF.a, hF.n, hF.ps⟩⟩
        · injection h with h; injection h with h1 h2; subst h1; subst h2
          have hal : m1.alive = s3.alive := by rw [k2.al]; have := hpa.2.1; have := hna.2.1; dsimp only at *; omega
          have hlo : m1.loops = s3.loops := by rw [k2.lp]; have := hpa.2.2; have := hna.2.2; dsimp only at *; omega
          have hR7 : Rl src toks { s6 with alive := s3.alive, loops := s3.loops } { m6 with alive := m1.alive, loops := m1.loops } := ⟨hR6.cur, hR6.tk, hR6.st, hR6.ps, hal, hlo, hR6.fu, hR6.er, hR6.se, hR6.nb, hR6.f0⟩
          have h5ge := hO5.ge
          have h5gr := hO5.gr
          dsimp only at h5ge h5gr
          have e1 : (al0 s2).i = s2.i := rfl
          have e3 : (al0 s3).i = s3.i := rfl
          rw [e1, e3] at n3
          rw [e1] at hOgr
          rw [k4] at hOge hOgr
          rw [n4] at h5ge h5gr
          have hla : LE (.func at_ (sA.funcs + 1) l body) m.nodes m6.nodes.length (m6.nodes ++ [⟨20, f, b, 0, 0, m.funcs + 1, [], at_⟩]) := by
            rw [d6, hR.fu, ← k7]
            refine LE.func (by have := k2.f0; omega) (ns1 := m3.nodes) ?_ ?_ (by have := hO5.rl.bd hT; omega)
            · have := hO.la; rw [k4] at this; exact this
            · have := hO5.la; dsimp only at this; rw [n4] at this; exact this
          have := OkE.fin hT hR7 (s := s) (m := m) (by dsimp only; rw [d6]; omega) (by dsimp only; rw [d6]; omega) hR hla (by simp [kd3, kdT, T.ty]) rfl (fun _ _ _ q => by cases q)
          exact ⟨_, _, fin (Ev.b2 hev (Ev.b1 n1 (Ev.b2 hev5 (Ev.b1 w1 (Ev.ifn (fun q => q hR6.er) (Ev.const this.1)))))), .inr ⟨rfl, by omega, this.2⟩⟩
theorem leaf_eq {room : Int} (hroom : 1 ≤ room ∧ room ≤ 12) {s s1 : PS} {m : PZ} {t : T} {d : Nd} (hR : Rl src toks s m) (hn : nextP toks s = some s1) (hl : LE t m.nodes m.nodes.length (m.nodes ++ [d])) (hk : kd3 t) (hd : d.k = kdT t) (hc : ∀ a f l, t ≠ .call a f l) (ht : t.isNil = false) :
    RE src toks room s m (fun _ _ => bind1 (nextZ src m) fun m1 => addZ d m1) t s1 := by
  obtain ⟨m1, k1, k2, k3, k4, _⟩ := nextR hR hn
  have := OkE.fin hT k2 (s := s) (m := m) (by rw [k4]; omega) (by rw [k4]; omega) hR (by rw [k4]; exact hl) hk hd (fun a f l q => absurd q (hc a f l))
  exact ⟨_, _, Ev.b1 k1 (Ev.const this.1), .inr ⟨ht, by omega, this.2⟩⟩
theorem listZ_eq {room closing most : Int} (hroom : -5 ≤ room ∧ room ≤ 12) (hcl : 5 ≤ closing ∧ closing ≤ 46) {ct : List UInt8} (hct : ct = kText closing) {mx : Int} (hmx : ∀ k : Nat, k < 100001 → ((k : Int) = most ↔ (k : Int) = mx)) {s s' : PS} {m : PZ} {lf : Nat} {r : Option (List T)} (hR : Rl src toks s m) (h : listL toks rc lf room closing most [] s = some (r, s')) :
    RLs src toks s m (fun N _ => (recZ src N).list (13 - room) ct mx m) r s' 4 := by
  obtain ⟨x, m', hev, hres⟩ := list_eq hT ih hroom hcl hct hmx (s0 := s) (m0 := m) lf [] s m 0 0 r s' hR (LC.nil _) (Nat.zero_le _) (Nat.le_refl _) (.inl ⟨rfl, rfl, rfl⟩) (Nat.le_refl _) h
  exact ⟨x, m', Ev.up hev (fun N => list_up src N _ _ _ _), hres⟩
theorem prim_eq {room : Int} (hroom : 1 ≤ room ∧ room ≤ 12) {lf : Nat} {s s' : PS} {m : PZ} {t : T} (hR : Rl src toks s m) (h : primP toks rc lf room s = some (t, s')) :
    RE src toks room s m (fun N _ => (recZ src N).prim (13 - room) m) t s' := by
  have hb := hR.bd hT
  have hk := hR.tk.k
  have up : ∀ {f : Nat → Nat → Option (Int × PZ)}, RE src toks room s m f t s' → (∀ N n, primZ src (recZ src N) (13 - room) m = guardB (13 - room) (f N n)) → RE src toks room s m (fun N _ => (recZ src N).prim (13 - room) m) t s' := fun hE e => by
    obtain ⟨x, m', hev, hres⟩ := hE
    exact ⟨x, m', Ev.up (f := fun N n => primZ src (recZ src N) (13 - room) m) ((Ev.grd (by omega) hev).of e) (fun N => prim_up src N _ _), hres⟩
  unfold primP at h
  obtain ⟨_, h⟩ := Wl.grd h
  split at h
  · rename_i c
    obtain ⟨s1, hn, h⟩ := bnd1 h
    injection h with h; injection h with h1 h2; subst h1; subst h2
    have c2 : m.tok.k = 2 := hk.2.2.1.2 c
    refine up (leaf_eq hT ih hroom hR hn (d := ⟨15, 0, 0, 0, 0, m.tok.n, [], m.tok.at_⟩) ?_ (by simp [kd3, kdT, T.ty]) rfl (fun _ _ _ q => by cases q) rfl) (fun N n => by unfold primZ; rw [if_pos c2])
    rw [hR.tk.at_, (hR.tk.k3 c).2]
    exact LE.num (by omega)
  · rename_i c3
    have n3 : ¬ m.tok.k = 2 := fun q => c3 (hk.2.2.1.1 q)
    split at h
    · rename_i c
      obtain ⟨s1, hn, h⟩ := bnd1 h
      injection h with h; injection h with h1 h2; subst h1; subst h2
      have c2 : m.tok.k = 3 := hk.2.2.2.1.2 c
      refine up (leaf_eq hT ih hroom hR hn (d := ⟨16, 0, 0, 0, 0, 0, m.tok.s, m.tok.at_⟩) ?_ (by simp [kd3, kdT, T.ty]) rfl (fun _ _ _ q => by cases q) rfl) (fun N n => by unfold primZ; rw [if_neg n3, if_pos c2])
      rw [hR.tk.at_, (hR.tk.k4 c).2]
      exact LE.str (by omega)
    · rename_i c4
      have n4 : ¬ m.tok.k = 3 := fun q => c4 (hk.2.2.2.1.1 q)
      split at h
      · rename_i c
        obtain ⟨s1, hn, h⟩ := bnd1 h
        injection h with h; injection h with h1 h2; subst h1; subst h2
        have c2 : m.tok.k = 1 := hk.2.1.2 c
        refine up (leaf_eq hT ih hroom hR hn (d := ⟨17, 0, 0, 0, 0, 0, m.tok.s, m.tok.at_⟩) ?_ (by simp [kd3, kdT, T.ty]) rfl (fun _ _ _ q => by cases q) rfl) (fun N n => by unfold primZ; rw [if_neg n3, if_neg n4, if_pos c2])
        rw [hR.tk.at_, (hR.tk.k2 c).2]
        exact LE.name (by omega)
      · rename_i c5
        have n5 : ¬ m.tok.k = 1 := fun q => c5 (hk.2.1.1 q)
        have up2 : ∀ {f : Nat → Nat → Option (Int × PZ)}, RE src toks room s m f t s' → (∀ N n, (bif isZ tNil m then (bind1 (nextZ src m) fun m1 => addZ ⟨12, 0, 0, 0, 0, 0, [], m.tok.at_⟩ m1)
            else bif isZ tTrue m then (bind1 (nextZ src m) fun m1 => addZ ⟨13, 0, 0, 0, 0, 0, [], m.tok.at_⟩ m1)
            else bif isZ tFalse m then (bind1 (nextZ src m) fun m1 => addZ ⟨14, 0, 0, 0, 0, 0, [], m.tok.at_⟩ m1)
            else bif isZ tOpen m then (bind1 (nextZ src m) fun m1 => bind2 ((recZ src N).expr (13 - room + 1) m1) fun x m2 => bind1 (wantZ src tClose m2) fun m3 => some (x, m3))
            else bif isZ tFunction m then (if 12 ≤ m.funcs then some (0, failZ 20 m) else bind1 (nextZ src m) fun m1 => bif isZ tOpen m1 then (recZ src N).fnS (13 - room) m.tok.at_ m1 else some (0, failZ 15 m1))
            else bif isZ tBrace m then (bind1 (nextZ src m) fun m1 => bind2 ((recZ src N).list (13 - room + 1) tBraceE 1073741824 m1) fun f m2 => if m2.err ≠ 0 then some (0, m2) else addZ ⟨21, f, 0, 0, 0, 0, [], m.tok.at_⟩ m2)
            else some (0, failZ 15 m)) = f N n) → RE src toks room s m (fun N _ => (recZ src N).prim (13 - room) m) t s' := fun hE e => up hE (fun N n => by unfold primZ; rw [if_neg n3, if_neg n4, if_neg n5, e N n])
        have isr : ∀ (K : Int) (tx : List UInt8), 5 ≤ K ∧ K ≤ 46 → tx = kText K → isZ tx m = decide (s.cur.kind = K) := fun K tx hK ht => isR hR hK tx ht
        rw [show isZ tNil m = _ from isr 16 _ (by omega) rfl, show isZ tTrue m = _ from isr 20 _ (by omega) rfl, show isZ tFalse m = _ from isr 10 _ (by omega) rfl, show isZ tOpen m = _ from isr 39 _ (by omega) rfl, show isZ tFunction m = _ from isr 12 _ (by omega) rfl, show isZ tBrace m = _ from isr 41 _ (by omega) rfl] at up2
        split at h
        · rename_i c
          obtain ⟨s1, hn, h⟩ := bnd1 h
          injection h with h; injection h with h1 h2; subst h1; subst h2
          refine up2 (leaf_eq hT ih hroom hR hn (d := ⟨12, 0, 0, 0, 0, 0, [], m.tok.at_⟩) ?_ (by simp [kd3, kdT, T.ty]) rfl (fun _ _ _ q => by cases q) rfl) (fun N n => by simp [c])
          rw [hR.tk.at_]
          exact LE.lit (by omega)
        · rename_i c6
          split at h
          · rename_i c
            obtain ⟨s1, hn, h⟩ := bnd1 h
            injection h with h; injection h with h1 h2; subst h1; subst h2
            refine up2 (leaf_eq hT ih hroom hR hn (d := ⟨13, 0, 0, 0, 0, 0, [], m.tok.at_⟩) ?_ (by simp [kd3, kdT, T.ty]) rfl (fun _ _ _ q => by cases q) rfl) (fun N n => by simp [c])
            rw [hR.tk.at_]
            exact LE.lit (by omega)
          · rename_i c7
            split at h
            · rename_i c
              obtain ⟨s1, hn, h⟩ := bnd1 h
              injection h with h; injection h with h1 h2; subst h1; subst h2
              refine up2 (leaf_eq hT ih hroom hR hn (d := ⟨14, 0, 0, 0, 0, 0, [], m.tok.at_⟩) ?_ (by simp [kd3, kdT, T.ty]) rfl (fun _ _ _ q => by cases q) rfl) (fun N n => by simp [c])
              rw [hR.tk.at_]
              exact LE.lit (by omega)
            · rename_i c8
              split at h
              · rename_i c
                obtain ⟨s1, hn, h⟩ := bnd1 h
                obtain ⟨m1, k1, k2, k3, k4, _⟩ := nextR hR hn
                obtain ⟨x, s2, hx, h⟩ := bnd2 h
                obtain ⟨v, m2, hev, hres⟩ := ih.expr (by omega) (by omega) k2 hx
                rw [lv1] at hev
                refine up2 (f := fun N n => bind1 (nextZ src m) fun m1 => bind2 ((recZ src N).expr (13 - room + 1) m1) fun x m2 => bind1 (wantZ src tClose m2) fun m3 => some (x, m3)) ?_ (fun N n => by simp [c])
                rcases hres with ⟨ht, hF⟩ | ⟨ht, _, hO⟩
                · rw [if_pos ht] at h
                  injection h with h; injection h with h1 h2; subst h1; subst h2
                  obtain ⟨m3, w1, w2, _⟩ := hF.want tClose
                  exact ⟨v, m3, Ev.b1 k1 (Ev.b2 hev (Ev.b1 w1 (Ev.pure _))), .inl ⟨rfl, w2⟩⟩
                · rw [if_neg (by rw [ht]; decide)] at h
                  obtain ⟨ok, s3, hx3, h⟩ := bnd2 h
                  obtain ⟨m3, w1, w2⟩ := expR hT hO.rl (K := 40) (by omega) (t := tClose) rfl hx3
                  rcases w2 with ⟨rfl, hF⟩ | ⟨rfl, hR3, i3, d3, _⟩
                  · injection h with h; injection h with h1 h2; subst h1; subst h2
                    exact ⟨v, m3, Ev.b1 k1 (Ev.b2 hev (Ev.b1 w1 (Ev.pure _))), .inl ⟨rfl, hF⟩⟩
                  · injection h with h; injection h with h1 h2; subst h1; subst h2
                    have g1 := hO.ge
                    have g2 := hO.gr
                    rw [k4] at g1 g2
                    refine ⟨v, m3, Ev.b1 k1 (Ev.b2 hev (Ev.b1 w1 (Ev.pure _))), .inr ⟨ht, by omega, hR3, ?_, by rw [d3]; omega, by rw [d3]; omega, hO.kd, hO.xp, ?_⟩⟩
                    · rw [d3, ← k4]; exact hO.la
                    · obtain ⟨d, h1, h2⟩ := hO.tp
                      exact ⟨d, by unfold nodeZ at h1 ⊢; simp only [d3]; exact h1, h2⟩
              · rename_i c9
                split at h
                · rename_i c
                  obtain ⟨ok, s1, hf, h⟩ := bnd2 h
                  unfold functionP at hf
                  refine up2 (f := fun N n => if 12 ≤ m.funcs then some (0, failZ 20 m) else bind1 (nextZ src m) fun m1 => bif isZ tOpen m1 then (recZ src N).fnS (13 - room) m.tok.at_ m1 else some (0, failZ 15 m1)) ?_ (fun N n => by simp [c])
                  split at hf
                  · rename_i cf
                    injection hf with hf; injection hf with h1 h2; subst h1; subst h2
                    injection h with h; injection h with h1 h2; subst h1; subst h2
                    exact ⟨0, _, Ev.ifp (by rw [hR.fu]; exact cf) (Ev.pure _), .inl ⟨rfl, failR hT hR (by decide)⟩⟩
                  · rename_i cf
                    obtain ⟨sA, hn, hf⟩ := bnd1 hf
                    injection hf with hf; injection hf with h1 h2; subst h1; subst h2
                    obtain ⟨m1, k1, k2, k3, k4, _⟩ := nextR hR hn
                    dsimp only [cond_true] at h
                    obtain ⟨v, m2, hev, hres⟩ := lit_eq hT ih hroom k2 h
                    refine ⟨v, m2, Ev.ifn (by rw [hR.fu]; exact cf) (Ev.b1 k1 (by rw [hR.tk.at_]; exact hev)), hres.imp id fun q => ⟨q.1, q.2.1, ?_⟩⟩
                    have hO := q.2.2
                    have g1 := hO.ge
                    have g2 := hO.gr
                    rw [k4] at g1 g2
                    exact ⟨hO.rl, by rw [← k4]; exact hO.la, by omega, by omega, hO.kd, hO.xp, hO.tp⟩
                · rename_i c10
                  split at h
                  · rename_i c
                    obtain ⟨s1, hn, h⟩ := bnd1 h
                    obtain ⟨m1, k1, k2, k3, k4, _⟩ := nextR hR hn
                    obtain ⟨r, s2, hx, h⟩ := bnd2 h
                    obtain ⟨v, m2, hev, hres⟩ := listZ_eq hT ih (by omega) (by omega) (ct := tBraceE) (mx := 1073741824) rfl (fun k hk => by omega) k2 hx
                    rw [lv1] at hev
                    refine up2 (f := fun N n => bind1 (nextZ src m) fun m1 => bind2 ((recZ src N).list (13 - room + 1) tBraceE 1073741824 m1) fun f m2 => if m2.err ≠ 0 then some (0, m2) else addZ ⟨21, f, 0, 0, 0, 0, [], m.tok.at_⟩ m2) ?_ (fun N n => by simp [c])
                    rcases hres with ⟨rfl, hF⟩ | ⟨l, rfl, hO⟩
                    · injection h with h; injection h with h1 h2; subst h1; subst h2
                      exact ⟨0, m2, Ev.b1 k1 (Ev.b2 hev (Ev.ifp hF.ne (Ev.pure _))), .inl ⟨rfl, hF⟩⟩
                    · injection h with h; injection h with h1 h2; subst h1; subst h2
                      have g1 := hO.ge
                      have g2 := hO.gr
                      rw [k4] at g1 g2
                      have := OkE.fin hT hO.rl (s := s) (m := m) (t := .table s.cur.at_ l) (d := ⟨21, v, 0, 0, 0, 0, [], m.tok.at_⟩) (by omega) (by omega) hR (by rw [hR.tk.at_, ← k4]; exact LE.table hO.la (by have := hO.rl.bd hT; omega)) (by simp [kd3, kdT, T.ty]) rfl (fun _ _ _ q => by cases q)
                      exact ⟨_, _, Ev.b1 k1 (Ev.b2 hev (Ev.ifn (fun q => q hO.rl.er) (Ev.const this.1))), .inr ⟨rfl, by omega, this.2⟩⟩
                  · rename_i c11
                    injection h with h; injection h with h1 h2; subst h1; subst h2
                    refine up2 (f := fun N n => some (0, failZ 15 m)) ⟨0, _, Ev.pure _, .inl ⟨rfl, failR hT hR (by decide)⟩⟩ (fun N n => ?_)
                    simp [c6, c7, c8, c9, c10, c11]
end
end Go.Zm
