/- Plain: the two parsers: if, for, statements. -/
import Derived.Test.Qxb6500573aGreatDoorZP
namespace Go.Zm
open Go Go.Sl Go.Wl Go.Nm Go.Proofs
set_option linter.unusedVariables false
set_option linter.unusedSectionVars false
section
variable {src : List UInt8} {toks : List Tok} {rc : Rec} (hT : TOk toks) (ih : IH src toks rc)
include hT ih
theorem bl1 {room : Int} (hroom : 1 ≤ room ∧ room ≤ 12) {s s' : PS} {m : PZ} {r : Option (List T)} (hR : Rl src toks s m) (h : rc.block (room - 1) s = some (r, s')) :
    RLs src toks s m (fun N _ => (recZ src N).block (13 - room + 1) m) r s' 0 := by
  have := ih.block (by omega) hR h
  rw [lv1] at this
  exact this
theorem if_eq {room : Int} (hroom : 1 ≤ room ∧ room ≤ 12) {s s' : PS} {m : PZ} {t : T} (hR : Rl src toks s m) (h : branchP toks rc room s = some (t, s')) :
    RSt src toks s m (fun N _ => (recZ src N).ifS (13 - room) m) t s' := by
  unfold branchP at h
  obtain ⟨_, h⟩ := Wl.grd h
  obtain ⟨s1, hn, h⟩ := bnd1 h
  obtain ⟨m1, k1, k2, k3, k4, _⟩ := nextR hR hn
  obtain ⟨c, s2, hx, h⟩ := bnd2 h
  obtain ⟨cv, m2, hev2, hres2⟩ := ex1 hT ih hroom k2 hx
  have hpos : c.isNil = false → 0 < room - 1 := fun hc => by
    obtain ⟨_, _, _, q⟩ := ih.expr (by omega) (by omega) k2 hx
    rcases q with ⟨q, _⟩ | ⟨_, q, _⟩
    · rw [hc] at q; cases q
    · exact q
  have up : ∀ {x : Int} {m' : PZ}, Ev (fun N n => bind1 (wantZ src tThen m2) fun m3 => if m3.err ≠ 0 then some (0, m3)
      else bind2 ((recZ src N).block (13 - room + 1) m3) fun b m4 => if m4.err ≠ 0 then some (0, m4)
      else bif isZ tElseif m4 then (bind2 ((recZ src N).ifS (13 - room + 1) m4) fun e m5 => if m5.err ≠ 0 then some (0, m5) else addZ ⟨6, cv, b, e, 0, 0, [], m.tok.at_⟩ m5)
      else bif isZ tElse m4 then (bind1 (nextZ src m4) fun m5 => bind2 ((recZ src N).block (13 - room + 1) m5) fun e m6 => bind1 (wantZ src tEnd m6) fun m7 => if m7.err ≠ 0 then some (0, m7) else addZ ⟨6, cv, b, e, 0, 0, [], m.tok.at_⟩ m7)
      else bind1 (wantZ src tEnd m4) fun m7 => if m7.err ≠ 0 then some (0, m7) else addZ ⟨6, cv, b, 0, 0, 0, [], m.tok.at_⟩ m7) (x, m') → Ev (fun N _ => (recZ src N).ifS (13 - room) m) (x, m') := fun hE =>
    Ev.up (f := fun N n => ifZ src (recZ src N) (13 - room) m) (Ev.grd (by omega) (Ev.b1 k1 (Ev.b2 hev2 hE))) (fun N => if_up src N _ _)
  rcases hres2 with ⟨ht, hF⟩ | ⟨ht, hO⟩
  · rw [if_pos ht] at h
    injection h with h; injection h with h1 h2; subst h1; subst h2
    obtain ⟨m3, w1, w2, _⟩ := hF.want tThen
    exact ⟨0, m3, up (Ev.b1 w1 (Ev.ifp w2.ne (Ev.pure _))), .inl ⟨rfl, w2⟩⟩
  · rw [if_neg (by rw [ht]; decide)] at h
    obtain ⟨ok3, s3, hx3, h⟩ := bnd2 h
    obtain ⟨m3, w1, w2⟩ := expR hT hO.rl (K := 19) (by omega) (t := tThen) rfl hx3
    rcases w2 with ⟨rfl, hF⟩ | ⟨rfl, hR3, i3, d3, _⟩
    · injection h with h; injection h with h1 h2; subst h1; subst h2
      exact ⟨0, m3, up (Ev.b1 w1 (Ev.ifp hF.ne (Ev.pure _))), .inl ⟨rfl, hF⟩⟩
    · dsimp only [cond_true] at h
      obtain ⟨th, s4, hb, h⟩ := bnd2 h
      obtain ⟨bv, m4, hev4, hres4⟩ := bl1 hT ih hroom hR3 hb
      rcases hres4 with ⟨rfl, hF⟩ | ⟨l, rfl, hO4⟩
      · injection h with h; injection h with h1 h2; subst h1; subst h2
        exact ⟨0, m4, up (Ev.b1 w1 (Ev.ifn (fun q => q hR3.er) (Ev.b2 hev4 (Ev.ifp hF.ne (Ev.pure _))))), .inl ⟨rfl, hF⟩⟩
      · dsimp only at h
        have hR4 := hO4.rl
        have g1 := hO.ge
        have g2 := hO.gr
        have hla := hO.la
        rw [k4] at g1 g2 hla
        have g3 := hO4.ge
        have g4 := hO4.gr
        have hlb := hO4.la
        rw [d3] at g3 g4 hlb
        have pre : ∀ {f : Nat → Nat → Option (Int × PZ)} {x : Int} {m' : PZ}, Ev (fun N n => bif isZ tElseif m4 then (bind2 ((recZ src N).ifS (13 - room + 1) m4) fun e m5 => if m5.err ≠ 0 then some (0, m5) else addZ ⟨6, cv, bv, e, 0, 0, [], m.tok.at_⟩ m5)
            else bif isZ tElse m4 then (bind1 (nextZ src m4) fun m5 => bind2 ((recZ src N).block (13 - room + 1) m5) fun e m6 => bind1 (wantZ src tEnd m6) fun m7 => if m7.err ≠ 0 then some (0, m7) else addZ ⟨6, cv, bv, e, 0, 0, [], m.tok.at_⟩ m7)
            else bind1 (wantZ src tEnd m4) fun m7 => if m7.err ≠ 0 then some (0, m7) else addZ ⟨6, cv, bv, 0, 0, 0, [], m.tok.at_⟩ m7) (x, m') → Ev (fun N _ => (recZ src N).ifS (13 - room) m) (x, m') := fun hE => up (Ev.b1 w1 (Ev.ifn (fun q => q hR3.er) (Ev.b2 hev4 (Ev.ifn (fun q => q hR4.er) hE))))
        split at h
        · rename_i c8
          have z : isZ tElseif m4 = true := isT hR4 (K := 8) (by omega) rfl c8
          obtain ⟨arm, s5, hbr, h⟩ := bnd2 h
          obtain ⟨av, m5, hev5, hres5⟩ := ih.branch (by have := hpos ht; omega) hR4 hbr
          rw [lv1] at hev5
          rcases hres5 with ⟨ht5, hF⟩ | ⟨ht5, hO5⟩
          · rw [if_pos ht5] at h
            injection h with h; injection h with h1 h2; subst h1; subst h2
            exact ⟨0, m5, pre (f := fun _ _ => none) (Ev.ct z (Ev.b2 hev5 (Ev.ifp hF.ne (Ev.pure _)))), .inl ⟨rfl, hF⟩⟩
          · rw [if_neg (by rw [ht5]; decide)] at h
            injection h with h; injection h with h1 h2; subst h1; subst h2
            have g5 := hO5.ge
            have g6 := hO5.gr
            have hlc : LL [arm] m4.nodes av m5.nodes := (LC.one (LC.nil m4.nodes) hO5.la.y).ll (by simp)
            have := OkS.fin hT hO5.rl (s := s) (m := m) (t := .ife s.cur.at_ c l [arm]) (d := ⟨6, cv, bv, av, 0, 0, [], m.tok.at_⟩) (by omega) (by omega) hR (by rw [hR.tk.at_]; exact LS.ife hla hlb hlc (by have := hO5.rl.bd hT; omega)) (by simp [T.ty])
            exact ⟨_, _, pre (f := fun _ _ => none) (Ev.ct z (Ev.b2 hev5 (Ev.ifn (fun q => q hO5.rl.er) (Ev.const this.1)))), .inr ⟨rfl, this.2⟩⟩
        · rename_i c8
          have z8 : isZ tElseif m4 = false := isF hR4 (K := 8) (by omega) rfl c8
          obtain ⟨ok5, s5, ha, h'⟩ := bnd2 h
          clear h
          rcases accR hR4 (K := 7) (by omega) (t := tElse) rfl ha with ⟨rfl, rfl, hz⟩ | ⟨rfl, hz, m5, n1, hR5, i5, d5, _⟩
          · dsimp only [cond_false] at h'
            obtain ⟨ok7, s7, hx7, h⟩ := bnd2 h'
            obtain ⟨m7, w7, w8⟩ := expR hT hR4 (K := 9) (by omega) (t := tEnd) rfl hx7
            rcases w8 with ⟨rfl, hF⟩ | ⟨rfl, hR7, i7, d7, _⟩
            · injection h with h; injection h with h1 h2; subst h1; subst h2
              exact ⟨0, m7, pre (f := fun _ _ => none) (Ev.cf z8 (Ev.cf hz (Ev.b1 w7 (Ev.ifp hF.ne (Ev.pure _))))), .inl ⟨rfl, hF⟩⟩
            · injection h with h; injection h with h1 h2; subst h1; subst h2
              have hlc : LL [] m4.nodes 0 m4.nodes := (LC.nil m4.nodes).ll (by simp)
              have := OkS.fin hT hR7 (s := s) (m := m) (t := .ife s.cur.at_ c l []) (d := ⟨6, cv, bv, 0, 0, 0, [], m.tok.at_⟩) (by rw [d7]; omega) (by rw [d7]; omega) hR (by rw [hR.tk.at_, d7]; exact LS.ife hla hlb hlc (by have := hR4.bd hT; omega)) (by simp [T.ty])
              exact ⟨_, _, pre (f := fun _ _ => none) (Ev.cf z8 (Ev.cf hz (Ev.b1 w7 (Ev.ifn (fun q => q hR7.er) (Ev.const this.1))))), .inr ⟨rfl, this.2⟩⟩
          · dsimp only [cond_true] at h'
            obtain ⟨el, s6, hb6, h⟩ := bnd2 h'
            obtain ⟨ev, m6, hev6, hres6⟩ := bl1 hT ih hroom hR5 hb6
            rcases hres6 with ⟨rfl, hF⟩ | ⟨l2, rfl, hO6⟩
            · injection h with h; injection h with h1 h2; subst h1; subst h2
              obtain ⟨m7, w7, w8, _⟩ := hF.want tEnd
              exact ⟨0, m7, pre (f := fun _ _ => none) (Ev.cf z8 (Ev.ct hz (Ev.b1 n1 (Ev.b2 hev6 (Ev.b1 w7 (Ev.ifp w8.ne (Ev.pure _))))))), .inl ⟨rfl, w8⟩⟩
            · dsimp only at h
              obtain ⟨ok7, s7, hx7, h⟩ := bnd2 h
              obtain ⟨m7, w7, w8⟩ := expR hT hO6.rl (K := 9) (by omega) (t := tEnd) rfl hx7
              have g5 := hO6.ge
              have g6 := hO6.gr
              have hlc := hO6.la
              rw [d5] at g5 g6 hlc
              rcases w8 with ⟨rfl, hF⟩ | ⟨rfl, hR7, i7, d7, _⟩
              · injection h with h; injection h with h1 h2; subst h1; subst h2
                exact ⟨0, m7, pre (f := fun _ _ => none) (Ev.cf z8 (Ev.ct hz (Ev.b1 n1 (Ev.b2 hev6 (Ev.b1 w7 (Ev.ifp hF.ne (Ev.pure _))))))), .inl ⟨rfl, hF⟩⟩
              · injection h with h; injection h with h1 h2; subst h1; subst h2
                have := OkS.fin hT hR7 (s := s) (m := m) (t := .ife s.cur.at_ c l l2) (d := ⟨6, cv, bv, ev, 0, 0, [], m.tok.at_⟩) (by rw [d7]; omega) (by rw [d7]; omega) hR (by rw [hR.tk.at_, d7]; exact LS.ife hla hlb hlc (by have := hO6.rl.bd hT; omega)) (by simp [T.ty])
                exact ⟨_, _, pre (f := fun _ _ => none) (Ev.cf z8 (Ev.ct hz (Ev.b1 n1 (Ev.b2 hev6 (Ev.b1 w7 (Ev.ifn (fun q => q hR7.er) (Ev.const this.1))))))), .inr ⟨rfl, this.2⟩⟩
/-- The bounds of a numeric for: two members. -/
theorem pair_ll {t u : T} {ns ns1 ns2 : List Nd} {x y : Int} {xn : Nat} (hx : x = xn) (h0 : xn ≠ 0) (h1 : LE t ns x ns1) (h2 : LE u ns1 y ns2) (hl : xn < ns2.length) : LC [t, u] ns x y (ns2.set xn { ns2[xn] with next := y }) := by
  have a : LC ([] ++ [t]) ns xn xn ns1 := LC.one (LC.nil _) (by rw [← hx]; exact h1.y)
  rw [hx]
  exact LC.more a h2.y h0 hl
theorem for_eq {room : Int} (hroom : 1 ≤ room ∧ room ≤ 12) {s0 s s' : PS} {m0 m : PZ} {t : T} (hR0 : Rl src toks s0 m0) (hnx : nextZ src m0 = some m) (hi : s.i = s0.i + 1) (hn : m.nodes = m0.nodes) (hR : Rl src toks s m) (h : loopForP toks rc room s = some (t, s')) :
    RSt src toks s0 m0 (fun N _ => (recZ src N).forS (13 - room) m0) t s' := by
  have hb := hR.bd hT
  have hnb0 := hR0.nb
  unfold loopForP at h
  obtain ⟨_, h⟩ := Wl.grd h
  obtain ⟨nm, s1, hx, h⟩ := bnd2 h
  obtain ⟨q, m1, hq, hres⟩ := nameR hT hR hx
  have up0 : ∀ {f : Nat → Nat → Option (Int × PZ)} {x : Int} {m' : PZ}, Ev f (x, m') → (∀ N n, forZ src (recZ src N) (13 - room) m0 = guardB (13 - room) (bind1 (nextZ src m0) fun _ => bind2 (nameZ src 4 m) fun _ _ => f N n)) → Ev (fun N _ => (recZ src N).forS (13 - room) m0) (x, m') := fun hE e =>
    Ev.up (f := fun N n => forZ src (recZ src N) (13 - room) m0) ((Ev.grd (by omega) (Ev.b1 hnx (Ev.b2c hq hE))).of e) (fun N => for_up src N _ _)
  rcases hres with ⟨rfl, hF⟩ | ⟨rfl, hR1, i1, d1, _⟩
  · injection h with h; injection h with h1 h2; subst h1; subst h2
    exact ⟨0, m1, up0 (f := fun _ _ => some (0, m1)) (Ev.pure _) (fun N n => by unfold forZ; rw [hnx]; show guardB _ (bind2 _ _) = guardB _ (bind2 _ _); rw [hq]; show guardB _ (if _ then _ else _) = _; rw [if_pos hF.ne]; rfl), .inl ⟨rfl, hF⟩⟩
  · dsimp only at h
    obtain ⟨ok, s2, ha, h'⟩ := bnd2 h
    clear h
    rcases accR hR1 (K := 45) (by omega) (t := tComma) rfl ha with ⟨rfl, rfl, hz⟩ | ⟨rfl, hz, m2, n1, hR2, i2, d2, _⟩
    · dsimp only [cond_false] at h'
      obtain ⟨ok2, s2', hx2, h⟩ := bnd2 h'
      obtain ⟨m2, w1, w2⟩ := expR hT hR1 (K := 38) (by omega) (t := tEq) rfl hx2
      have up : ∀ {x : Int} {m' : PZ}, Ev (fun N n => if m2.err ≠ 0 then some (0, m2)
          else bind2 ((recZ src N).expr (13 - room + 1) m2) fun e1 m3 => bind1 (wantZ src tComma m3) fun m4 => if m4.err ≠ 0 then some (0, m4)
          else bind2 ((recZ src N).expr (13 - room + 1) m4) fun e2 m5 => if m5.err ≠ 0 then some (0, m5)
          else bind1 (setNx e1 e2 m5) fun m6 => bif isZ tComma m6 then
              (bind1 (nextZ src m6) fun m7 => bind2 ((recZ src N).expr (13 - room + 1) m7) fun e3 m8 => if m8.err ≠ 0 then some (0, m8)
               else bind1 (setNx e2 e3 m8) fun m9 => bind2 ((recZ src N).body (13 - room) 4 m9) fun b m10 => if m10.err ≠ 0 then some (0, m10) else addZ ⟨8, e1, b, 0, 0, 0, q.1, q.2⟩ m10)
            else bind2 ((recZ src N).body (13 - room) 4 m6) fun b m10 => if m10.err ≠ 0 then some (0, m10) else addZ ⟨8, e1, b, 0, 0, 0, q.1, q.2⟩ m10) (x, m') → Ev (fun N _ => (recZ src N).forS (13 - room) m0) (x, m') := fun hE => by
        refine Ev.up (f := fun N n => forZ src (recZ src N) (13 - room) m0) (Ev.grd (by omega) (Ev.b1 hnx (Ev.b2c hq (Ev.ifn (fun q => q hR1.er) (Ev.cf hz (Ev.b1 w1 hE)))))) (fun N => for_up src N _ _)
      rcases w2 with ⟨rfl, hF⟩ | ⟨rfl, hR2, i2, d2, _⟩
      · injection h with h; injection h with h1 h2; subst h1; subst h2
        exact ⟨0, m2, up (Ev.ifp hF.ne (Ev.pure _)), .inl ⟨rfl, hF⟩⟩
      · dsimp only [cond_true] at h
        have d20 : m2.nodes = m0.nodes := by rw [d2, d1, hn]
        obtain ⟨f, s3, hv3, h⟩ := bnd2 h
        obtain ⟨e1, m3, hev3, hres3⟩ := ex1 hT ih hroom hR2 hv3
        rcases hres3 with ⟨ht3, hF⟩ | ⟨ht3, hO3⟩
        · rw [if_pos ht3] at h
          injection h with h; injection h with h1 h2; subst h1; subst h2
          obtain ⟨m4, v1, v2, _⟩ := hF.want tComma
          exact ⟨0, m4, up (Ev.ifn (fun q => q hR2.er) (Ev.b2 hev3 (Ev.b1 v1 (Ev.ifp v2.ne (Ev.pure _))))), .inl ⟨rfl, v2⟩⟩
        · rw [if_neg (by rw [ht3]; decide)] at h
          obtain ⟨ok4, s4, hx4, h⟩ := bnd2 h
          obtain ⟨m4, v1, v2⟩ := expR hT hO3.rl (K := 45) (by omega) (t := tComma) rfl hx4
          rcases v2 with ⟨rfl, hF⟩ | ⟨rfl, hR4, i4, d4, _⟩
          · injection h with h; injection h with h1 h2; subst h1; subst h2
            exact ⟨0, m4, up (Ev.ifn (fun q => q hR2.er) (Ev.b2 hev3 (Ev.b1 v1 (Ev.ifp hF.ne (Ev.pure _))))), .inl ⟨rfl, hF⟩⟩
          · dsimp only [cond_true] at h
            obtain ⟨li, s5, hv5, h⟩ := bnd2 h
            obtain ⟨e2, m5, hev5, hres5⟩ := ex1 hT ih hroom hR4 hv5
            rcases hres5 with ⟨ht5, hF⟩ | ⟨ht5, hO5⟩
            · rw [if_pos ht5] at h
              injection h with h; injection h with h1 h2; subst h1; subst h2
              exact ⟨0, m5, up (Ev.ifn (fun q => q hR2.er) (Ev.b2 hev3 (Ev.b1 v1 (Ev.ifn (fun q => q hR4.er) (Ev.b2 hev5 (Ev.ifp hF.ne (Ev.pure _))))))), .inl ⟨rfl, hF⟩⟩
            · rw [if_neg (by rw [ht5]; decide)] at h
              have g3 := hO3.ge
              have g3' := hO3.gr
              have l3 := hO3.la
              rw [d20] at g3 g3' l3
              have g5 := hO5.ge
              have g5' := hO5.gr
              have l5 := hO5.la
              rw [d4] at g5 g5' l5
              obtain ⟨dd, hd1, _⟩ := hO3.tp
              obtain ⟨en, hen, he1, _⟩ := nodeZ_some hd1
              have hxp := hO3.xp
              have hel : en < m5.nodes.length := by omega
              have hpl := pair_ll hT ih he1 (by omega) l3 l5 hel
              have hR6 := hO5.rl.set hel e2
              have hset := setNx_ok hel e2
              rw [← he1] at hset
              obtain ⟨m6, hm6⟩ : ∃ z : PZ, z = { m5 with nodes := m5.nodes.set en { m5.nodes[en] with next := e2 } } := ⟨_, rfl⟩
              have hm6n : m6.nodes = m5.nodes.set en { m5.nodes[en] with next := e2 } := by rw [hm6]
              have hm6l : m6.nodes.length = m5.nodes.length := by rw [hm6n]; simp
              rw [← hm6] at hR6 hset
              rw [← hm6n] at hpl
              obtain ⟨ok6, s6, ha6, h'⟩ := bnd2 h
              clear h
              rcases accR hR6 (K := 45) (by omega) (t := tComma) rfl ha6 with ⟨rfl, rfl, hz6⟩ | ⟨rfl, hz6, m7, n7, hR7, i7, d7, _⟩
              · dsimp only [cond_false] at h'
                obtain ⟨r, s8, hbd, h⟩ := bnd2 h'
                obtain ⟨bv, m8, hev8, hres8⟩ := body_eq hT ih hroom (.inr rfl) hR6 hbd
                rcases hres8 with ⟨rfl, hF⟩ | ⟨l, rfl, hO8⟩
                · injection h with h; injection h with h1 h2; subst h1; subst h2
                  exact ⟨0, m8, up (Ev.ifn (fun q => q hR2.er) (Ev.b2 hev3 (Ev.b1 v1 (Ev.ifn (fun q => q hR4.er) (Ev.b2 hev5 (Ev.ifn (fun q => q hO5.rl.er) (Ev.b1 hset (Ev.cf hz6 (Ev.b2 hev8 (Ev.ifp hF.ne (Ev.pure _))))))))))), .inl ⟨rfl, hF⟩⟩
                · injection h with h; injection h with h1 h2; subst h1; subst h2
                  have g8 := hO8.ge
                  have g8' := hO8.gr
                  have := OkS.fin hT hO8.rl (s := s0) (m := m0) (t := .forN q.2 q.1 [f, li] l) (d := ⟨8, e1, bv, 0, 0, 0, q.1, q.2⟩) (by omega) (by omega) hR0 (LS.forN (hpl.ll (by simp)) hO8.la (by have := hO8.rl.bd hT; omega)) (by simp [T.ty])
                  exact ⟨_, _, up (Ev.ifn (fun q => q hR2.er) (Ev.b2 hev3 (Ev.b1 v1 (Ev.ifn (fun q => q hR4.er) (Ev.b2 hev5 (Ev.ifn (fun q => q hO5.rl.er) (Ev.b1 hset (Ev.cf hz6 (Ev.b2 hev8 (Ev.ifn (fun q => q hO8.rl.er) (Ev.const this.1))))))))))), .inr ⟨rfl, this.2⟩⟩
              · dsimp only [cond_true] at h'
                obtain ⟨st, s8, hv8, h⟩ := bnd2 h'
                obtain ⟨e3, m8, hev8, hres8⟩ := ex1 hT ih hroom hR7 hv8
                rcases hres8 with ⟨ht8, hF⟩ | ⟨ht8, hO8⟩
                · rw [if_pos ht8] at h
                  injection h with h; injection h with h1 h2; subst h1; subst h2
                  exact ⟨0, m8, up (Ev.ifn (fun q => q hR2.er) (Ev.b2 hev3 (Ev.b1 v1 (Ev.ifn (fun q => q hR4.er) (Ev.b2 hev5 (Ev.ifn (fun q => q hO5.rl.er) (Ev.b1 hset (Ev.ct hz6 (Ev.b1 n7 (Ev.b2 hev8 (Ev.ifp hF.ne (Ev.pure _)))))))))))), .inl ⟨rfl, hF⟩⟩
                · rw [if_neg (by rw [ht8]; decide)] at h
                  have g8 := hO8.ge
                  have g8' := hO8.gr
                  have l8 := hO8.la
                  rw [d7] at g8 g8' l8
                  obtain ⟨d5, hd5, _⟩ := hO5.tp
                  obtain ⟨fn, hfn, he2, _⟩ := nodeZ_some hd5
                  have hxp5 := hO5.xp
                  have hfl : fn < m8.nodes.length := by omega
                  have hset9 := setNx_ok hfl e3
                  rw [← he2] at hset9
                  have hR9 := hO8.rl.set hfl e3
                  have hpl3 : LC ([f, li] ++ [st]) m0.nodes e1 e3 (m8.nodes.set fn { m8.nodes[fn] with next := e3 }) := LC.more (l := fn) (by rw [← he2]; exact hpl) l8.y (by omega) hfl
                  obtain ⟨m9, hm9⟩ : ∃ z : PZ, z = { m8 with nodes := m8.nodes.set fn { m8.nodes[fn] with next := e3 } } := ⟨_, rfl⟩
                  have hm9n : m9.nodes = m8.nodes.set fn { m8.nodes[fn] with next := e3 } := by rw [hm9]
                  have hm9l : m9.nodes.length = m8.nodes.length := by rw [hm9n]; simp
                  rw [← hm9] at hR9 hset9
                  rw [← hm9n] at hpl3
                  obtain ⟨r, sB, hbd, h⟩ := bnd2 h
                  obtain ⟨bv, mB, hevB, hresB⟩ := body_eq hT ih hroom (.inr rfl) hR9 hbd
                  rcases hresB with ⟨rfl, hF⟩ | ⟨l, rfl, hOB⟩
                  · injection h with h; injection h with h1 h2; subst h1; subst h2
                    exact ⟨0, mB, up (Ev.ifn (fun q => q hR2.er) (Ev.b2 hev3 (Ev.b1 v1 (Ev.ifn (fun q => q hR4.er) (Ev.b2 hev5 (Ev.ifn (fun q => q hO5.rl.er) (Ev.b1 hset (Ev.ct hz6 (Ev.b1 n7 (Ev.b2 hev8 (Ev.ifn (fun q => q hO8.rl.er) (Ev.b1 hset9 (Ev.b2 hevB (Ev.ifp hF.ne (Ev.pure _))))))))))))))), .inl ⟨rfl, hF⟩⟩
                  · injection h with h; injection h with h1 h2; subst h1; subst h2
                    have gB := hOB.ge
                    have gB' := hOB.gr
                    have := OkS.fin hT hOB.rl (s := s0) (m := m0) (t := .forN q.2 q.1 [f, li, st] l) (d := ⟨8, e1, bv, 0, 0, 0, q.1, q.2⟩) (by omega) (by omega) hR0 (LS.forN (hpl3.ll (by simp)) hOB.la (by have := hOB.rl.bd hT; omega)) (by simp [T.ty])
                    exact ⟨_, _, up (Ev.ifn (fun q => q hR2.er) (Ev.b2 hev3 (Ev.b1 v1 (Ev.ifn (fun q => q hR4.er) (Ev.b2 hev5 (Ev.ifn (fun q => q hO5.rl.er) (Ev.b1 hset (Ev.ct hz6 (Ev.b1 n7 (Ev.b2 hev8 (Ev.ifn (fun q => q hO8.rl.er) (Ev.b1 hset9 (Ev.b2 hevB (Ev.ifn (fun q => q hOB.rl.er) (Ev.const this.1))))))))))))))), .inr ⟨rfl, this.2⟩⟩
    · dsimp only [cond_true] at h'
      obtain ⟨nm2, s3, hx3, h⟩ := bnd2 h'
      obtain ⟨q2, m3, hq3, hres3⟩ := nameR hT hR2 hx3
      have up : ∀ {x : Int} {m' : PZ}, Ev (fun N n => bind1 (wantZ src tIn m3) fun m4 => if m4.err ≠ 0 then some (0, m4)
          else bind2 (addZ ⟨17, 0, 0, 0, 0, 0, q.1, q.2⟩ m4) fun n1 m5 => bind2 (addZ ⟨17, 0, 0, 0, 0, 0, q2.1, q2.2⟩ m5) fun n2 m6 => bind1 (setNx n1 n2 m6) fun m7 => bind2 ((recZ src N).expr (13 - room + 1) m7) fun e m8 => if m8.err ≠ 0 then some (0, m8)
          else bind2 ((recZ src N).body (13 - room) 4 m8) fun b m9 => if m9.err ≠ 0 then some (0, m9) else addZ ⟨9, n1, e, b, 0, 0, [], q.2⟩ m9) (x, m') → Ev (fun N _ => (recZ src N).forS (13 - room) m0) (x, m') := fun hE =>
        Ev.up (f := fun N n => forZ src (recZ src N) (13 - room) m0) (Ev.grd (by omega) (Ev.b1 hnx (Ev.b2c hq (Ev.ifn (fun q => q hR1.er) (Ev.ct hz (Ev.b1 n1 (Ev.b2c hq3 hE))))))) (fun N => for_up src N _ _)
      rcases hres3 with ⟨rfl, hF⟩ | ⟨rfl, hR3, i3, d3, _⟩
      · injection h with h; injection h with h1 h2; subst h1; subst h2
        obtain ⟨m4, w1, w2, _⟩ := hF.want tIn
        exact ⟨0, m4, up (Ev.b1 w1 (Ev.ifp w2.ne (Ev.pure _))), .inl ⟨rfl, w2⟩⟩
      · dsimp only at h
        obtain ⟨ok4, s4, hx4, h⟩ := bnd2 h
        obtain ⟨m4, w1, w2⟩ := expR hT hR3 (K := 14) (by omega) (t := tIn) rfl hx4
        rcases w2 with ⟨rfl, hF⟩ | ⟨rfl, hR4, i4, d4, _⟩
        · injection h with h; injection h with h1 h2; subst h1; subst h2
          exact ⟨0, m4, up (Ev.b1 w1 (Ev.ifp hF.ne (Ev.pure _))), .inl ⟨rfl, hF⟩⟩
        · dsimp only [cond_true] at h
          have d40 : m4.nodes = m0.nodes := by rw [d4, d3, d2, d1, hn]
          obtain ⟨m7, hadd, hR7, hll, hlen⟩ := two_eq hT ih (q := q) (q2 := q2) hR4 (by rw [d40]; omega)
          rw [d40] at hll hlen hadd
          obtain ⟨v, s5, hv, h⟩ := bnd2 h
          obtain ⟨vv, m8, hev, hres⟩ := ex1 hT ih hroom hR7 hv
          rcases hres with ⟨ht, hF⟩ | ⟨ht, hO⟩
          · rw [if_pos ht] at h
            injection h with h; injection h with h1 h2; subst h1; subst h2
            exact ⟨0, m8, up (Ev.b1 w1 (Ev.ifn (fun q => q hR4.er) (hadd (Ev.b2 hev (Ev.ifp hF.ne (Ev.pure _)))))), .inl ⟨rfl, hF⟩⟩
          · rw [if_neg (by rw [ht]; decide)] at h
            have g1 := hO.ge
            have g2 := hO.gr
            rw [hlen] at g1 g2
            obtain ⟨r, s9, hbd, h⟩ := bnd2 h
            obtain ⟨bv, m9, hev9, hres9⟩ := body_eq hT ih hroom (.inr rfl) hO.rl hbd
            rcases hres9 with ⟨rfl, hF⟩ | ⟨l, rfl, hO9⟩
            · injection h with h; injection h with h1 h2; subst h1; subst h2
              exact ⟨0, m9, up (Ev.b1 w1 (Ev.ifn (fun q => q hR4.er) (hadd (Ev.b2 hev (Ev.ifn (fun q => q hO.rl.er) (Ev.b2 hev9 (Ev.ifp hF.ne (Ev.pure _)))))))), .inl ⟨rfl, hF⟩⟩
            · injection h with h; injection h with h1 h2; subst h1; subst h2
              have g9 := hO9.ge
              have g9' := hO9.gr
              have := OkS.fin hT hO9.rl (s := s0) (m := m0) (t := .forIn [.name q.2 q.1, .name q2.2 q2.1] v l) (d := ⟨9, m0.nodes.length, vv, bv, 0, 0, [], q.2⟩) (by omega) (by omega) hR0 (LS.forIn hll hO.la hO9.la (by have := hO9.rl.bd hT; omega)) (by simp [T.ty])
              exact ⟨_, _, up (Ev.b1 w1 (Ev.ifn (fun q => q hR4.er) (hadd (Ev.b2 hev (Ev.ifn (fun q => q hO.rl.er) (Ev.b2 hev9 (Ev.ifn (fun q => q hO9.rl.er) (Ev.const this.1)))))))), .inr ⟨rfl, this.2⟩⟩
end
end Go.Zm
