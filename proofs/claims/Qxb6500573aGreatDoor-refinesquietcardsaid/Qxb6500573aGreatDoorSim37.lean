/- Plain: the interpreter answers as the tower does. -/
import Derived.Test.Qxb6500573aGreatDoorSim36
import Derived.Test.Qxb6500573aGreatDoorQS
import Derived.Test.Qxb6500573aGreatDoorZS
import Derived.Test.Qxb6500573aGreatDoorCMK
namespace Go.Sm
open Go Go.Sl Go.Wl Go.Nm Go.Zm Go.Proofs
set_option linter.unusedVariables false
theorem MS.loop {s s' : RnM} (h : MS s s') (hd : s'.done = true) : ∃ N0, ∀ N, N0 ≤ N → rloop N s = some s' := by
  induction h with
  | refl s =>
    refine ⟨1, fun N hN => ?_⟩
    obtain ⟨k, rfl⟩ : ∃ k, N = k + 1 := ⟨N - 1, by omega⟩
    unfold rloop
    rw [hd]
    rfl
  | @step s s1 s2 h0 h1 h2 ih =>
    obtain ⟨N0, hN⟩ := ih hd
    refine ⟨N0 + 1, fun N hN2 => ?_⟩
    obtain ⟨k, rfl⟩ : ∃ k, N = k + 1 := ⟨N - 1, by omega⟩
    unfold rloop
    rw [h0, h1]
    show rloop k s1 = _
    exact hN k (by omega)
theorem blt_x : ∀ (n j : Nat) (ts ts2 : List Tb), TsX ts (biL j) → TsOk 1 1 1 ts → ts.length = 1 → j + n ≤ 11 → bltL n (j + 1) ts = some ts2 → TsX ts2 (biL (j + n))
  | 0, j, ts, ts2, h, _, hl, _, hb => by injection hb with hb; subst hb; exact h
  | n + 1, j, ts, ts2, h, hok, hl, hj2, hb => by
    unfold bltL at hb
    obtain ⟨ts1, e, h1, hb⟩ := bnd2 hb
    have hk : VV 1 1 1 ⟨3, 0, builtinName ((j + 1 : Nat) : Int)⟩ := VV.str (by have := bname12 ((j + 1 : Nat) : Int); omega)
    have hv : VV 1 1 1 ⟨6, ((j + 1 : Nat) : Int), []⟩ := ⟨by simp [well]; omega, by simp only []; omega, fun q => absurd q (by simp), fun q => absurd q (by simp), fun q => absurd q (by simp), fun q => absurd q (by simp)⟩
    obtain ⟨ts1', e', g1, g2, g3, _⟩ := setM_ok hok (i := 0) (by omega) hk hv
    rw [h1] at g1
    injection g1 with g1
    injection g1 with g1 _
    subst g1
    rw [if_pos (by omega)] at hb
    obtain ⟨w1, w2⟩ := set_all h (j := 0) (by omega) hk hv h1
    have e2 : biL (j + 1) = (setW (biL j) 0 ⟨3, 0, builtinName ((j + 1 : Nat) : Int)⟩ ⟨6, ((j + 1 : Nat) : Int), []⟩).1 := rfl
    rw [← e2] at w2
    have := blt_x n (j + 1) ts1 ts2 w2 g2 (by omega) (by omega) hb
    rw [show j + (n + 1) = j + 1 + n from by omega]
    exact this
theorem ts0_x : TsX ts0 (biL 11) := blt_x 11 0 [Tb.empty] ts0 ⟨rfl, (fun t ht => by rw [List.mem_singleton] at ht; subst ht; exact TbX.empty), (fun r hr => by have hr : r ∈ [[]] := hr; rw [List.mem_singleton] at hr; subst hr; intro e he; cases he)⟩ (fun t ht => by rw [List.mem_singleton] at ht; subst ht; exact TbOk.empty) rfl (by decide) ts0_eq
/-- Both at the start. -/
theorem Rl0 {K : Cn} (hm : ∃ d f, FnD K 0 [] 0 d f []) {A : Int} : Rl K { rn0 K.ns K.root A with ths := [⟨1, 0, 0, [], []⟩] } (ld1 K.g ts0 A) 0 [] 0 (fun _ => none) (fun _ => []) := by
  obtain ⟨d, f, hD⟩ := hm
  refine ⟨⟨rfl, rfl⟩, rfl, rfl, ⟨rfl, by show 0 < 1; decide, by show 1 ≤ 5; decide⟩, rfl, ⟨rfl, (fun k u h => by simp at h)⟩, ⟨by simp, (fun u hu => by cases hu)⟩, rfl, rfl, rfl, ts0_x, (fun i v h => by cases h), (fun i pl h => by cases h), (fun i j pl h => by cases h), (fun i u a h => by cases h), ⟨rfl, fun j mc cl h1 h2 => ?_⟩, fun u t ht => ?_⟩
  · cases j with
    | succ j => cases h1
    | zero =>
      injection h1 with h1
      injection h2 with h2
      subst h1 h2
      exact ⟨(fun i hi => by cases hi), 0, 0, [], d, f, [], rfl, rfl, hD, fun name hn => ⟨fun y hy => hy.elim, fun _ => .nil⟩⟩
  · cases u with
    | succ u => cases ht
    | zero =>
      injection ht with ht
      subst ht
      exact ⟨⟨1, 0, 0, [], []⟩, rfl, rfl, (fun _ => rfl), rfl, (fun f hf => by cases hf), .nil⟩
theorem main_fn {K : Cn} {hi n al : Nat} (h0 : K.ns[0]? = some nd0) (hl : K.ns.length = hi + 1) (hb : K.HB = 7 * K.ns.length + 10) (h : Nn K.ns (.bl 0 false al) 0 hi K.root 0 n) (hp : progS K.ns K.P K.root) (hnp : ∀ f, K.P[0]? = some f → f.nparams = 0 ∧ f.ups = []) : ∃ d f, FnD K 0 [] 0 d f [] := by
  obtain ⟨m, f, p1, g1, g2, ⟨e, p0, L1, b1, b2, b3⟩, g4, g5, g6, _⟩ := hp
  have hS := sp_all (P := K.P) h0 h m e 0 [] [] none 0 p0 L1 b1
  refine ⟨nd0, f, ?_, g1, ⟨1, ?_⟩, ?_, ⟨by simp, fun s hs => by cases hs⟩, ⟨0, hi, p0, p1, L1, by omega, ?_, b3, g4, g5, g6⟩⟩
  · rw [show (0 : Int) = ((0 : Nat) : Int) from rfl, nd_nat]; exact h0
  · unfold parS
    rw [if_pos (show nd0.a = 0 from rfl)]
  · rw [(hnp f g1).1]
    rfl
  · rw [if_pos rfl]
    exact hS
/-- What the front end makes of a text in form. -/
theorem front_link {src : List UInt8} {ns : List Nd} {root : Int} {L : List Fs} (hns : ns.length ≤ 1000000) (g1 : ∀ s : CS, s.fs.length = 13 → ∃ s', compM 100000 ns root s = some s' ∧ Rep s' L) (hR : Go.Wl.Rows (L.length : Int) (L.map rw)) (h6 : ∀ toks0 nodes0, ∃ toks, parseS 100000 src toks0 nodes0 = some (.ok ns root, toks, ns)) : ∃ im, im.length ≤ 32768 ∧ decM im ⟨[], [], [], []⟩ = some (pgOf L) ∧ ∀ c : CSt, c.s.fs.length = 13 → ∃ c', imgM LD src c = some (.ok im, c') ∧ c'.s.fs.length = 13 := by
  have him : ∀ s : CS, Rep s L → ∃ im, imageM s = some im ∧ im.length ≤ 32768 ∧ decM im ⟨[], [], [], []⟩ = some (pgR (L.map rw)) ∧ im = ([u8 (L.length : Int)] ++ L.flatMap layFn).map toB := fun s hs => by
    have htk : s.fs.take s.np.toNat = L := by
      rw [hs.np, Int.toNat_natCast]
      apply List.ext_getElem?
      intro i
      by_cases hi : i < L.length
      · rw [List.getElem?_take_of_lt hi]; exact hs.tk i hi
      · rw [List.getElem?_eq_none (by simp; omega), List.getElem?_eq_none (by omega)]
    obtain ⟨im, i1, i2, i3⟩ := image_rows hR hs.np (by rw [htk]) hs.len
    refine ⟨im, i1, i2, i3, ?_⟩
    unfold imageM at i1
    split at i1
    · injection i1 with i1
      rw [← i1]
      unfold layM
      rw [htk, hs.np]
    · cases i1
  obtain ⟨s0, _, hs0⟩ := g1 cst0.s (by rfl)
  obtain ⟨im, i1, i2, i3, i4⟩ := him s0 hs0
  refine ⟨im, i2, by rw [pgOf_R]; exact i3, fun c hc => ?_⟩
  obtain ⟨toks, hp⟩ := h6 c.toks c.nodes
  obtain ⟨s1, w1, w2⟩ := g1 c.s hc
  obtain ⟨im2, k1, k2, k3, k4⟩ := him s1 w2
  have : im2 = im := by rw [k4, i4]
  subst this
  refine ⟨⟨toks, ns, s1, layM s1⟩, ?_, w2.len⟩
  unfold imgM
  rw [hp]
  show (if ns.length ≤ 1000000 then _ else _) = _
  rw [if_pos (by omega)]
  show bind1 (compM 100000 ns root c.s) _ = _
  rw [w1]
  show bind1 (imageM s1) _ = _
  rw [k1]
  rfl
/-- The interpreter answers as the tower does. -/
theorem run_eq (src : List UInt8) {A : Int} (hA : A ≤ 9223372036854775807) : ∃ N, runZ N src A = some (fnK src A) := by
  rcases front_nodes src with ⟨e, a, h1, h2, h3, h4⟩ | ⟨hl, ns, root, n, al, hi, h1, h2, h3, h4, h5, h6⟩
  · obtain ⟨toks, ns, hp⟩ := h4 [] []
    obtain ⟨N0, hN⟩ := parse_eq hp
    have hz := hN N0 (Nat.le_refl _)
    refine ⟨N0, ?_⟩
    have hfn : fnK src A = ⟨e, a, 0, [], []⟩ := fn_eq (runs_err (fun c hc => by
      obtain ⟨toks, ns, hp⟩ := h4 c.toks c.nodes
      refine ⟨{ c with toks := toks, nodes := ns }, ?_, hc⟩
      unfold imgM
      rw [hp]
      rfl) A cst0 m00 jj0)
    rw [hfn]
    unfold runZ
    rw [hz]
    show (if e ≠ 0 then _ else _) = _
    rw [if_pos (by omega)]
    rfl
  · obtain ⟨toks, hp⟩ := h6 [] []
    obtain ⟨N0, hN⟩ := parse_eq hp
    obtain ⟨L, g1, g2, g3, g4, g5, g6⟩ := comp_all h4 h2 h3 h1 h5
    obtain ⟨⟨PT, hP⟩, hR⟩ := pg_ok (L := L) (by omega) g3 g4 g5
    obtain ⟨im, i1, i2, i3⟩ := front_link (src := src) (by omega) g1 hR h6
    -- the tower
    obtain ⟨r, cn, m', hr, hO⟩ := prog_run hP hA
    have hfn : fnK src A = ansOf r cn m' := fn_eq (runs_ok hP i1 i2 i3 hA hr hO cst0 m00 jj0)
    -- both
    obtain ⟨K, hKe⟩ : ∃ K : Cn, K = ⟨ns, L, root, pgOf L, PT, 7 * ns.length + 10⟩ := ⟨_, rfl⟩
    have hK : Kok K := by
      subst hKe
      exact ⟨rfl, hP, rfl, by dsimp only; omega, h4⟩
    have hmf : ∃ d f, FnD K 0 [] 0 d f [] := by
      subst hKe
      exact main_fn h4 h2 rfl h5 g6 g5
    have hmw : MW K.g K.PT (ld1 K.g ts0 A) := by
      subst hKe
      exact ld_mw hP hA
    have R0 := Rl0 hmf (A := A)
    have hr' : coD LK.n LK.k LK.f 6 0 V.nil V.nil 0 (ld1 K.g ts0 A) = some (r, cn, m') := by
      subst hKe
      exact hr
    obtain ⟨m1, s1, w, x1, x2, x3⟩ := start hK R0 hmw (t := thNew 0) rfl rfl (a := V.nil) VV.nil (A := []) (fun i => by cases i <;> rfl)
    have hgs : ∃ j, GS j (.run [] 0 0 m1) (.fin r cn m') := by
      rcases coD_flat 6 hr' with ⟨k3, k21⟩ | ⟨m2, y1, y2⟩
      · rcases hO with q | ⟨q, _⟩
        · omega
        · omega
      · rw [x1] at y1
        injection y1 with y1
        subst y1
        obtain ⟨z1, z2⟩ := y2 []
        by_cases k3 : r.k = 3
        · exact z1 k3
        · exact z2 k3 _ rfl
    obtain ⟨j, hj⟩ := hgs
    have hJ0 : Jc K.g K.PT (.run [] 0 0 m1) := entry_J hmw x1 VV.nil VV.nil ⟨Int.le_refl _, Int.natCast_nonneg _⟩ rfl
    obtain ⟨⟨s', y1, y2, y3⟩, _⟩ := sims hK j w s1 _ x3 hJ0 hj
    obtain ⟨N1, hN1⟩ := y1.loop y2
    refine ⟨N0 + N1, ?_⟩
    unfold runZ
    rw [hN _ (by omega)]
    have x2' : renter 0 [] 0 (rn0 ns root A) = some s1 := by
      subst hKe
      exact x2
    show (if (0 : Int) ≠ 0 then none else bind1 (renter 0 [] 0 (rn0 ns root A)) fun m => bind1 (rloop (N0 + N1) m) fun m' => some m'.ans) = _
    rw [if_neg (by decide), x2', bind1_some, hN1 _ (by omega), bind1_some, y3, hfn]
end Go.Sm
