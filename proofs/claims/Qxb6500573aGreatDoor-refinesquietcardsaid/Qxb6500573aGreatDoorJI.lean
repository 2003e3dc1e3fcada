/- Plain: the fourth law: what the tower keeps between runs. -/
import Derived.Test.Qxb6500573aGreatDoorSim37
import Derived.Test.Qxb6500573aGreatDoorJC
import Derived.Test.Qxb6500573aGreatDoorJF
import Derived.Test.Qxb6500573aGreatDoorJH
import Derived.Test.Qxb6500573aGreatDoorCK8
namespace Go.Sm
open Go Go.Sl Go.Wl Go.Zm Go.Nm Go.Proofs
set_option linter.unusedVariables false
/-- What the front end makes of a text in form, and what it leaves. -/
theorem front_link2 {src : List UInt8} {ns : List Nd} {root : Int} {L : List Fs} (hns : ns.length ≤ 1000000) (g1 : ∀ s : CS, s.fs.length = 13 → ∃ s', compM 100000 ns root s = some s' ∧ Rep s' L) (hR : Go.Wl.Rows (L.length : Int) (L.map rw)) (h6 : ∀ toks0 nodes0, ∃ toks, parseS 100000 src toks0 nodes0 = some (.ok ns root, toks, ns)) : ∃ im, im.length ≤ 32768 ∧ decM im ⟨[], [], [], []⟩ = some (pgOf L) ∧ ∀ c : CSt, c.s.fs.length = 13 → ∃ toks s1, imgM LD src c = some (.ok im, ⟨toks, ns, s1, layM s1⟩) ∧ Rep s1 L ∧ parseS 100000 src c.toks c.nodes = some (.ok ns root, toks, ns) := by
  have him : ∀ s : CS, Rep s L → ∃ im, imageM s = some im ∧ im.length ≤ 32768 ∧ decM im ⟨[], [], [], []⟩ = some (pgR (L.map rw)) ∧ im = ([u8 (L.length : Int)] ++ L.flatMap layFn).map toB := fun s hs => by
    have htk : s.fs.take s.np.toNat = L := by
      rw [hs.np, Int.toNat_natCast]
      apply List.ext_getElem?
      intro i
      by_cases hi : i < L.length
      · rw [List.getElem?_take_of_lt hi]; exact hs.tk i hi
      · rw [List.getElem?_eq_none (by simp; omega), List.getElem?_eq_none (by omega)]
    obtain ⟨im, i1, i2, i3⟩ := image_rows hR hs.np (by rw [htk]) hs.len
    refine ⟨im, i1, i2, i3, ?_⟩
    unfold imageM at i1
    split at i1
    · injection i1 with i1
      rw [← i1]
      unfold layM
      rw [htk, hs.np]
    · cases i1
  obtain ⟨s0, _, hs0⟩ := g1 cst0.s (by rfl)
  obtain ⟨im, i1, i2, i3, i4⟩ := him s0 hs0
  refine ⟨im, i2, by rw [pgOf_R]; exact i3, fun c hc => ?_⟩
  obtain ⟨toks, hp⟩ := h6 c.toks c.nodes
  obtain ⟨s1, w1, w2⟩ := g1 c.s hc
  obtain ⟨im2, k1, k2, k3, k4⟩ := him s1 w2
  have : im2 = im := by rw [k4, i4]
  subst this
  refine ⟨toks, s1, ?_, w2, hp⟩
  unfold imgM
  rw [hp]
  show (if ns.length ≤ 1000000 then _ else _) = _
  rw [if_pos (by omega)]
  show bind1 (compM 100000 ns root c.s) _ = _
  rw [w1]
  show bind1 (imageM s1) _ = _
  rw [k1]
  rfl
/-- The tables behind a run. -/
theorem run_tsx {ns : List Nd} {root : Int} {n al hi : Nat} {L : List Fs} {PT : Nat → Nat → Ty} {A : Int} (hA : A ≤ 9223372036854775807) (h4 : ns[0]? = some nd0) (h2 : ns.length = hi + 1) (h3 : hi ≤ 300) (h5 : Nn ns (.bl 0 false al) 0 hi root 0 n) (hP : PgOk (pgOf L) PT) (g5 : ∀ f, L[0]? = some f → f.nparams = 0 ∧ f.ups = []) (g6 : progS ns L root) {r : An} {cn : Int} {m' : VM} (hr : coD LK.n LK.k LK.f 6 0 V.nil V.nil 0 (ld1 (pgOf L) ts0 A) = some (r, cn, m')) (hO : CoOut (pgOf L) PT 0 (ld1 (pgOf L) ts0 A) r cn m') : ∃ rs, TsX m'.vs.tabs rs := by
  obtain ⟨K, hKe⟩ : ∃ K : Cn, K = ⟨ns, L, root, pgOf L, PT, 7 * ns.length + 10⟩ := ⟨_, rfl⟩
  have hK : Kok K := by
    subst hKe
    exact ⟨rfl, hP, rfl, by dsimp only; omega, h4⟩
  have hmf : ∃ d f, FnD K 0 [] 0 d f [] := by
    subst hKe
    exact main_fn h4 h2 rfl h5 g6 g5
  have hmw : MW K.g K.PT (ld1 K.g ts0 A) := by
    subst hKe
    exact ld_mw hP hA
  have R0 := Rl0 hmf (A := A)
  have hr' : coD LK.n LK.k LK.f 6 0 V.nil V.nil 0 (ld1 K.g ts0 A) = some (r, cn, m') := by
    subst hKe
    exact hr
  obtain ⟨m1, s1, w, x1, x2, x3⟩ := start hK R0 hmw (t := thNew 0) rfl rfl (a := V.nil) VV.nil (A := []) (fun i => by cases i <;> rfl)
  have hgs : ∃ j, GS j (.run [] 0 0 m1) (.fin r cn m') := by
    rcases coD_flat 6 hr' with ⟨k3, k21⟩ | ⟨m2, y1, y2⟩
    · rcases hO with q | ⟨q, _⟩
      · omega
      · omega
    · rw [x1] at y1
      injection y1 with y1
      subst y1
      obtain ⟨z1, z2⟩ := y2 []
      by_cases k3 : r.k = 3
      · exact z1 k3
      · exact z2 k3 _ rfl
  obtain ⟨j, hj⟩ := hgs
  have hJ0 : Jc K.g K.PT (.run [] 0 0 m1) := entry_J hmw x1 VV.nil VV.nil ⟨Int.le_refl _, Int.natCast_nonneg _⟩ rfl
  exact (sims hK j w s1 _ x3 hJ0 hj).2
theorem tsc_of {ts : List Tb} {rs : List Row} {nt nc nh : Nat} (hx : TsX ts rs) (hok : TsOk nt nc nh ts) : TsC ts := fun t ht => by
  have h1 := hx.ok t ht
  refine ⟨h1, hx.nn _ (by rw [hx.eq]; exact List.mem_map.2 ⟨t, ht, rfl⟩), fun e he => ?_⟩
  obtain ⟨v1, v2⟩ := (hok t ht).ord e he
  have hk := h1.ix.kk e.1 (List.mem_map.2 ⟨e, he, rfl⟩)
  refine ⟨v1.wl, v2.wl, decide_eq_false fun q => hk.nz ?_⟩
  rw [q]
  rfl
/-- What holds between runs. -/
def JR (c : CSt) (m : VM) (cn : Int) : Prop := JJ c m ∧ SyC c.toks c.nodes ∧ CrC c ∧ VCk m ∧ TsC m.vs.tabs ∧ 0 ≤ cn ∧ cn < 5
theorem syc0 : SyC [] [] := ⟨by simp, by simp, fun i t h => (by cases h), fun i t h => (by cases h)⟩
theorem jr0 : JR cst0 m00 0 := by
  refine ⟨jj0, syc0, ⟨by decide, by kernel_rfl, by decide, fun x f hx hf => ?_, fun _ => 0, fun _ _ => 0, rfl, rfl, fun x f hx hf => ?_⟩, ⟨by decide, by decide, fun _ => ⟨⟨rfl, rfl, rfl, rfl⟩, rfl, rfl, rfl, rfl⟩, fun q => absurd q (by decide)⟩, fun t ht => (by cases ht), by decide, by decide⟩
  · have : cst0.s.np = 0 := rfl
    omega
  · have : cst0.s.np = 0 := rfl
    omega
theorem rlaw : RLaw JR fnK where
  init := jr0
  step := fun c m cn src A hJ hA => by
    obtain ⟨hJJ, hS, hC, hV, hT, hcn⟩ := hJ
    rcases front_nodes src with ⟨e, a, h1, h2, h3, h4⟩ | ⟨hl, ns, root, n, al, hi, h1, h2, h3, h4, h5, h6⟩
    · have hfn : fnK src A = ⟨e, a, 0, [], []⟩ := fn_eq (runs_err (fun c hc => by
        obtain ⟨toks, ns, hp⟩ := h4 c.toks c.nodes
        refine ⟨{ c with toks := toks, nodes := ns }, ?_, hc⟩
        unfold imgM
        rw [hp]
        rfl) A cst0 m00 jj0)
      obtain ⟨toks, ns, hp⟩ := h4 c.toks c.nodes
      refine ⟨LK, { c with toks := toks, nodes := ns }, m, cn, ?_, ⟨hJJ.1, hJJ.2⟩, parse_syc hp hS, ⟨hC.np, hC.h13, hC.bl, hC.fn, hC.sz⟩, hV, hT, hcn⟩
      unfold runX
      have him : imgM LK.d src c = some (.err e a, { c with toks := toks, nodes := ns }) := by
        show imgM LD src c = _
        unfold imgM
        rw [hp]
        rfl
      rw [him, bind1_some, hfn]
    · obtain ⟨L, g1, g2, g3, g4, g5, g6⟩ := comp_all h4 h2 h3 h1 h5
      obtain ⟨⟨PT, hP⟩, hR⟩ := pg_ok (L := L) (by omega) g3 g4 g5
      obtain ⟨im, i1, i2, i3⟩ := front_link2 (src := src) (by omega) g1 hR h6
      obtain ⟨r, cn', m', hr, hO⟩ := prog_run hP hA.2
      have hfn : fnK src A = ansOf r cn' m' := fn_eq (runs_ok hP i1 i2 (fun c hc => by
        obtain ⟨toks, s1, w1, w2, _⟩ := i3 c hc
        exact ⟨_, w1, w2.len⟩) hA.2 hr hO cst0 m00 jj0)
      obtain ⟨toks, s1, w1, w2, w3⟩ := i3 c hJJ.1
      obtain ⟨rs, hx⟩ := run_tsx hA.2 h4 h2 h3 h5 hP g5 g6 hr hO
      have hfu : (ld1 (pgOf L) ts0 A).vs.fuel = if 0 < A then A else 0 := rfl
      have hA2 : A ≤ 9223372036854775807 := hA.2
      have hF := ((c_coD LK.n LK.k LK.f 6 0 V.nil V.nil) 0 _ _ _ _ hr).1 (by unfold FB; rw [hfu]; split <;> omega)
      have hnn := hF.1.nn
      refine ⟨LK, ⟨toks, ns, s1, layM s1⟩, m', cn', ?_, ⟨w2.len, ?_⟩, parse_syc w3 hS, crc_ok h4 h2 h3 h5 g3 g2 g6 g4 g5 w2, ⟨hnn, ?_, fun q => ?_, fun q => ?_⟩, ?_, ?_⟩
      · have hload : loadM im A m = some (ld1 (pgOf L) ts0 A) := by
          unfold loadM
          rw [if_pos hJJ.2, if_pos i1, i2, bind1_some, ts0_eq, bind1_some]
        have hend : coEnd (r, cn', m') = some (ansOf r cn' m', cn', m') := by
          unfold coEnd ansOf
          dsimp only
          rcases hO with q | ⟨q1, q2, q3, _⟩
          · rw [if_pos q.1, if_pos q.1]
          · have a1 := q2.mi.tn
            have a2 := q2.mi.cn
            have a3 := q2.mi.hn
            have k3 : ¬ r.k = 3 := by omega
            rw [if_neg k3, if_pos (okV_of q3 (by omega) (by omega) (by omega)), if_neg k3]
        unfold runX
        show bind1 (imgM LD src c) _ = _
        rw [w1, bind1_some]
        show bind1 (coRunK LK im A m) _ = _
        unfold coRunK
        rw [hload, bind1_some, hr, bind1_some, hend, bind1_some, hfn]
      · rcases hO with q | ⟨_, q2, _⟩
        · exact q.2.2.1
        · have := q2.mi.tn
          omega
      · rcases hO with ⟨_, _, _, _, _, q⟩ | ⟨_, q, _⟩
        · exact q.2.1
        · exact q.mi.ou
      · rcases hO with ⟨_, _, _, _, _, ⟨_, z1, z2, z3, z4, z5⟩, _⟩ | ⟨_, q2, _⟩
        · rw [z1, z2, z3, z4, z5]
          exact ⟨⟨rfl, rfl, rfl, rfl⟩, rfl, rfl, rfl, rfl⟩
        · exact absurd q2.mi.en q
      · rcases hO with ⟨_, _, _, _, _, ⟨z0, _⟩, _⟩ | ⟨_, q2, _, _, ⟨t, y1, y2⟩, _⟩
        · exact absurd q z0
        · exact vcl_ok g3 g4 q2 ⟨t, y1, by rcases y2 with ⟨_, y⟩ | y; exact absurd rfl y; exact y⟩
      · rcases hO with ⟨_, _, _, _, _, _, _, nt, nc, nh, q⟩ | ⟨_, q2, _⟩
        · exact tsc_of hx q
        · exact tsc_of hx q2.mi.tb
      · rcases hO with ⟨_, _, _, _, q, _⟩ | ⟨_, _, _, _, _, q6, q7⟩
        · omega
        · have := sx_le (nf m') (th := 0) (by decide)
          omega
  chk := fun c m cn h => h.2
  eq := fun src A hA => run_eq src hA.2
end Go.Sm
