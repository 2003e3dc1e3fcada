/- Plain: the third law, given what the front end makes of every text. -/
import Derived.Test.Qxb6500573aGreatDoorCM
import Derived.Test.Qxb6500573aGreatDoorKA
import Derived.Test.Qxb6500573aGreatDoorBW
namespace Go.Wl
open Go Go.Sl Go.Proofs
set_option linter.unusedVariables false
set_option maxRecDepth 100000
abbrev LD : Nat := 100000
def LK : Lim := ⟨100000000000000000000000000, 100000000000000000000000000, 100000000000000000000, LD⟩
/-- What the front end makes of a text: an error and its place, or a sound program; whatever was compiled before. -/
def FrontK (src : List UInt8) : Prop :=
  (∃ e at_, isSynE e = true ∧ (e = 1 ↔ 2048 < src.length) ∧ (0 ≤ at_ ∧ at_ ≤ (src.length : Int)) ∧ ∀ c : CSt, c.s.fs.length = 13 → ∃ c', imgM LD src c = some (.err e at_, c') ∧ c'.s.fs.length = 13) ∨
  (src.length ≤ 2048 ∧ ∃ im g PT, PgOk g PT ∧ im.length ≤ 32768 ∧ decM im ⟨[], [], [], []⟩ = some g ∧ ∀ c : CSt, c.s.fs.length = 13 → ∃ c', imgM LD src c = some (.ok im, c') ∧ c'.s.fs.length = 13)
theorem blt_ok : ∀ (n j : Nat) (ts ts2 : List Tb), TsOk 1 1 1 ts → ts.length = 1 → 1 ≤ j → j + n ≤ 12 → bltL n j ts = some ts2 → TsOk 1 1 1 ts2 ∧ ts2.length = 1
  | 0, j, ts, ts2, h, hl, _, _, hb => by injection hb with hb; subst hb; exact ⟨h, hl⟩
  | n + 1, j, ts, ts2, h, hl, hj, hj2, hb => by
    unfold bltL at hb
    obtain ⟨ts1, e, h1, hb⟩ := bnd2 hb
    have hk : VV 1 1 1 ⟨3, 0, builtinName (j : Nat)⟩ := VV.str (by have := bname12 (j : Nat); omega)
    have hv : VV 1 1 1 ⟨6, (j : Nat), []⟩ := ⟨by simp [well]; omega, by simp, fun q => absurd q (by simp), fun q => absurd q (by simp), fun q => absurd q (by simp), fun q => absurd q (by simp)⟩
    obtain ⟨ts1', e', g1, g2, g3, _⟩ := setM_ok h (i := 0) (by omega) hk hv
    rw [h1] at g1
    injection g1 with g1
    injection g1 with g1 _
    subst g1
    rw [if_pos (by omega)] at hb
    exact blt_ok n (j + 1) ts1 ts2 g2 (by omega) (by omega) (by omega) hb
theorem ts0_ok : TsOk 1 1 1 ts0 ∧ ts0.length = 1 := blt_ok 11 1 [Tb.empty] ts0 (fun t ht => by rw [List.mem_singleton] at ht; subst ht; exact TbOk.empty) rfl (by decide) (by decide) ts0_eq
theorem ld_mw {g : Pg} {PT : Nat → Nat → Ty} (hg : PgOk g PT) {A : Int} (hA : A ≤ 9223372036854775807) : MW g PT (ld1 g ts0 A) := by
  obtain ⟨t1, t2⟩ := ts0_ok
  have hn := hg.n
  have hp0 : g.protos[0]? = some (g.protos[0]'(by omega)) := List.getElem?_eq_getElem (by omega)
  refine ⟨⟨hg, rfl, ?_, ?_, by show [(⟨0, 0, 0⟩ : Cl)].length ≤ 24; decide, fun j c hc => ?_, fun u hu => (by cases hu), ?_, fun j e he => ?_, by show 1 ≤ [thNew 0].length ∧ [thNew 0].length ≤ 5; decide, ?_, by show ([] : List UInt8).length ≤ 200; decide, rfl, fun j e he => ?_, ⟨fun _ => 0, rfl, rfl, fun j c hc => ?_⟩, fun u t ht => ?_⟩, fun u t ht => ?_⟩
  · show TsOk ts0.length [(⟨0, 0, 0⟩ : Cl)].length [thNew 0].length ts0
    rw [t2]; exact t1
  · show 1 ≤ ts0.length ∧ ts0.length ≤ 12
    omega
  · have hc : [(⟨0, 0, 0⟩ : Cl)][j]? = some c := hc
    have hj : j = 0 := by
      have := (List.getElem?_eq_some_iff.1 hc).1
      simp at this
      exact this
    subst hj
    injection hc with hc
    subst hc
    exact ⟨_, getI_mk (by decide) hp0, (hg.main _ hp0).symm, by decide, by show (0 : Int) + 0 ≤ _; simp⟩
  · show ([] : List Int).length ≤ _ ∧ ([] : List Ce).length ≤ ([] : List Int).length
    simp
  · have he : ([] : List Ce)[j]? = some e := he
    simp at he
  · show 0 ≤ (if 0 < A then A else 0) ∧ (if 0 < A then A else 0) ≤ 9223372036854775807
    split <;> omega
  · have he : ([] : List Ce)[j]? = some e := he
    simp at he
  · have hc : [(⟨0, 0, 0⟩ : Cl)][j]? = some c := hc
    have hj : j = 0 := by
      have := (List.getElem?_eq_some_iff.1 hc).1
      simp at this
      exact this
    subst hj
    injection hc with hc
    subst hc
    exact ⟨rfl, rfl⟩
  · have ht : [thNew 0][u]? = some t := ht
    have hu : u = 0 := by
      have := (List.getElem?_eq_some_iff.1 ht).1
      simp at this
      exact this
    subst hu
    injection ht with ht
    subst ht
    exact ⟨by decide, by show (0 : Int) < (([(⟨0, 0, 0⟩ : Cl)].length : Nat) : Int); decide⟩
  · have ht : [thNew 0][u]? = some t := ht
    have hu : u = 0 := by
      have := (List.getElem?_eq_some_iff.1 ht).1
      simp at this
      exact this
    subst hu
    injection ht with ht
    subst ht
    exact .inl ⟨rfl, rfl, rfl, rfl, by decide, by show (0 : Int) < (([(⟨0, 0, 0⟩ : Cl)].length : Nat) : Int); decide⟩
theorem okV_of {m : VM} {v : V} (h : VVm m v) (h1 : m.vs.tabs.length ≤ 1000) (h2 : m.vs.clos.length ≤ 1000) (h3 : m.vs.threads.length ≤ 1000) : okV v := by
  have hw := h.wl
  have hn := h.nn
  unfold okV
  unfold well at hw
  by_cases q3 : v.t = 3
  · rw [if_pos q3] at hw
    have := of_decide_eq_true hw
    omega
  rw [if_neg q3] at hw
  by_cases q : v.s.length ≠ 0 ∨ v.t < 0 ∨ 7 < v.t
  · rw [if_pos q] at hw; cases hw
  rw [if_neg q] at hw
  by_cases q2 : v.t = 2
  · have := (h.num q2).1
    omega
  by_cases q0 : v.t = 0
  · rw [if_pos q0] at hw
    have := of_decide_eq_true hw
    omega
  rw [if_neg q0] at hw
  by_cases q1 : v.t = 1
  · rw [if_pos q1] at hw
    have := of_decide_eq_true hw
    omega
  rw [if_neg q1] at hw
  by_cases q6 : v.t = 6
  · rw [if_pos q6] at hw
    have := of_decide_eq_true hw
    omega
  rw [if_neg q6] at hw
  rw [if_pos (by omega)] at hw
  have := of_decide_eq_true hw
  omega
theorem show_ne (v : V) : showVal v ≠ [] ∧ showVal v ≠ [45] := by
  unfold showVal
  split
  · simp
  · split <;> simp
/-- The answer of a sound program. -/
theorem prog_run {g : Pg} {PT : Nat → Nat → Ty} (hg : PgOk g PT) {A : Int} (hA : A ≤ 9223372036854775807) : ∃ r cn m', coD LK.n LK.k LK.f 6 0 V.nil V.nil 0 (ld1 g ts0 A) = some (r, cn, m') ∧ CoOut g PT 0 (ld1 g ts0 A) r cn m' := by
  have hw := ld_mw hg hA
  refine coD_ok (F := 9223372036854775807) (by decide) (by decide) (by decide) (by decide) 6 0 V.nil 0 (ld1 g ts0 A) ⟨hw, ⟨thNew 0, rfl, .inl rfl⟩, by omega, by omega⟩ rfl VV.nil ?_ (by omega)
  show (if 0 < A then A else 0) ≤ _
  split <;> omega
theorem ld_bump {g : Pg} {A : Int} (hA : 0 ≤ A) : ld1 g ts0 (A + 1) = bump (ld1 g ts0 A) := by
  unfold ld1 bump
  dsimp only
  congr 2
  split <;> split <;> omega
/-- The answer, from the driver's. -/
def ansOf (r : An) (cn : Int) (m : VM) : Ans := if r.k = 3 then ⟨r.e, m.vs.fuel, cn, m.vs.out, [45]⟩ else ⟨if r.k = 2 then 12 else 0, m.vs.fuel, cn, m.vs.out, showVal r.v⟩
def fnK (src : List UInt8) (A : Int) : Ans := ((runK LK src A cst0 m00).map (·.1)).getD ⟨0, 0, 0, [], []⟩
theorem jj0 : JJ cst0 m00 := ⟨by kernel_rfl, by decide⟩
theorem runs_err {src : List UInt8} {e at_ : Int} (h : ∀ c : CSt, c.s.fs.length = 13 → ∃ c', imgM LD src c = some (.err e at_, c') ∧ c'.s.fs.length = 13) (A : Int) (c : CSt) (m : VM) (hJ : JJ c m) : ∃ c1 m1, runK LK src A c m = some (⟨e, at_, 0, [], []⟩, c1, m1) ∧ JJ c1 m1 := by
  obtain ⟨c', h1, h2⟩ := h c hJ.1
  refine ⟨c', m, ?_, h2, hJ.2⟩
  unfold runK
  show bind1 (imgM LD src c) _ = _
  rw [h1, bind1_some]
theorem runs_ok {src : List UInt8} {im : List UInt8} {g : Pg} {PT : Nat → Nat → Ty} (hg : PgOk g PT) (hl : im.length ≤ 32768) (hd : decM im ⟨[], [], [], []⟩ = some g) (h : ∀ c : CSt, c.s.fs.length = 13 → ∃ c', imgM LD src c = some (.ok im, c') ∧ c'.s.fs.length = 13) {A : Int} (hA : A ≤ 9223372036854775807) {r : An} {cn : Int} {m' : VM} (hr : coD LK.n LK.k LK.f 6 0 V.nil V.nil 0 (ld1 g ts0 A) = some (r, cn, m')) (hO : CoOut g PT 0 (ld1 g ts0 A) r cn m') (c : CSt) (m : VM) (hJ : JJ c m) :
    ∃ c1 m1, runK LK src A c m = some (ansOf r cn m', c1, m1) ∧ JJ c1 m1 := by
  obtain ⟨c', h1, h2⟩ := h c hJ.1
  have hload : loadM im A m = some (ld1 g ts0 A) := by
    unfold loadM
    rw [if_pos hJ.2, if_pos hl, hd, bind1_some, ts0_eq, bind1_some]
  have hend : coEnd (r, cn, m') = some (ansOf r cn m', cn, m') := by
    unfold coEnd ansOf
    dsimp only
    rcases hO with q | ⟨q1, q2, q3, _⟩
    · rw [if_pos q.1, if_pos q.1]
    · have a1 := q2.mi.tn
      have a2 := q2.mi.cn
      have a3 := q2.mi.hn
      have k3 : ¬ r.k = 3 := by omega
      rw [if_neg k3, if_pos (okV_of q3 (by omega) (by omega) (by omega)), if_neg k3]
  refine ⟨c', m', ?_, h2, ?_⟩
  · unfold runK
    show bind1 (imgM LD src c) _ = _
    rw [h1, bind1_some]
    show bind1 (coRunK LK im A m) _ = _
    unfold coRunK
    rw [hload, bind1_some, hr, bind1_some, hend, bind1_some]
  · rcases hO with q | ⟨_, q2, _⟩
    · exact q.2.2.1
    · have := q2.mi.tn
      omega
theorem ans_fin {g : Pg} {PT : Nat → Nat → Ty} {A : Int} {r : An} {cn : Int} {m' : VM} (hA : A ≤ 9223372036854775807) (hr : coD LK.n LK.k LK.f 6 0 V.nil V.nil 0 (ld1 g ts0 A) = some (r, cn, m')) (hO : CoOut g PT 0 (ld1 g ts0 A) r cn m') :
    isSynE (ansOf r cn m').e = false ∧ isEndE (ansOf r cn m').e = true ∧ (ansOf r cn m').t ≠ [] ∧ (((ansOf r cn m').e = 0 ∨ (ansOf r cn m').e = 12) ↔ (ansOf r cn m').t ≠ [45]) ∧ (0 ≤ (ansOf r cn m').m ∧ (ansOf r cn m').m < 5) ∧
    (0 ≤ (ansOf r cn m').n ∧ (0 < (ansOf r cn m').n → (ansOf r cn m').n ≤ A)) ∧ ((ansOf r cn m').e = 9 → (ansOf r cn m').n = 0) ∧ (A ≤ 0 → (ansOf r cn m').s = []) := by
  have hfu : (ld1 g ts0 A).vs.fuel = if 0 < A then A else 0 := rfl
  have hF := ((c_coD LK.n LK.k LK.f 6 0 V.nil V.nil) 0 _ _ _ _ hr).1 (by unfold FB; rw [hfu]; split <;> omega)
  have h1 := hF.1.fuel
  have h2 := hF.1.nn
  have hcn : 0 ≤ cn ∧ cn ≤ 4 := by
    rcases hO with q | ⟨_, _, _, _, _, q6, q7⟩
    · exact q.2.2.2.2.1
    · have := sx_le (nf m') (th := 0) (by decide)
      omega
  have hn : 0 < m'.vs.fuel → m'.vs.fuel ≤ A := fun q => by
    rw [hfu] at h1
    split at h1 <;> omega
  have hs : A ≤ 0 → m'.vs.out = [] := fun q => by
    rcases hF.1.of with w | w
    · exact w
    · rw [hfu, if_neg (by omega)] at w
      omega
  rcases hO with ⟨k3, ke, _, k9, _⟩ | ⟨k12, _⟩
  · unfold ansOf
    rw [if_pos k3]
    dsimp only
    refine ⟨?_, ?_, by simp, ⟨fun q => by omega, fun q => absurd rfl q⟩, by omega, ⟨h2, hn⟩, k9, hs⟩
    · exact decide_eq_false (by omega)
    · exact decide_eq_true (by omega)
  · obtain ⟨s1, s2⟩ := show_ne r.v
    unfold ansOf
    rw [if_neg (by omega)]
    dsimp only
    by_cases k2 : r.k = 2
    · rw [if_pos k2]
      exact ⟨by decide, by decide, s1, ⟨fun _ => s2, fun _ => .inr rfl⟩, by omega, ⟨h2, hn⟩, fun q => by omega, hs⟩
    · rw [if_neg k2]
      exact ⟨by decide, by decide, s1, ⟨fun _ => s2, fun _ => .inl rfl⟩, by omega, ⟨h2, hn⟩, fun q => by omega, hs⟩
theorem fn_eq {src : List UInt8} {A : Int} {a : Ans} (h : ∃ c1 m1, runK LK src A cst0 m00 = some (a, c1, m1) ∧ JJ c1 m1) : fnK src A = a := by
  obtain ⟨c1, m1, h1, _⟩ := h
  unfold fnK
  rw [h1]
  rfl
/-- The plain side of the third law. -/
theorem klaw (hfr : ∀ src, FrontK src) : KLaw JJ fnK where
  init := jj0
  step := fun c m src A hJ hA => by
    rcases hfr src with ⟨e, at_, _, _, _, h⟩ | ⟨_, im, g, PT, hg, hl, hd, h⟩
    · rw [fn_eq (runs_err h A cst0 m00 jj0)]
      obtain ⟨c1, m1, q⟩ := runs_err h A c m hJ
      exact ⟨LK, c1, m1, q⟩
    · obtain ⟨r, cn, m', hr, hO⟩ := prog_run hg hA.2
      rw [fn_eq (runs_ok hg hl hd h hA.2 hr hO cst0 m00 jj0)]
      obtain ⟨c1, m1, q⟩ := runs_ok hg hl hd h hA.2 hr hO c m hJ
      exact ⟨LK, c1, m1, q⟩
  prop := fun src A hA => by
    rcases hfr src with ⟨e, at_, h1, h2, h3, h⟩ | ⟨hsl, im, g, PT, hg, hl, hd, h⟩
    · have e0 : ∀ A, fnK src A = ⟨e, at_, 0, [], []⟩ := fun A => fn_eq (runs_err h A cst0 m00 jj0)
      refine ⟨?_, fun _ => ?_, fun q => ?_, fun q => ?_⟩
      · rw [e0]; exact h2
      · rw [e0, e0]; exact ⟨rfl, h3, rfl, rfl⟩
      · rw [e0] at q
        have q : isSynE e = false := q
        rw [h1] at q; cases q
      · rw [e0] at q
        have q : isSynE e = false := q
        rw [h1] at q; cases q
    · obtain ⟨r, cn, m', hr, hO⟩ := prog_run hg hA.2
      have e1 := fn_eq (runs_ok hg hl hd h hA.2 hr hO cst0 m00 jj0)
      obtain ⟨f0, f1, f2⟩ := ans_fin hA.2 hr hO
      refine ⟨?_, fun q => ?_, fun _ => ?_, fun _ h0 h62 => ?_⟩
      · rw [e1]
        refine ⟨fun q => ?_, fun q => by omega⟩
        rw [q] at f0
        cases f0
      · rw [e1, f0] at q; cases q
      · rw [e1]; exact ⟨f1, f2⟩
      · obtain ⟨r2, cn2, m2, hr2, hO2⟩ := prog_run hg (A := A + 1) (by omega)
        have e2 := fn_eq (runs_ok hg hl hd h (by omega) hr2 hO2 cst0 m00 jj0)
        have hfu : (ld1 g ts0 A).vs.fuel = if 0 < A then A else 0 := rfl
        have hS := ((c_coD LK.n LK.k LK.f 6 0 V.nil V.nil) 0 _ _ _ _ hr).2 (by rw [hfu]; split <;> omega)
        rw [← ld_bump h0] at hS
        rw [e1, e2]
        rcases hS with ⟨k3, k9, _, hall⟩ | heq
        · obtain ⟨p1, p2⟩ := hall r2 cn2 m2 hr2
          have ho1 : (ansOf r cn m').s = m'.vs.out ∧ (ansOf r cn m').m = cn ∧ (ansOf r cn m').e = 9 := by
            unfold ansOf
            rw [if_pos k3]
            exact ⟨rfl, rfl, k9⟩
          have ho2 : (ansOf r2 cn2 m2).s = m2.vs.out ∧ (ansOf r2 cn2 m2).m = cn2 := by
            unfold ansOf
            split <;> exact ⟨rfl, rfl⟩
          refine ⟨fun _ => ?_, fun q => absurd ho1.2.2 q⟩
          rw [ho1.1, ho1.2.1, ho2.1, ho2.2]
          exact ⟨p1, p2⟩
        · rw [hr2] at heq
          injection heq with heq
          injection heq with y1 y2
          injection y2 with y2 y3
          subst y1 y2 y3
          have e3 : ansOf r2 cn2 (bump m') = ⟨(ansOf r2 cn2 m').e, (ansOf r2 cn2 m').n + 1, (ansOf r2 cn2 m').m, (ansOf r2 cn2 m').s, (ansOf r2 cn2 m').t⟩ := by
            unfold ansOf
            split <;> rfl
          rw [e3]
          exact ⟨fun _ => ⟨List.prefix_refl _, Int.le_refl _⟩, fun _ => rfl⟩
end Go.Wl
