/- Plain: a sentence run, put together. -/
import Derived.Test.Qxb6500573aGreatDoorBV
namespace Go.Wl
open Go Go.Sl Go.Proofs
set_option linter.unusedVariables false
def layFnR (f : Rw) : List Int := [u8 f.np, u8 f.ns, u8 f.ups.length] ++ f.ups.flatMap layU ++ p16 f.ks.length ++ f.ks.flatMap layC ++ p16 f.code.length ++ f.code.flatMap layI
theorem layFn_R (f : Fs) : layFn f = layFnR (rw f) := rfl
structure okR (f : Rw) : Prop where
  np : 0 ≤ f.np ∧ f.np ≤ 3 ∧ f.np ≤ f.ns ∧ f.ns ≤ 12
  ul : f.ups.length ≤ 255
  us : ∀ d, d ∈ f.ups → (0 ≤ d.1 ∧ d.1 ≤ 1) ∧ 0 ≤ d.2 ∧ d.2 < 256
  kl : f.ks.length < 65536
  ks : ∀ v, v ∈ f.ks → okC v
  cl : f.code.length < 65536
  cs : ∀ d, d ∈ f.code → (0 ≤ d.1 ∧ d.1 < 256) ∧ 0 ≤ d.2 ∧ d.2 < 65536
theorem okF_R {f : Fs} (h : okR (rw f)) : okF f := ⟨h.np, h.ul, h.us, h.kl, h.ks, h.cl, h.cs⟩
def rng8 (b : Int) : Prop := 0 ≤ b ∧ b < 256
theorem u8_rng (n : Int) : rng8 (u8 n) := by rw [u8_eq]; unfold rng8; omega
theorem layC_rng (v : V) : ∀ b, b ∈ layC v → rng8 b := by
  intro b hb
  unfold layC at hb
  split at hb
  · rcases List.mem_cons.1 hb with rfl | hb
    · unfold rng8; omega
    · obtain ⟨i, _, rfl⟩ := List.mem_map.1 hb
      exact u8_rng _
  · rcases List.mem_cons.1 hb with rfl | hb
    · unfold rng8; omega
    · rcases List.mem_cons.1 hb with rfl | hb
      · exact u8_rng _
      · obtain ⟨c, _, rfl⟩ := List.mem_map.1 hb
        have := UInt8.toNat_lt c
        unfold rng8; omega
theorem p16_rng (n : Int) : ∀ b, b ∈ p16 n → rng8 b := by
  intro b hb
  unfold p16 at hb
  rcases List.mem_cons.1 hb with rfl | hb
  · exact u8_rng _
  · rw [List.mem_singleton] at hb
    subst hb
    exact u8_rng _
theorem layFnR_rng {f : Rw} (h : okR f) : ∀ b, b ∈ layFnR f → rng8 b := by
  intro b hb
  unfold layFnR at hb
  simp only [List.mem_append] at hb
  rcases hb with ((((hb | hb) | hb) | hb) | hb) | hb
  · rcases List.mem_cons.1 hb with rfl | hb
    · exact u8_rng _
    · rcases List.mem_cons.1 hb with rfl | hb
      · exact u8_rng _
      · rw [List.mem_singleton] at hb
        subst hb
        exact u8_rng _
  · obtain ⟨d, hd, hb⟩ := List.mem_flatMap.1 hb
    have := h.us d hd
    unfold layU at hb
    rcases List.mem_cons.1 hb with rfl | hb
    · unfold rng8; omega
    · rw [List.mem_singleton] at hb
      subst hb
      unfold rng8; omega
  · exact p16_rng _ b hb
  · obtain ⟨v, _, hb⟩ := List.mem_flatMap.1 hb
    exact layC_rng v b hb
  · exact p16_rng _ b hb
  · obtain ⟨d, hd, hb⟩ := List.mem_flatMap.1 hb
    have := h.cs d hd
    unfold layI at hb
    rcases List.mem_cons.1 hb with rfl | hb
    · unfold rng8; omega
    · rcases List.mem_cons.1 hb with rfl | hb
      · exact u8_rng _
      · rw [List.mem_singleton] at hb
        subst hb
        exact u8_rng _
/-- What is laid for these rows. -/
structure Rows (np : Int) (rows : List Rw) : Prop where
  n : 1 ≤ np ∧ np ≤ 13
  l : (rows.length : Int) = np
  ok : ∀ r, r ∈ rows → okR r
  pg : okPg (pgR rows) = true
  z : (rows.flatMap layFnR).length + 1 ≤ 32768
theorem image_rows {np : Int} {rows : List Rw} (hR : Rows np rows) {s : CS} (h1 : s.np = np) (h2 : (s.fs.take s.np.toNat).map rw = rows) (h3 : s.fs.length = 13) : ∃ im, imageM s = some im ∧ im.length ≤ 32768 ∧ decM im ⟨[], [], [], []⟩ = some (pgR rows) := by
  have hn := hR.n
  have hlay : layM s = [u8 s.np] ++ rows.flatMap layFnR := by
    unfold layM
    rw [← h2, List.flatMap_map]
    rfl
  have hlen : (layM s).length ≤ 32768 := by rw [hlay]; have := hR.z; simp only [List.length_append, List.length_cons, List.length_nil]; omega
  have hokF : ∀ f, f ∈ s.fs.take s.np.toNat → okF f := fun f hf => okF_R (hR.ok _ (by rw [← h2]; exact List.mem_map_of_mem hf))
  refine ⟨(layM s).map toB, ?_, by rw [List.length_map]; exact hlen, ?_⟩
  · have hA : (s.fs.take s.np.toNat).all layOk = true := by
      rw [List.all_eq_true]
      intro f hf
      have ho := hokF f hf
      unfold layOk
      rw [Bool.and_eq_true]
      refine ⟨decide_eq_true (by have := ho.ul; have := ho.kl; have := ho.cl; omega), ?_⟩
      rw [List.all_eq_true]
      intro v hv
      refine decide_eq_true ?_
      rcases ho.ks v hv with ⟨_, e, _⟩ | ⟨_, _, e⟩
      · rw [e]; decide
      · omega
    have hB : (layM s).all (fun b => decide (0 ≤ b ∧ b < 256)) = true := by
      rw [List.all_eq_true]
      intro b hb
      refine decide_eq_true ?_
      rw [hlay] at hb
      rcases List.mem_append.1 hb with hb | hb
      · rw [List.mem_singleton] at hb
        subst hb
        exact u8_rng _
      · obtain ⟨r, hr, hb⟩ := List.mem_flatMap.1 hb
        exact layFnR_rng (hR.ok r hr) b hb
    unfold imageM
    rw [if_pos ⟨by omega, hA, hB⟩]
  · rw [dec_lay (by omega) (by rw [h3]; omega) hokF (by rw [pgOf_R, h2]; exact hR.pg) (by omega), pgOf_R, h2]
def ts0 : List Tb := (bltL 11 1 [Tb.empty]).getD []
theorem ts0_eq : bltL 11 1 [Tb.empty] = some ts0 := by kernel_rfl
def JJ (c : CSt) (m : VM) : Prop := c.s.fs.length = 13 ∧ m.vs.tabs.length ≤ 1000
/-- What the front end makes of a text. -/
structure Front (src : List UInt8) (np : Int) (rows : List Rw) : Prop where
  len : src.length ≤ 1000000
  img : ∀ c : CSt, c.s.fs.length = 13 → ∃ s toks nodes im, imgM 400 src c = some (.ok im, ⟨toks, nodes, s, layM s⟩) ∧ s.fs.length = 13 ∧ im.length ≤ 32768 ∧ decM im ⟨[], [], [], []⟩ = some (pgR rows)
theorem erN : NMap id er := ⟨fun _ => rfl, fun _ => rfl, fun _ => rfl, fun _ => rfl, fun _ => rfl, fun _ => rfl, fun d => by show d.n = if d.k = 15 then d.n else d.n; split <;> rfl⟩
theorem sMap_id (s : CS) : sMap id s = s := by
  have hv : ∀ v, vMap id v = v := fun v => by unfold vMap; split <;> rfl
  have hf : ∀ f, fMap id f = f := fun f => by
    unfold fMap
    have e1 : f.consts.map (vMap id) = f.consts := by
      conv => rhs; rw [← List.map_id f.consts]
      exact List.map_congr_left fun v _ => hv v
    have e2 : f.nums.map (fun p => (id p.1, p.2)) = f.nums := by
      conv => rhs; rw [← List.map_id f.nums]
      exact List.map_congr_left fun p _ => rfl
    rw [e1, e2]
  unfold sMap
  have : s.fs.map (fMap id) = s.fs := by
    conv => rhs; rw [← List.map_id s.fs]
    exact List.map_congr_left fun f _ => hf f
  rw [this]
theorem compM_er (fuel : Nat) (ns : List Nd) (root : Int) (s : CS) : compM fuel (ns.map er) root s = compM fuel ns root s := by
  have h := compM_map (σ := id) (fun _ _ e => e) rfl erN fuel ns root s
  rw [sMap_id] at h
  rw [h]
  cases compM fuel ns root s with
  | none => rfl
  | some s' => show some (sMap id s') = _; rw [sMap_id]
theorem front_mk {src : List UInt8} {np : Int} {rows : List Rw} {ns : List Nd} {root : Int} (hl : src.length ≤ 2048) (hR : Rows np rows) (hp : ∀ nodes0, bind1 (bind1 (scanL 400 src 0 0 []) (parT 400 src nodes0)) erP = some (ns, root)) (hc : ∀ s : CS, s.fs.length = 13 → (compM 400 ns root s).map seeC = some (np, rows, 13)) : Front src np rows := by
  refine ⟨by omega, fun c h13 => ?_⟩
  have h1 := hp c.nodes
  rw [← parseS_eq (toks0 := c.toks) hl] at h1
  obtain ⟨r, hr, h1⟩ := bnd1 h1
  obtain ⟨pr, toks, nodes⟩ := r
  cases pr with
  | err e a => cases h1
  | ok ns1 root1 =>
    unfold erP at h1
    dsimp only at h1
    split at h1
    · rename_i hlen
      injection h1 with h1
      injection h1 with e1 e2
      subst e1 e2
      have h2 := hc c.s h13
      rw [compM_er] at h2
      cases hs : compM 400 ns1 root1 c.s with
      | none => rw [hs] at h2; cases h2
      | some s =>
        rw [hs] at h2
        injection h2 with h2
        injection h2 with a1 a2
        injection a2 with a2 a3
        obtain ⟨im, i1, i2, i3⟩ := image_rows hR a1 a2 a3
        refine ⟨s, toks, nodes, im, ?_, a3, i2, i3⟩
        unfold imgM
        rw [hr]
        dsimp only [bind1]
        rw [if_pos hlen, hs]
        dsimp only [bind1]
        rw [i1]
    · cases h1
/-- One run. -/
theorem run_mk {src : List UInt8} {np : Int} {rows : List Rw} (hF : Front src np rows) {fuel : Int} {q : HQ} {an : An} {cn fu : Int} {out : List UInt8} {tb : Nat} {obs : List Ob} {ans : Ans} (hv : endR (coLA 1000 40 60 0 V.nil V.nil 0 q (ld1 (pgR rows) ts0 fuel)) = some ((an, cn, out, fu, tb), [], obs)) (ho : allOb obs) (htb : tb ≤ 1000)
    (ha : (an = ⟨1, V.nil, 0⟩ ∧ ans = ⟨0, fu, cn, out, noneT⟩) ∨ (an = ⟨3, V.nil, 9⟩ ∧ ans = ⟨9, fu, cn, out, [45]⟩)) (c : CSt) (m : VM) (hJ : JJ c m) : ∃ c1 m1, runM L0 src fuel c m = some (ans, c1, m1) ∧ JJ c1 m1 := by
  obtain ⟨s, toks, nodes, im, i1, i2, i3, i4⟩ := hF.img c hJ.1
  cases hz : coLA 1000 40 60 0 V.nil V.nil 0 q (ld1 (pgR rows) ts0 fuel) with
  | none => rw [hz] at hv; cases hv
  | some z =>
    rw [hz] at hv
    obtain ⟨⟨an', cn', m1⟩, q', obs'⟩ := z
    injection hv with hv
    injection hv with h1 h2
    injection h2 with h2 h3
    injection h1 with k1 k2
    injection k2 with k2 k3
    injection k3 with k3 k4
    injection k4 with k4 k5
    dsimp only at k1 k2 k3 k4 k5 h2 h3
    subst k1 k2 k3 k4 k5 h2 h3
    have hco := coLA_ok 1000 40 60 0 V.nil V.nil 0 q _ _ _ _ hz ho
    refine ⟨⟨toks, nodes, s, layM s⟩, m1, ?_, i2, htb⟩
    unfold runM
    rw [if_pos hF.len]
    show bind1 (imgM 400 src c) _ = _
    rw [i1]
    dsimp only [bind1]
    have hload : loadM im fuel m = some (ld1 (pgR rows) ts0 fuel) := by
      unfold loadM
      rw [if_pos hJ.2, if_pos i3, i4]
      dsimp only [bind1]
      rw [ts0_eq]
    have hrun : coRunM L0 im fuel m = some (ans, cn', m1) := by
      unfold coRunM
      rw [if_pos (by decide), hload]
      dsimp only [bind1]
      show bind1 (coL 1000 40 60 0 V.nil V.nil 0 _) coEnd = _
      rw [hco]
      dsimp only [bind1]
      unfold coEnd
      rcases ha with ⟨rfl, rfl⟩ | ⟨rfl, rfl⟩
      · rw [if_neg (show ¬ ((1 : Int) = 3) by decide), if_pos (show okV V.nil by decide)]
        rfl
      · rw [if_pos rfl]
    rw [hrun]
end Go.Wl
