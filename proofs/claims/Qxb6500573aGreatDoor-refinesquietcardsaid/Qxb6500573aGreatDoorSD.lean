/- Plain: the nodes in form and the shape of the code give both in one. -/
import Derived.Test.Qxb6500573aGreatDoorSC
namespace Go.Wl
open Go Go.Sl Go.Proofs
set_option linter.unusedVariables false
section
variable {ns : List Nd} {P : List Fs}
theorem lt_of_ps {ns : List Nd} {len lo hi n n' : Nat} {r : Int} (h : Nn ns (.ps len) lo hi r n n') : lo ≤ hi := h.reg.1
theorem ps2 {e : Nat} {r : Int} {a b : Nd} (ha : nd ns r = some a) (hb : nd ns a.next = some b) (h : ∀ e l, parS ns e r l → l.length = 2 ∧ ∀ s, s ∈ l → s ≠ []) (hr : r ≠ 0) (hn : a.next ≠ 0) (hz : b.next = 0) : a.s ≠ [] ∧ b.s ≠ [] := by
  have h1 : parS ns 3 r [a.s, b.s] := by
    unfold parS
    rw [if_neg hr]
    refine ⟨a, [b.s], ha, rfl, ?_⟩
    unfold parS
    rw [if_neg hn]
    refine ⟨b, [], hb, rfl, ?_⟩
    unfold parS
    rw [if_pos hz]
  obtain ⟨_, h2⟩ := h 3 _ h1
  exact ⟨h2 _ (by simp), h2 _ (by simp)⟩
theorem ps2_in {lo hi n n' : Nat} {r : Int} (h : Nn ns (.ps 2) lo hi r n n') : ∃ a b, nd ns r = some a ∧ nd ns a.next = some b ∧ a.s ≠ [] ∧ b.s ≠ [] := by
  cases h with
  | pcons hd hn hs hm hl =>
    cases hl with
    | pcons hd2 hn2 hs2 hm2 hl2 => exact ⟨_, _, nd_pos hd, by rw [hn]; exact nd_pos hd2, hs.1, hs2.1⟩
theorem rnd_in {rc : SR} {x : Nat} {E : Sco} {L : List Nm8} {name : Nm8} {body : Int} {p3 pc' : Nat} (h : roundS ns P rc x E L name body p3 pc') : ∃ p4 p5 m L1, RndI P x L.length p3 p4 ∧ stsS ns rc m x E (L ++ [[], [], [], name]) (some (L.length, p4 + 6)) (p3 + 6) body p5 L1 ∧ levS P x (L.length + 4) L1 p5 p4 ∧ pc' = p4 + 7 := by
  obtain ⟨p4, out, h1, h2, h3, h4, h5, h6, ⟨m, p5, L1, b1, b2, b3⟩, h8, h9, h10, h11, h12, h13, rfl, h15, rfl⟩ := h
  refine ⟨p4, p5, m, L1, ⟨h1, h2, h3, h4, h5, h6, h8, h9, h10, h11, h12, h13, h15⟩, b1, ?_, rfl⟩
  rw [List.length_append] at b3
  exact b3
theorem wlk_in {rc : SR} {x : Nat} {E : Sco} {L : List Nm8} {nk nv : Nm8} {body : Int} {p1 pc' : Nat} (h : walkS ns P rc x E L nk nv body p1 pc') : ∃ p4 p5 m L1, WlkI P x L.length p1 p4 ∧ stsS ns rc m x E (L ++ [[], [], nk, nv]) (some (L.length, p4 + 2)) (p1 + 5) body p5 L1 ∧ levS P x (L.length + 4) L1 p5 p4 ∧ pc' = p4 + 3 := by
  obtain ⟨p4, out, h1, h2, h3, h4, h5, ⟨m, p5, L1, b1, b2, b3⟩, h8, h9, rfl, h15, rfl⟩ := h
  refine ⟨p4, p5, m, L1, ⟨h1, h2, h3, h4, h5, h8, h9, h15⟩, b1, ?_, rfl⟩
  rw [List.length_append] at b3
  exact b3
theorem sp_all (h0 : ns[0]? = some nd0) {kd : Kd} {lo hi : Nat} {r : Int} {n n' : Nat} (h : Nn ns kd lo hi r n n') : SpL ns P kd lo hi r := by
  induction h with
  | lit hd hl hq hk =>
    intro m x E L pc pc' h
    obtain ⟨m, rfl, d, hd', h⟩ := ex_in hd h
    rw [nd_pos hd] at hd'
    injection hd' with hd'
    subst hd'
    dsimp only at h
    rcases hk with rfl | rfl | rfl
    · (repeat rw [if_neg (by decide)] at h)
      rw [if_pos rfl] at h
      obtain ⟨h1, rfl⟩ := h
      exact .lit hl hd (.inl ⟨rfl, rfl⟩) h1
    · (repeat rw [if_neg (by decide)] at h)
      rw [if_pos rfl] at h
      obtain ⟨h1, rfl⟩ := h
      exact .lit hl hd (.inr (.inl ⟨rfl, rfl⟩)) h1
    · (repeat rw [if_neg (by decide)] at h)
      rw [if_pos rfl] at h
      obtain ⟨h1, rfl⟩ := h
      exact .lit hl hd (.inr (.inr ⟨rfl, rfl⟩)) h1
  | num hd hl hq hk =>
    intro m x E L pc pc' h
    obtain ⟨m, rfl, d, hd', h⟩ := ex_in hd h
    rw [nd_pos hd] at hd'
    injection hd' with hd'
    subst hd'
    dsimp only at h
    (repeat rw [if_neg (by decide)] at h)
    rw [if_pos rfl] at h
    obtain ⟨i, h1, h2, rfl⟩ := h
    exact .num hl hd rfl h1 h2
  | str hd hl hq hk =>
    intro m x E L pc pc' h
    obtain ⟨m, rfl, d, hd', h⟩ := ex_in hd h
    rw [nd_pos hd] at hd'
    injection hd' with hd'
    subst hd'
    dsimp only at h
    (repeat rw [if_neg (by decide)] at h)
    rw [if_pos rfl] at h
    obtain ⟨i, h1, h2, rfl⟩ := h
    exact .str hl hd rfl h1 h2
  | name hd hl hq hk =>
    intro m x E L pc pc' h
    obtain ⟨m, rfl, d, hd', h⟩ := ex_in hd h
    rw [nd_pos hd] at hd'
    injection hd' with hd'
    subst hd'
    dsimp only at h
    (repeat rw [if_neg (by decide)] at h)
    rw [if_pos rfl] at h
    obtain ⟨h1, rfl⟩ := h
    exact .name hl hd rfl hk h1
  | index hd hx hk hl h1 h2 i1 i2 =>
    intro m x E L pc pc' h
    obtain ⟨m, rfl, d, hd', h⟩ := ex_in hd h
    rw [nd_pos hd] at hd'
    injection hd' with hd'
    subst hd'
    dsimp only at h
    (repeat rw [if_neg (by decide)] at h)
    rw [if_pos rfl] at h
    obtain ⟨p1, p2, g1, g2, g3, rfl⟩ := h
    exact .index hl hd rfl (i1 _ _ _ _ _ _ g1) (i2 _ _ _ _ _ _ g2) g3
  | call hd hf ha hl hl3 h1 h2 h3 i1 i2 =>
    intro m x E L pc pc' h
    obtain ⟨d, e, j, p1, p2, hd', g1, g2, g3, rfl⟩ := h
    rw [nd_pos hd] at hd'
    injection hd' with hd'
    subst hd'
    dsimp only at g1 g2
    obtain ⟨hj, w⟩ := i2.1 _ _ _ _ _ _ _ _ g2
    exact .clmk hl hd rfl (i1 _ _ _ _ _ _ g1) w (by omega) g3
  | ofcl hc i =>
    intro m x E L pc pc' h
    have hlt := hc.reg.2.2 rfl
    cases hc with
    | call hd hf ha hl hl3 h1 h2 h3 =>
      obtain ⟨m, rfl, d, hd', h⟩ := ex_in hd h
      rw [nd_pos hd] at hd'
      injection hd' with hd'
      subst hd'
      dsimp only at h
      (repeat rw [if_neg (by decide)] at h)
      rw [if_pos rfl] at h
      obtain ⟨p1, g1, g2, rfl⟩ := h
      exact .call hlt hd rfl (i _ _ _ _ _ _ g1) g2
  | func hd hp hb hl hq hl3 hn i1 i2 =>
    intro m x E L pc pc' h
    obtain ⟨m, rfl, d, hd', h⟩ := ex_in hd h
    rw [nd_pos hd] at hd'
    injection hd' with hd'
    subst hd'
    dsimp only at h
    (repeat rw [if_neg (by decide)] at h)
    rw [if_pos rfl] at h
    obtain ⟨g1, g2, ⟨f, mm, ps, p1, f1, f2, f3, ⟨m2, q1, L1, b1, b2, b3⟩, f5, f6, f7, f8⟩, rfl⟩ := h
    obtain ⟨w1, w2⟩ := i1 _ _ f2
    rw [Int.toNat_of_nonneg g2 |>.symm] at g1
    refine .func (y := (_ : Int).toNat) hp.reg.1 hl hd rfl (Int.toNat_of_nonneg g2).symm (by rw [g1]; rw [Int.toNat_of_nonneg g2]) f1 f2 f3 ⟨by omega, w2⟩ (i2 _ _ _ _ _ _ _ _ _ b1) b3 ⟨f5, f6, f7⟩
  | table hd hi hl h1 i1 =>
    intro m x E L pc pc' h
    obtain ⟨m, rfl, d, hd', h⟩ := ex_in hd h
    rw [nd_pos hd] at hd'
    injection hd' with hd'
    subst hd'
    dsimp only at h
    (repeat rw [if_neg (by decide)] at h)
    rw [if_pos rfl] at h
    obtain ⟨e, g1, g2⟩ := h
    exact .table hl hd rfl g1 (i1.2 _ _ _ _ _ _ _ _ g2)
  | bin hd ho hx hy hl h1 h2 i1 i2 =>
    intro m x E L pc pc' h
    obtain ⟨m, rfl, d, hd', h⟩ := ex_in hd h
    rw [nd_pos hd] at hd'
    injection hd' with hd'
    subst hd'
    dsimp only at h
    (repeat rw [if_neg (by decide)] at h)
    rw [if_pos rfl] at h
    obtain ⟨p1, p2, g1, g2, g3, rfl⟩ := h
    exact .bin hl hd rfl ho (i1 _ _ _ _ _ _ g1) (i2 _ _ _ _ _ _ g2) g3
  | log hd hk hx hy hl h1 h2 i1 i2 =>
    intro m x E L pc pc' h
    obtain ⟨m, rfl, d, hd', h⟩ := ex_in hd h
    rw [nd_pos hd] at hd'
    injection hd' with hd'
    subst hd'
    dsimp only at h
    rcases hk with rfl | rfl
    · (repeat rw [if_neg (by decide)] at h)
      rw [if_pos rfl] at h
      obtain ⟨p1, g1, g2, g3⟩ := h
      exact .log hl hd (.inl ⟨rfl, rfl⟩) (i1 _ _ _ _ _ _ g1) g2 (i2 _ _ _ _ _ _ g3)
    · (repeat rw [if_neg (by decide)] at h)
      rw [if_pos rfl] at h
      obtain ⟨p1, g1, g2, g3⟩ := h
      exact .log hl hd (.inr ⟨rfl, rfl⟩) (i1 _ _ _ _ _ _ g1) g2 (i2 _ _ _ _ _ _ g3)
  | un hd ho hx hl h1 i1 =>
    intro m x E L pc pc' h
    obtain ⟨m, rfl, d, hd', h⟩ := ex_in hd h
    rw [nd_pos hd] at hd'
    injection hd' with hd'
    subst hd'
    dsimp only at h
    (repeat rw [if_neg (by decide)] at h)
    rw [if_pos rfl] at h
    obtain ⟨p1, g1, g2, rfl⟩ := h
    exact .una hl hd rfl ho (i1 _ _ _ _ _ _ g1) g2
  | inil =>
    refine ⟨fun m e x E L pc j pc' h => ?_, fun m e x E L pc i pc' h => ?_⟩
    · cases e with
      | zero => exact h.elim
      | succ e =>
        unfold argS at h
        rw [if_pos rfl] at h
        obtain ⟨rfl, rfl⟩ := h
        exact ⟨rfl, .anil⟩
    · cases e with
      | zero => exact h.elim
      | succ e =>
        unfold itmS at h
        rw [if_pos rfl] at h
        subst h
        exact .inil
  | @icons q len lo mid hi n n1 n2 dd r hd hn ht hl i1 i2 =>
    have hm := ht.reg.2.2 rfl
    refine ⟨fun m e x E L pc j pc' h => ?_, fun m e x E L pc i pc' h => ?_⟩
    · cases e with
      | zero => exact h.elim
      | succ e =>
        unfold argS at h
        rw [if_neg (by omega)] at h
        obtain ⟨p1, d, g1, hd', j', rfl, g2⟩ := h
        rw [nd_pos hd] at hd'
        injection hd' with hd'
        subst hd'
        rw [hn] at g2
        obtain ⟨rfl, w⟩ := i2.1 _ _ _ _ _ _ _ _ g2
        exact ⟨rfl, .acons hm hd (i1 _ _ _ _ _ _ g1) (by rw [hn]; exact w)⟩
    · cases e with
      | zero => exact h.elim
      | succ e =>
        unfold itmS at h
        rw [if_neg (by omega)] at h
        obtain ⟨p1, d, g1, g3, hd', g2⟩ := h
        rw [nd_pos hd] at hd'
        injection hd' with hd'
        subst hd'
        rw [hn] at g2
        exact .icons hm hd (i1 _ _ _ _ _ _ g1) g3 (by rw [hn]; exact i2.2 _ _ _ _ _ _ _ _ g2)
  | pnil =>
    intro e l h
    cases e with
    | zero => exact h.elim
    | succ e =>
      unfold parS at h
      rw [if_pos rfl] at h
      subst h
      exact ⟨rfl, fun s hs => by cases hs⟩
  | pcons hd hn hs hm hl i2 =>
    intro e l h
    cases e with
    | zero => exact h.elim
    | succ e =>
      unfold parS at h
      rw [if_neg (by omega)] at h
      obtain ⟨d, l', hd', rfl, g⟩ := h
      rw [nd_pos hd] at hd'
      injection hd' with hd'
      subst hd'
      rw [hn] at g
      obtain ⟨w1, w2⟩ := i2 _ _ g
      refine ⟨by simp [w1], fun s hs' => ?_⟩
      rcases List.mem_cons.1 hs' with rfl | hs'
      · exact hs.1
      · exact w2 s hs'
  | loc0 hd hl h1 h =>
    intro m x E L br pc pc' L' h
    obtain ⟨m, rfl, d, hd', h⟩ := st_in hd h
    rw [nd_pos hd] at hd'
    injection hd' with hd'
    subst hd'
    dsimp only at h
    rw [if_pos rfl] at h
    obtain ⟨p1, g1, g2, rfl, rfl⟩ := h
    have w := blank_in h0 (lo := 0) g1
    have w2 : insP P x pc = some (2, 0) ∧ p1 = pc + 1 := by
      generalize hz : (0 : Int) = z at w
      cases w with
      | blank i => exact ⟨i, rfl⟩
      | _ => omega
    obtain ⟨w3, rfl⟩ := w2
    exact .loc0 hl hd rfl rfl h1.1 w3 g2
  | loc1 hd hl h1 hv hq h i1 =>
    intro m x E L br pc pc' L' h
    obtain ⟨m, rfl, d, hd', h⟩ := st_in hd h
    rw [nd_pos hd] at hd'
    injection hd' with hd'
    subst hd'
    dsimp only at h
    rw [if_pos rfl] at h
    obtain ⟨p1, g1, g2, rfl, rfl⟩ := h
    have hm := hv.reg.2.2 rfl
    exact .loc1 hl hd rfl (by dsimp only; omega) h1.1 (i1 _ _ _ _ _ _ g1) g2
  | loc2 hd hl hp hv hq h i1 i2 =>
    intro m x E L br pc pc' L' h
    obtain ⟨m, rfl, d, hd', h⟩ := st_in hd h
    rw [nd_pos hd] at hd'
    injection hd' with hd'
    subst hd'
    dsimp only at h
    rw [if_neg (by decide), if_pos rfl] at h
    obtain ⟨a, b, p1, e1, e2, g1, g2, g3, rfl, rfl⟩ := h
    obtain ⟨a', b', w1, w2, w3⟩ := ps2_in hp
    rw [e1] at w1
    injection w1 with w1
    subst w1
    rw [e2] at w2
    injection w2 with w2
    subst w2
    exact .loc2 hp.reg.1 hl hd rfl e1 e2 w3 (i2 _ _ _ _ _ _ g1) g2 g3
  | locFn hd hl h1 hk hv hq h i1 =>
    intro m x E L br pc pc' L' h
    obtain ⟨m, rfl, d, hd', h⟩ := st_in hd h
    rw [nd_pos hd] at hd'
    injection hd' with hd'
    subst hd'
    dsimp only at h
    rw [if_neg (by decide), if_neg (by decide), if_pos rfl] at h
    obtain ⟨p1, g1, g2, rfl, rfl⟩ := h
    obtain ⟨d1, k1, k2⟩ := hk
    exact .locFn hl hd rfl h1.1 (nd_pos k1) k2 (i1 _ _ _ _ _ _ g1) g2
  | asgN hd hd1 hk hs1 hl1 hl hv hq i1 =>
    intro m x E L br pc pc' L' h
    obtain ⟨m, rfl, d, hd', h⟩ := st_in hd h
    rw [nd_pos hd] at hd'
    injection hd' with hd'
    subst hd'
    dsimp only at h
    rw [if_neg (by decide), if_neg (by decide), if_neg (by decide)] at h
    obtain ⟨rfl, h⟩ := h
    rw [if_pos rfl] at h
    obtain ⟨g, hg, h⟩ := h
    rw [nd_pos hd1] at hg
    injection hg with hg
    subst hg
    rw [if_pos hk] at h
    obtain ⟨p1, g1, g2, rfl⟩ := h
    exact .asgN (Nat.le_of_lt hl1) hl hd rfl (nd_pos hd1) hk hs1 (i1 _ _ _ _ _ _ g1) g2
  | asgI hd hd1 hk hx hy hl3 hv hl q0 q1 q2 i1 i2 i3 =>
    intro m x E L br pc pc' L' h
    obtain ⟨m, rfl, d, hd', h⟩ := st_in hd h
    rw [nd_pos hd] at hd'
    injection hd' with hd'
    subst hd'
    dsimp only at h
    rw [if_neg (by decide), if_neg (by decide), if_neg (by decide)] at h
    obtain ⟨rfl, h⟩ := h
    rw [if_pos rfl] at h
    obtain ⟨g, hg, h⟩ := h
    rw [nd_pos hd1] at hg
    injection hg with hg
    subst hg
    rw [if_neg (by omega)] at h
    obtain ⟨p1, p2, p3, g1, g2, g3, g4, rfl⟩ := h
    rw [hk.2.1] at g1
    rw [hk.2.2] at g2
    exact .asgI (Nat.le_of_lt hl3) hl hd rfl (nd_pos hd1) (by omega) (by rw [hk.2.1]; exact i1 _ _ _ _ _ _ g1) (by rw [hk.2.2]; exact i2 _ _ _ _ _ _ g2) (i3 _ _ _ _ _ _ g3) g4
  | callS hd hl hv hq i1 =>
    intro m x E L br pc pc' L' h
    obtain ⟨m, rfl, d, hd', h⟩ := st_in hd h
    rw [nd_pos hd] at hd'
    injection hd' with hd'
    subst hd'
    dsimp only at h
    rw [if_neg (by decide), if_neg (by decide), if_neg (by decide)] at h
    obtain ⟨rfl, h⟩ := h
    rw [if_neg (by decide), if_pos rfl] at h
    obtain ⟨p1, g1, g2, g3, rfl⟩ := h
    have hlt := hv.reg.2.2 rfl
    cases hv with
    | call hd1 hf ha hl1 hl3 h1 h2 h3 => exact .callS hl hd rfl (.call hlt hd1 rfl (i1 _ _ _ _ _ _ g1) g2) g3
  | ife hd hl hc hq h1 h2 i1 i2 i3 =>
    intro m x E L br pc pc' L' h
    obtain ⟨m, rfl, d, hd', h⟩ := st_in hd h
    rw [nd_pos hd] at hd'
    injection hd' with hd'
    subst hd'
    dsimp only at h
    rw [if_neg (by decide), if_neg (by decide), if_neg (by decide)] at h
    obtain ⟨rfl, h⟩ := h
    rw [if_neg (by decide), if_neg (by decide), if_pos rfl] at h
    obtain ⟨p1, p3, g1, g2, ⟨e1, q1, L1, b1, b2, b3⟩, g4, ⟨e2, q2, L2, c1, c2, c3⟩⟩ := h
    exact .ife hl hd rfl (i1 _ _ _ _ _ _ g1) g2 (i2 _ _ _ _ _ _ _ _ _ b1) b3 g4 (i3 _ _ _ _ _ _ _ _ _ c1) c3
  | whl hd hl hc hq h1 i1 i2 =>
    intro m x E L br pc pc' L' h
    obtain ⟨m, rfl, d, hd', h⟩ := st_in hd h
    rw [nd_pos hd] at hd'
    injection hd' with hd'
    subst hd'
    dsimp only at h
    rw [if_neg (by decide), if_neg (by decide), if_neg (by decide)] at h
    obtain ⟨rfl, h⟩ := h
    rw [if_neg (by decide), if_neg (by decide), if_neg (by decide), if_pos rfl] at h
    obtain ⟨p1, p3, g1, g2, ⟨e1, q1, L1, b1, b2, b3⟩, g4, rfl⟩ := h
    exact .whl hl hd rfl (i1 _ _ _ _ _ _ g1) g2 (i2 _ _ _ _ _ _ _ _ _ b1) b3 g4
  | for2 hd hl hs1 hf hd1 hn1 hg hd2 hn2 hq hq1 hh h1 i1 i2 i3 =>
    intro m x E L br pc pc' L' h
    obtain ⟨m, rfl, d, hd', h⟩ := st_in hd h
    rw [nd_pos hd] at hd'
    injection hd' with hd'
    subst hd'
    dsimp only at h
    rw [if_neg (by decide), if_neg (by decide), if_neg (by decide)] at h
    obtain ⟨rfl, h⟩ := h
    rw [if_neg (by decide), if_neg (by decide), if_neg (by decide), if_neg (by decide), if_pos rfl] at h
    obtain ⟨da, dl, p1, p2, p3, e1, e2, g1, g2, g3, g4, g5, g6⟩ := h
    rw [nd_pos hd1] at e1
    injection e1 with e1
    subst e1
    rw [hn1, nd_pos hd2] at e2
    injection e2 with e2
    subst e2
    rw [if_neg (by rw [hn2]; exact fun q => q rfl)] at g5
    obtain ⟨c, c1, c2, rfl⟩ := g5
    obtain ⟨p4, p5, e, L1, r1, r2, r3, rfl⟩ := rnd_in g6
    rw [hn1] at g3
    exact .for2 hl hd rfl hs1.1 (nd_pos hd1) (by rw [hn1]; exact nd_pos hd2) (i1 _ _ _ _ _ _ g1) g2 (by rw [hn1]; exact i2 _ _ _ _ _ _ g3) g4 hn2 c1 c2 r1 (i3 _ _ _ _ _ _ _ _ _ r2) r3
  | for3 hd hl hs1 hf hd1 hn1 hg hd2 hn2 hst hq hq1 hq2 hh h1 i1 i2 i3 i4 =>
    intro m x E L br pc pc' L' h
    obtain ⟨m, rfl, d, hd', h⟩ := st_in hd h
    rw [nd_pos hd] at hd'
    injection hd' with hd'
    subst hd'
    dsimp only at h
    rw [if_neg (by decide), if_neg (by decide), if_neg (by decide)] at h
    obtain ⟨rfl, h⟩ := h
    rw [if_neg (by decide), if_neg (by decide), if_neg (by decide), if_neg (by decide), if_pos rfl] at h
    obtain ⟨da, dl, p1, p2, p3, e1, e2, g1, g2, g3, g4, g5, g6⟩ := h
    rw [nd_pos hd1] at e1
    injection e1 with e1
    subst e1
    rw [hn1, nd_pos hd2] at e2
    injection e2 with e2
    subst e2
    have hz := hst.reg.2.2 rfl
    have hne : ∀ {d : Nd} {m : Nat}, d.next = (m : Int) → 0 < m → d.next ≠ 0 := fun q w => by omega
    have hnz := hne hn2 (by omega)
    rw [if_pos hnz] at g5
    obtain ⟨p4, p5, e, L1, r1, r2, r3, rfl⟩ := rnd_in g6
    rw [hn1] at g3
    rw [hn2] at g5
    exact .for3 hl hd rfl hs1.1 (nd_pos hd1) (by rw [hn1]; exact nd_pos hd2) (i1 _ _ _ _ _ _ g1) g2 (by rw [hn1]; exact i2 _ _ _ _ _ _ g3) g4 hnz (by rw [hn2]; exact i3 _ _ _ _ _ _ g5) r1 (i4 _ _ _ _ _ _ _ _ _ r2) r3
  | forIn hd hl hp hx hq hh h1 i1 i2 i3 =>
    intro m x E L br pc pc' L' h
    obtain ⟨m, rfl, d, hd', h⟩ := st_in hd h
    rw [nd_pos hd] at hd'
    injection hd' with hd'
    subst hd'
    dsimp only at h
    rw [if_neg (by decide), if_neg (by decide), if_neg (by decide)] at h
    obtain ⟨rfl, h⟩ := h
    rw [if_neg (by decide), if_neg (by decide), if_neg (by decide), if_neg (by decide), if_neg (by decide), if_pos rfl] at h
    obtain ⟨dk, dv, p1, e1, e2, g1, g2⟩ := h
    obtain ⟨a', b', w1, w2, w3⟩ := ps2_in hp
    rw [e1] at w1
    injection w1 with w1
    subst w1
    rw [e2] at w2
    injection w2 with w2
    subst w2
    obtain ⟨p4, p5, e, L1, r1, r2, r3, rfl⟩ := wlk_in g2
    exact .forIn hp.reg.1 hl hd rfl e1 e2 w3 (i2 _ _ _ _ _ _ g1) r1 (i3 _ _ _ _ _ _ _ _ _ r2) r3
  | ret0 hd hl =>
    intro m x E L br pc pc' L' h
    obtain ⟨m, rfl, d, hd', h⟩ := st_in hd h
    rw [nd_pos hd] at hd'
    injection hd' with hd'
    subst hd'
    dsimp only at h
    rw [if_neg (by decide), if_neg (by decide), if_neg (by decide)] at h
    obtain ⟨rfl, h⟩ := h
    rw [if_neg (by decide), if_neg (by decide), if_neg (by decide), if_neg (by decide), if_neg (by decide), if_neg (by decide), if_pos rfl] at h
    obtain ⟨p1, p2, g1, g2, g3, rfl⟩ := h
    exact .ret hl hd rfl (blank_in h0 g1) (blank_in h0 g2) g3
  | ret1 hd hl hx hq i1 =>
    intro m x E L br pc pc' L' h
    obtain ⟨m, rfl, d, hd', h⟩ := st_in hd h
    rw [nd_pos hd] at hd'
    injection hd' with hd'
    subst hd'
    dsimp only at h
    rw [if_neg (by decide), if_neg (by decide), if_neg (by decide)] at h
    obtain ⟨rfl, h⟩ := h
    rw [if_neg (by decide), if_neg (by decide), if_neg (by decide), if_neg (by decide), if_neg (by decide), if_neg (by decide), if_pos rfl] at h
    obtain ⟨p1, p2, g1, g2, g3, rfl⟩ := h
    exact .ret hl hd rfl (i1 _ _ _ _ _ _ g1) (blank_in h0 g2) g3
  | ret2 hd hl hx hy hq hq1 i1 i2 =>
    intro m x E L br pc pc' L' h
    obtain ⟨m, rfl, d, hd', h⟩ := st_in hd h
    rw [nd_pos hd] at hd'
    injection hd' with hd'
    subst hd'
    dsimp only at h
    rw [if_neg (by decide), if_neg (by decide), if_neg (by decide)] at h
    obtain ⟨rfl, h⟩ := h
    rw [if_neg (by decide), if_neg (by decide), if_neg (by decide), if_neg (by decide), if_neg (by decide), if_neg (by decide), if_pos rfl] at h
    obtain ⟨p1, p2, g1, g2, g3, rfl⟩ := h
    exact .ret hl hd rfl (i1 _ _ _ _ _ _ g1) (i2 _ _ _ _ _ _ g2) g3
  | brk hd hl =>
    intro m x E L br pc pc' L' h
    obtain ⟨m, rfl, d, hd', h⟩ := st_in hd h
    rw [nd_pos hd] at hd'
    injection hd' with hd'
    subst hd'
    dsimp only at h
    rw [if_neg (by decide), if_neg (by decide), if_neg (by decide)] at h
    obtain ⟨rfl, h⟩ := h
    rw [if_neg (by decide), if_neg (by decide), if_neg (by decide), if_neg (by decide), if_neg (by decide), if_neg (by decide), if_neg (by decide), if_pos rfl] at h
    obtain ⟨base, out, p1, rfl, g1, g2, rfl⟩ := h
    exact .brk hl hd rfl g1 g2
  | bnil =>
    intro m e x E L br pc pc' L' h
    cases e with
    | zero => exact h.elim
    | succ e =>
      unfold stsS at h
      rw [if_pos rfl] at h
      obtain ⟨rfl, rfl⟩ := h
      exact .snil
  | bcons hd hn ht hl i1 i2 =>
    intro m e x E L br pc pc' L' h
    have hm := ht.reg.2.2 rfl
    cases e with
    | zero => exact h.elim
    | succ e =>
      unfold stsS at h
      rw [if_neg (by omega)] at h
      obtain ⟨p1, L1, d, g1, hd', g2⟩ := h
      rw [nd_pos hd] at hd'
      injection hd' with hd'
      subst hd'
      rw [hn] at g2
      exact .scons hm hd (i1 _ _ _ _ _ _ _ _ g1) (by rw [hn]; exact i2 _ _ _ _ _ _ _ _ _ g2)
end
end Go.Wl
