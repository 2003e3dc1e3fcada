/- Plain: the two parsers: expressions. -/
import Derived.Test.Qxb6500573aGreatDoorZH
namespace Go.Zm
open Go Go.Sl Go.Wl Go.Nm Go.Proofs
set_option linter.unusedVariables false
set_option linter.unusedSectionVars false
section
variable (src : List UInt8) (toks : List Tok)
structure OkE (s : PS) (m : PZ) (t : T) (x : Int) (s' : PS) (m' : PZ) : Prop where
  rl : Rl src toks s' m'
  la : LE t m.nodes x m'.nodes
  ge : m.nodes.length ≤ m'.nodes.length
  gr : m'.nodes.length + 1 + 4 * s.i ≤ m.nodes.length + 4 * s'.i
  kd : kd3 t
  xp : 0 < x
  tp : ∃ d, nodeZ x m' = some d ∧ d.k = kdT t ∧ (∀ a f l, t = .call a f l → d.at_ = a)
def RE (room : Int) (s : PS) (m : PZ) (F : Nat → Nat → Option (Int × PZ)) (t : T) (s' : PS) : Prop :=
  ∃ x m', Ev F (x, m') ∧ ((t.isNil = true ∧ Fl src m' s') ∨ (t.isNil = false ∧ 0 < room ∧ OkE src toks s m t x s' m'))
/-- The model's function for a rank. -/
def lev (least lv : Int) (m : PZ) : Nat → Nat → Option (Int × PZ) := fun N _ =>
  if least = 1 then (recZ src N).expr lv m else if least = 2 then (recZ src N).andE lv m else (recZ src N).left lv (least - 2) m
structure OkL (s : PS) (m : PZ) (l : List T) (x : Int) (s' : PS) (m' : PZ) (k : Nat) : Prop where
  rl : Rl src toks s' m'
  la : LL l m.nodes x m'.nodes
  ge : m.nodes.length ≤ m'.nodes.length
  gr : m'.nodes.length + k + 4 * s.i ≤ m.nodes.length + 4 * s'.i
def RLs (s : PS) (m : PZ) (F : Nat → Nat → Option (Int × PZ)) (r : Option (List T)) (s' : PS) (k : Nat) : Prop :=
  ∃ x m', Ev F (x, m') ∧ ((r = none ∧ Fl src m' s') ∨ ∃ l, r = some l ∧ OkL src toks s m l x s' m' k)
structure OkS (s : PS) (m : PZ) (t : T) (x : Int) (s' : PS) (m' : PZ) : Prop where
  rl : Rl src toks s' m'
  la : LS t m.nodes x m'.nodes
  ge : m.nodes.length ≤ m'.nodes.length
  gr : m'.nodes.length + 4 * s.i ≤ m.nodes.length + 4 * s'.i
  xp : 0 < x ∧ (m.nodes.length : Int) ≤ x
  tp : ∃ d, nodeZ x m' = some d ∧ ((d.k = 10 ∨ d.k = 11) ↔ (t.ty = 233 ∨ t.ty = 234))
def RSt (s : PS) (m : PZ) (F : Nat → Nat → Option (Int × PZ)) (t : T) (s' : PS) : Prop :=
  ∃ x m', Ev F (x, m') ∧ ((t.isNil = true ∧ Fl src m' s') ∨ (t.isNil = false ∧ OkS src toks s m t x s' m'))
/-- What the parser's own calls do. -/
structure IH (rc : Rec) : Prop where
  expr : ∀ {room least : Int} {s : PS} {m : PZ} {t : T} {s' : PS}, -5 ≤ room ∧ room ≤ 12 → 1 ≤ least ∧ least ≤ 7 → Rl src toks s m → rc.expr room least s = some (t, s') → RE src toks room s m (lev src least (13 - room) m) t s'
  unary : ∀ {room : Int} {s : PS} {m : PZ} {t : T} {s' : PS}, -5 ≤ room ∧ room ≤ 12 → Rl src toks s m → rc.unary room s = some (t, s') → RE src toks room s m (fun N _ => (recZ src N).unary (13 - room) m) t s'
  block : ∀ {room : Int} {s : PS} {m : PZ} {r : Option (List T)} {s' : PS}, -5 ≤ room ∧ room ≤ 12 → Rl src toks s m → rc.block room s = some (r, s') → RLs src toks s m (fun N _ => (recZ src N).block (13 - room) m) r s' 0
  branch : ∀ {room : Int} {s : PS} {m : PZ} {t : T} {s' : PS}, 1 ≤ room ∧ room ≤ 12 → Rl src toks s m → rc.branch room s = some (t, s') → RSt src toks s m (fun N _ => (recZ src N).ifS (13 - room) m) t s'
end
theorem lstZL_succ (src : List UInt8) (rc : RZ) (n : Nat) (lv : Int) (closing : List UInt8) (mx first last k : Int) (m : PZ) : lstZL src rc (n + 1) lv closing mx first last k m =
    bif isZ closing m then (bind1 (nextZ src m) fun m1 => some (first, m1))
    else bind1 (commaZ src k m) fun m1 => if (overZ k mx m1).err ≠ 0 then some (0, overZ k mx m1) else bind2 (rc.expr lv (overZ k mx m1)) fun x m3 => if m3.err ≠ 0 then some (0, m3)
    else guardB k <| if first = 0 then lstZL src rc n lv closing mx x x (k + 1) m3 else bind1 (setNx last x m3) fun m4 => lstZL src rc n lv closing mx first x (k + 1) m4 := rfl
theorem setNx_ok {m : PZ} {la : Nat} (h : la < m.nodes.length) (x : Int) : setNx (la : Int) x m = some { m with nodes := m.nodes.set la { m.nodes[la] with next := x } } := by
  unfold setNx
  rw [dif_pos ⟨by omega, by simpa using h⟩]
  simp only [Int.toNat_natCast]
theorem Rl.set {src : List UInt8} {toks : List Tok} {s : PS} {m : PZ} (h : Rl src toks s m) {la : Nat} (hl : la < m.nodes.length) (x : Int) : Rl src toks s { m with nodes := m.nodes.set la { m.nodes[la] with next := x } } :=
  ⟨h.cur, h.tk, h.st, h.ps, h.al, h.lp, h.fu, h.er, h.se, by simpa using h.nb, h.f0⟩
section
variable {src : List UInt8} {toks : List Tok} {rc : Rec} (hT : TOk toks) (ih : IH src toks rc)
theorem lv1 {room : Int} : (13 : Int) - (room - 1) = 13 - room + 1 := by omega
theorem Rl.add {s : PS} {m : PZ} (h : Rl src toks s m) (hb : m.nodes.length ≤ 4 * s.i) (d : Nd) : Rl src toks s { m with nodes := m.nodes ++ [d] } :=
  ⟨h.cur, h.tk, h.st, h.ps, h.al, h.lp, h.fu, h.er, h.se, by simp; omega, h.f0⟩
theorem addZ_ok {m : PZ} (h : m.nodes.length < 9000) (d : Nd) : addZ d m = some ((m.nodes.length : Int), { m with nodes := m.nodes ++ [d] }) := by unfold addZ; rw [if_pos (by omega)]
theorem node_add (m : PZ) (d : Nd) : nodeZ (m.nodes.length : Int) { m with nodes := m.nodes ++ [d] } = some d := by
  unfold nodeZ
  rw [dif_pos ⟨by omega, by simp⟩]
  simp
include hT
/-- The last thing: a node of its own. -/
theorem OkE.fin {s s1 : PS} {m m1 : PZ} {t : T} {d : Nd} (h : Rl src toks s1 m1) (hge : m.nodes.length ≤ m1.nodes.length) (hg : m1.nodes.length + 2 + 4 * s.i ≤ m.nodes.length + 4 * s1.i) (hm : Rl src toks s m) (hl : LE t m.nodes m1.nodes.length (m1.nodes ++ [d])) (hk : kd3 t) (hd : d.k = kdT t) (hc : ∀ a f l, t = .call a f l → d.at_ = a) :
    addZ d m1 = some ((m1.nodes.length : Int), { m1 with nodes := m1.nodes ++ [d] }) ∧ OkE src toks s m t m1.nodes.length s1 { m1 with nodes := m1.nodes ++ [d] } := by
  have hb := h.bd hT
  have hnb := h.nb
  have hnb2 := hm.nb
  exact ⟨addZ_ok hb d, h.add (by omega) d, hl, by simp; omega, by simp; omega, hk, by omega, d, node_add m1 d, hd, hc⟩
theorem OkS.fin {s s1 : PS} {m m1 : PZ} {t : T} {d : Nd} (h : Rl src toks s1 m1) (hge : m.nodes.length ≤ m1.nodes.length) (hg : m1.nodes.length + 1 + 4 * s.i ≤ m.nodes.length + 4 * s1.i) (hm : Rl src toks s m) (hl : LS t m.nodes m1.nodes.length (m1.nodes ++ [d])) (hd : (d.k = 10 ∨ d.k = 11) ↔ (t.ty = 233 ∨ t.ty = 234)) :
    addZ d m1 = some ((m1.nodes.length : Int), { m1 with nodes := m1.nodes ++ [d] }) ∧ OkS src toks s m t m1.nodes.length s1 { m1 with nodes := m1.nodes ++ [d] } := by
  have hb := h.bd hT
  have hnb := h.nb
  have hnb2 := hm.nb
  exact ⟨addZ_ok hb d, h.add (by omega) d, hl, by simp; omega, by simp; omega, ⟨by omega, by omega⟩, d, node_add m1 d, hd⟩
include ih
/-! Lists. -/
theorem list_eq {room closing most : Int} (hroom : -5 ≤ room ∧ room ≤ 12) (hcl : 5 ≤ closing ∧ closing ≤ 46) {ct : List UInt8} (hct : ct = kText closing) {mx : Int} (hmx : ∀ k : Nat, k < 100001 → ((k : Int) = most ↔ (k : Int) = mx)) {s0 : PS} {m0 : PZ} :
    ∀ (k : Nat) (l : List T) (s : PS) (m : PZ) (first last : Int) (r : Option (List T)) (s' : PS), Rl src toks s m → LC l m0.nodes first last m.nodes → l.length ≤ s.i → m0.nodes.length ≤ m.nodes.length → ((l = [] ∧ first = 0 ∧ last = 0) ∨ (l ≠ [] ∧ 0 < first ∧ ∃ la : Nat, last = la ∧ la ≠ 0 ∧ la < m.nodes.length)) → m.nodes.length + 4 * s0.i ≤ m0.nodes.length + 4 * s.i → listL toks rc k room closing most l s = some (r, s') →
      ∃ x m', Ev (fun N n => lstZL src (recZ src N) n (13 - room) ct mx first last (l.length : Int) m) (x, m') ∧ ((r = none ∧ Fl src m' s') ∨ ∃ l', r = some l' ∧ OkL src toks s0 m0 l' x s' m' 4) := by
  intro k
  induction k with
  | zero => intro l s m first last r s' _ _ _ _ _ _ h; cases h
  | succ k ihk =>
    intro l s m first last r s' hR hL hli hge hfl hgr h
    have hll : l.length < 100000 := by have := hR.lt; have := hT.len; omega
    rw [listL] at h
    split at h
    · rename_i hk
      have hz := isF hR hcl hct hk
      obtain ⟨ok, s1, hc, h⟩ := bnd2 h
      have hcm : ∃ m1, commaZ src (l.length : Int) m = some m1 ∧ ((ok = false ∧ Fl src m1 s1) ∨ (ok = true ∧ Rl src toks s1 m1 ∧ s.i ≤ s1.i ∧ m1.nodes = m.nodes)) := by
        unfold commaP at hc
        unfold commaZ
        cases l with
        | nil =>
          injection hc with hc; injection hc with h1 h2; subst h1; subst h2
          exact ⟨m, by rw [if_neg (by simp)], .inr ⟨rfl, hR, Nat.le_refl _, rfl⟩⟩
        | cons a l =>
          dsimp only [List.isEmpty_cons, cond_false] at hc
          obtain ⟨m1, k1, k2⟩ := expR hT hR (K := 45) (by omega) (t := tComma) rfl hc
          rw [if_pos (by simp)]
          refine ⟨m1, k1, k2.imp id fun q => ⟨q.1, q.2.1, by have := q.2.2.1; omega, q.2.2.2.1⟩⟩
      obtain ⟨m1, hc1, hc2⟩ := hcm
      rcases hc2 with ⟨rfl, hF⟩ | ⟨rfl, hR1, hi1, hn1⟩
      · injection h with h; injection h with h1 h2; subst h1; subst h2
        have ho : overZ (l.length : Int) mx m1 = m1 := by unfold overZ; rw [if_neg (fun q => hF.ne q.2)]
        refine ⟨0, m1, Ev.rd ?_ (fun N n => lstZL_succ _ _ _ _ _ _ _ _ _ _), .inl ⟨rfl, hF⟩⟩
        refine Ev.cf hz (Ev.b1 hc1 ?_)
        simp only [ho]
        exact Ev.ifp hF.ne (Ev.pure _)
      · dsimp only [cond_true] at h
        split at h
        · rename_i hm
          injection h with h; injection h with h1 h2; subst h1; subst h2
          have ho : overZ (l.length : Int) mx m1 = failZ 19 m1 := by unfold overZ; rw [if_pos ⟨(hmx _ (by omega)).1 hm, hR1.er⟩]
          have hF := failR hT hR1 (e := 19) (by decide)
          refine ⟨0, failZ 19 m1, Ev.rd ?_ (fun N n => lstZL_succ _ _ _ _ _ _ _ _ _ _), .inl ⟨rfl, hF⟩⟩
          refine Ev.cf hz (Ev.b1 hc1 ?_)
          simp only [ho]
          exact Ev.ifp hF.ne (Ev.pure _)
        · rename_i hm
          have ho : overZ (l.length : Int) mx m1 = m1 := by unfold overZ; rw [if_neg (fun q => hm ((hmx _ (by omega)).2 q.1))]
          obtain ⟨t, s2, hx, h⟩ := bnd2 h
          obtain ⟨x, m2, hev, hres⟩ := ih.expr hroom (by omega) hR1 hx
          rcases hres with ⟨ht, hF⟩ | ⟨ht, _, hO⟩
          · rw [if_pos ht] at h
            injection h with h; injection h with h1 h2; subst h1; subst h2
            refine ⟨0, m2, Ev.rd ?_ (fun N n => lstZL_succ _ _ _ _ _ _ _ _ _ _), .inl ⟨rfl, hF⟩⟩
            refine Ev.cf hz (Ev.b1 hc1 ?_)
            simp only [ho]
            exact Ev.ifn (fun q => q hR1.er) (Ev.b2 hev (Ev.ifp hF.ne (Ev.pure _)))
          · rw [if_neg (by rw [ht]; decide)] at h
            first | rw [if_pos hll] at h | skip
            have hl1 : (l.length : Int) + 1 = ((l ++ [t]).length : Int) := by simp
            have hgr2 := hO.gr
            have hge2 := hO.ge
            rw [hn1] at hgr2 hge2
            obtain ⟨d, hd, _⟩ := hO.tp
            obtain ⟨q, hq, e1, _⟩ := nodeZ_some hd
            rcases hfl with ⟨rfl, rfl, rfl⟩ | ⟨hne, hf0, la, rfl, hla0, hla⟩
            · have hLn : LC ([] ++ [t]) m0.nodes x x m2.nodes := LC.one hL (by rw [← hn1]; exact hO.la.y)
              obtain ⟨y, m3, hev3, hres3⟩ := ihk ([] ++ [t]) s2 m2 x x r s' hO.rl hLn (by simp; omega) (by omega) (.inr ⟨by simp, hO.xp, q, e1, by have := hO.xp; omega, hq⟩) (by omega) h
              refine ⟨y, m3, Ev.rd ?_ (fun N n => lstZL_succ _ _ _ _ _ _ _ _ _ _), hres3⟩
              refine Ev.cf hz (Ev.b1 hc1 ?_)
              simp only [ho]
              exact Ev.ifn (fun q => q hR1.er) (Ev.b2 hev (Ev.ifn (fun q => q hO.rl.er) (Ev.grd (by simp) (Ev.ifp (by first | trivial | rfl) hev3))))
            · have hqn : la < m2.nodes.length := by omega
              have hLn : LC (l ++ [t]) m0.nodes first x (m2.nodes.set la { m2.nodes[la] with next := x }) := LC.more hL (by rw [← hn1]; exact hO.la.y) hla0 hqn
              have hR3 := hO.rl.set hqn x
              obtain ⟨y, m3, hev3, hres3⟩ := ihk (l ++ [t]) s2 _ first x r s' hR3 hLn (by simp only [List.length_append, List.length_singleton]; omega) (by simp only [List.length_set]; omega) (.inr ⟨by simp, hf0, q, e1, by have := hO.xp; omega, by simpa using hq⟩) (by simp only [List.length_set]; omega) h
              refine ⟨y, m3, Ev.rd ?_ (fun N n => lstZL_succ _ _ _ _ _ _ _ _ _ _), hres3⟩
              refine Ev.cf hz (Ev.b1 hc1 ?_)
              simp only [ho]
              refine Ev.ifn (fun q => q hR1.er) (Ev.b2 hev (Ev.ifn (fun q => q hO.rl.er) (Ev.grd (by omega) (Ev.ifn (by omega) (Ev.b1 (setNx_ok hqn x) ?_)))))
              rw [hl1]
              exact hev3
    · rename_i hk
      have hz := isT hR hcl hct (Decidable.not_not.1 hk)
      obtain ⟨s1, hn, h⟩ := bnd1 h
      injection h with h; injection h with h1 h2; subst h1; subst h2
      obtain ⟨m1, k1, k2, k3, k4, _⟩ := nextR hR hn
      refine ⟨first, m1, Ev.rd (Ev.ct hz (Ev.b1 k1 (Ev.pure _))) (fun N n => lstZL_succ _ _ _ _ _ _ _ _ _ _), .inr ⟨l, rfl, k2, ?_, by rw [k4]; omega, by rw [k4]; omega⟩⟩
      rw [k4]
      exact hL.ll hll
end
end Go.Zm
