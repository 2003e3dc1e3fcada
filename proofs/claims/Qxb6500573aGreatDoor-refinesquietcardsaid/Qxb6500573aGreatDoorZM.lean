/- Plain: the two parsers: binary operators. -/
import Derived.Test.Qxb6500573aGreatDoorZL
namespace Go.Zm
open Go Go.Sl Go.Wl Go.Nm Go.Proofs
set_option linter.unusedVariables false
set_option linter.unusedSectionVars false
def catZ (src : List UInt8) (rc : RZ) (lv x : Int) (m : PZ) : ResZ := if m.err ≠ 0 then some (x, m)
    else bif isZ tCat m then (bind1 (nextZ src m) fun m2 => bind2 (rc.left (lv + 1) 2 m2) fun y m3 => if m3.err ≠ 0 then some (0, m3) else addZ ⟨22, x, y, 0, 0, 20, [], m.tok.at_⟩ m3) else some (x, m)
/-- The loop of the rank 7 - d. -/
def lp (src : List UInt8) (lv : Int) (d : Nat) (x : Int) (m : PZ) (N n : Nat) : ResZ :=
  if d = 1 then lftZL src (recZ src N) n lv 4 x m else if d = 2 then lftZL src (recZ src N) n lv 3 x m else if d = 3 then catZ src (recZ src N) lv x m
  else if d = 4 then lftZL src (recZ src N) n lv 1 x m else if d = 5 then andZL src (recZ src N) n lv x m else exZL src (recZ src N) n lv x m
/-- The loops from d on, k of them. -/
def TF (src : List UInt8) (lv : Int) : Nat → Nat → Int → PZ → Int × PZ → Prop
  | 0, d, x, m, res => res = (x, m)
  | k + 1, d, x, m, res => ∃ x1 m1, Ev (lp src lv d x m) (x1, m1) ∧ TF src lv k (d + 1) x1 m1 res
theorem TF.snoc {src : List UInt8} {lv : Int} : ∀ {k d : Nat} {x : Int} {m : PZ} {res : Int × PZ}, TF src lv (k + 1) d x m res → ∃ x1 m1, TF src lv k d x m (x1, m1) ∧ Ev (lp src lv (d + k) x1 m1) res
  | 0, d, x, m, res, h => by
    obtain ⟨x1, m1, h1, h2⟩ := h
    exact ⟨x, m, rfl, by rw [show res = (x1, m1) from h2]; exact h1⟩
  | k + 1, d, x, m, res, h => by
    obtain ⟨x1, m1, h1, h2⟩ := h
    obtain ⟨x2, m2, h3, h4⟩ := TF.snoc h2
    exact ⟨x2, m2, ⟨x1, m1, h1, h3⟩, by rw [show d + (k + 1) = d + 1 + k by omega]; exact h4⟩
theorem TF.pre {src : List UInt8} {lv : Int} {x : Int} {m : PZ} {res : Int × PZ} : ∀ (j d k : Nat), (∀ i, i < j → Ev (lp src lv (d + i) x m) (x, m)) → TF src lv k (d + j) x m res → TF src lv (j + k) d x m res
  | 0, d, k, h, h2 => by rw [Nat.zero_add]; exact h2
  | j + 1, d, k, h, h2 => by
    rw [show j + 1 + k = (j + k) + 1 by omega]
    refine ⟨x, m, h 0 (by omega), TF.pre j (d + 1) k (fun i hi => ?_) ?_⟩
    · have := h (i + 1) (by omega)
      rw [show d + 1 + i = d + (i + 1) by omega]
      exact this
    · rw [show d + 1 + j = d + (j + 1) by omega]
      exact h2
/-! The tables. -/
theorem binds_tab : ∀ i : Fin 15, bindsL[i.val]? = some (if i.val = 0 then (1, 25, 0) else if i.val = 1 then (2, 24, 0) else if i.val ≤ 7 then (3, 22, (i.val : Int) + 9) else if i.val = 8 then (4, 22, 20) else if i.val ≤ 10 then (5, 22, (i.val : Int) - 8) else (6, 22, (i.val : Int) - 8)) := by decide +kernel
/-- The rank of what is at hand, or 0; its node's kind and operator. -/
def rk (k : Int) : Int × Int × Int := if k = 22 then (1, 25, 0) else if k = 23 then (2, 24, 0) else if 24 ≤ k ∧ k ≤ 29 then (3, 22, k - 13) else if k = 30 then (4, 22, 20) else if 31 ≤ k ∧ k ≤ 32 then (5, 22, k - 30) else if 33 ≤ k ∧ k ≤ 36 then (6, 22, k - 30) else (0, 0, 0)
theorem binds_rk {k : Int} (h : 22 ≤ k ∧ k ≤ 36) : bindsL[(k - 22).toNat]? = some (rk k) := by
  have := binds_tab ⟨(k - 22).toNat, by omega⟩
  dsimp only at this
  rw [this]
  congr 1
  unfold rk
  have e : ((k - 22).toNat : Int) = k - 22 := by omega
  by_cases h0 : k = 22
  · rw [if_pos (by omega), if_pos h0]
  rw [if_neg (by omega), if_neg h0]
  by_cases h1 : k = 23
  · rw [if_pos (by omega), if_pos h1]
  rw [if_neg (by omega), if_neg h1]
  by_cases h2 : 24 ≤ k ∧ k ≤ 29
  · rw [if_pos (by omega), if_pos h2, e, show k - 22 + 9 = k - 13 by omega]
  rw [if_neg (by omega), if_neg h2]
  by_cases h3 : k = 30
  · rw [if_pos (by omega), if_pos h3]
  rw [if_neg (by omega), if_neg h3]
  by_cases h4 : 31 ≤ k ∧ k ≤ 32
  · rw [if_pos (by omega), if_pos h4, e, show k - 22 - 8 = k - 30 by omega]
  rw [if_neg (by omega), if_neg h4, if_pos (by omega), e, show k - 22 - 8 = k - 30 by omega]
theorem rk_le (k : Int) : 0 ≤ (rk k).1 ∧ (rk k).1 ≤ 6 := by
  unfold rk
  repeat' split
  all_goals (dsimp only; omega)
theorem fb_tab : ∀ i : Fin 42, findB (kText ((i.val : Int) + 5)) binZ = if (rk ((i.val : Int) + 5)).1 = 3 then (1, (rk ((i.val : Int) + 5)).2.2) else if (rk ((i.val : Int) + 5)).1 = 5 then (3, (rk ((i.val : Int) + 5)).2.2) else if (rk ((i.val : Int) + 5)).1 = 6 then (4, (rk ((i.val : Int) + 5)).2.2) else (0, 0) := by decide +kernel
theorem fb_rk {k : Int} (h : 5 ≤ k ∧ k ≤ 46) : findB (kText k) binZ = if (rk k).1 = 3 then (1, (rk k).2.2) else if (rk k).1 = 5 then (3, (rk k).2.2) else if (rk k).1 = 6 then (4, (rk k).2.2) else (0, 0) := by
  have := fb_tab ⟨(k - 5).toNat, by omega⟩
  dsimp only at this
  rw [show (((k - 5).toNat : Nat) : Int) + 5 = k by omega] at this
  exact this
theorem rk_lo {k : Int} (h : k < 5) : rk k = (0, 0, 0) := by
  unfold rk
  rw [if_neg (by omega), if_neg (by omega), if_neg (by omega), if_neg (by omega), if_neg (by omega), if_neg (by omega)]
section
variable {src : List UInt8} {toks : List Tok} {s : PS} {m : PZ}
theorem bin_rk (h : Rl src toks s m) {r : Int} (hr : r = 1 ∨ r = 3 ∨ r = 4) : binOpZ r m = if (rk s.cur.kind).1 = r + 2 then (rk s.cur.kind).2.2 else 0 := by
  have hk := h.tk.k
  have hg := h.tk.rg
  unfold binOpZ
  by_cases c : 5 ≤ s.cur.kind
  · rw [if_neg (fun q => q (hk.2.2.2.2.2.2 c)), (h.tk.k5 c).2, fb_rk ⟨c, hg.2⟩]
    generalize rk s.cur.kind = q
    by_cases a1 : q.1 = 3
    · rw [if_pos a1]
      dsimp only
      by_cases b1 : r = 1
      · rw [if_neg (by omega), if_pos (by omega)]
      · rw [if_pos (by omega), if_neg (by omega)]
    · rw [if_neg a1]
      by_cases a2 : q.1 = 5
      · rw [if_pos a2]
        dsimp only
        by_cases b1 : r = 3
        · rw [if_neg (by omega), if_pos (by omega)]
        · rw [if_pos (by omega), if_neg (by omega)]
      · rw [if_neg a2]
        by_cases a3 : q.1 = 6
        · rw [if_pos a3]
          dsimp only
          by_cases b1 : r = 4
          · rw [if_neg (by omega), if_pos (by omega)]
          · rw [if_pos (by omega), if_neg (by omega)]
        · rw [if_neg a3]
          dsimp only
          rw [if_pos (by omega), if_neg (by omega)]
  · rw [if_pos (fun q => c (hk.2.2.2.2.2.1 q)), rk_lo (by omega), if_neg (by dsimp only; omega)]
theorem lftZL_succ (src : List UInt8) (rc : RZ) (n : Nat) (lv r x : Int) (m : PZ) : lftZL src rc (n + 1) lv r x m = if m.err = 0 then
      (if binOpZ r m = 0 then some (x, m) else bind1 (nextZ src m) fun m1 => bind2 (rc.left lv (r + 1) m1) fun y m2 => if m2.err ≠ 0 then some (0, m2)
       else bind2 (addZ ⟨22, x, y, 0, 0, binOpZ r m, [], m.tok.at_⟩ m2) fun x m3 => lftZL src rc n lv r x m3)
    else some (0, m) := rfl
theorem andZL_succ (src : List UInt8) (rc : RZ) (n : Nat) (lv x : Int) (m : PZ) : andZL src rc (n + 1) lv x m = if m.err = 0 then (bif isZ tAnd m then (bind1 (nextZ src m) fun m1 => bind2 (rc.left lv 1 m1) fun y m2 => if m2.err ≠ 0 then some (0, m2)
      else bind2 (addZ ⟨24, x, y, 0, 0, 0, [], m.tok.at_⟩ m2) fun x m3 => andZL src rc n lv x m3) else some (x, m)) else some (x, m) := rfl
theorem exZL_succ (src : List UInt8) (rc : RZ) (n : Nat) (lv x : Int) (m : PZ) : exZL src rc (n + 1) lv x m = if m.err = 0 then (bif isZ tOr m then (bind1 (nextZ src m) fun m1 => bind2 (rc.andE lv m1) fun y m2 => if m2.err ≠ 0 then some (0, m2)
      else bind2 (addZ ⟨25, x, y, 0, 0, 0, [], m.tok.at_⟩ m2) fun x m3 => exZL src rc n lv x m3) else some (x, m)) else some (x, m) := rfl
theorem rk_or (k : Int) : (rk k).1 = 1 ↔ k = 22 := by
  unfold rk
  constructor
  · intro h
    repeat' split at h
    all_goals first | assumption | (exfalso; dsimp only at h; omega)
  · rintro rfl; rfl
theorem rk_and (k : Int) : (rk k).1 = 2 ↔ k = 23 := by
  unfold rk
  constructor
  · intro h
    repeat' split at h
    all_goals first | assumption | (exfalso; dsimp only at h; omega)
  · rintro rfl; rfl
theorem rk_cat (k : Int) : (rk k).1 = 4 ↔ k = 30 := by
  unfold rk
  constructor
  · intro h
    repeat' split at h
    all_goals first | assumption | (exfalso; dsimp only at h; omega)
  · rintro rfl; rfl
theorem rk_nz {k : Int} (h : (rk k).1 = 3 ∨ (rk k).1 = 5 ∨ (rk k).1 = 6) : (rk k).2.2 ≠ 0 ∧ (rk k).2.1 = 22 := by
  unfold rk at h ⊢
  repeat' split at h
  all_goals first
    | (exfalso; dsimp only at h; omega)
    | skip
  · rename_i a b c; rw [if_neg a, if_neg b, if_pos c]; exact ⟨by dsimp only; omega, rfl⟩
  · rename_i a b c d e; rw [if_neg a, if_neg b, if_neg c, if_neg d, if_pos e]; exact ⟨by dsimp only; omega, rfl⟩
  · rename_i a b c d e f; rw [if_neg a, if_neg b, if_neg c, if_neg d, if_neg e, if_pos f]; exact ⟨by dsimp only; omega, rfl⟩
/-- A loop whose operator is not at hand. -/
theorem lp_stop (h : Rl src toks s m) {lv : Int} {d : Nat} (hd : 1 ≤ d ∧ d ≤ 6) (hk : (rk s.cur.kind).1 ≠ 7 - (d : Int)) (x : Int) : Ev (lp src lv d x m) (x, m) := by
  have hl : ∀ r : Int, (r = 1 ∨ r = 3 ∨ r = 4) → (rk s.cur.kind).1 ≠ r + 2 → Ev (fun N n => lftZL src (recZ src N) n lv r x m) (x, m) := fun r hr hne =>
    Ev.rd (Ev.ifp h.er (Ev.ifp (by rw [bin_rk h hr, if_neg hne]) (Ev.pure _))) (fun N n => lftZL_succ _ _ _ _ _ _ _)
  rcases (show d = 1 ∨ d = 2 ∨ d = 3 ∨ d = 4 ∨ d = 5 ∨ d = 6 by omega) with rfl | rfl | rfl | rfl | rfl | rfl
  · exact hl 4 (by omega) (by simpa using hk)
  · exact hl 3 (by omega) (by simpa using hk)
  · have z : isZ tCat m = false := isF h (K := 30) (by omega) rfl (fun q => hk (by rw [(rk_cat _).2 q]; rfl))
    exact (show Ev (fun N n => catZ src (recZ src N) lv x m) (x, m) from Ev.ifn (fun q => q h.er) (Ev.cf z (Ev.pure _)))
  · exact hl 1 (by omega) (by simpa using hk)
  · have z : isZ tAnd m = false := isF h (K := 23) (by omega) rfl (fun q => hk (by rw [(rk_and _).2 q]; rfl))
    exact (show Ev (fun N n => andZL src (recZ src N) n lv x m) (x, m) from Ev.rd (Ev.ifp h.er (Ev.cf z (Ev.pure _))) (fun N n => andZL_succ _ _ _ _ _ _))
  · have z : isZ tOr m = false := isF h (K := 22) (by omega) rfl (fun q => hk (by rw [(rk_or _).2 q]; rfl))
    exact (show Ev (fun N n => exZL src (recZ src N) n lv x m) (x, m) from Ev.rd (Ev.ifp h.er (Ev.cf z (Ev.pure _))) (fun N n => exZL_succ _ _ _ _ _ _))
/-- Behind an error every loop ends at once. -/
theorem lp_err (h : Fl src m s) {lv : Int} (d : Nat) (x : Int) : ∃ v, Ev (lp src lv d x m) (v, m) := by
  have hl : ∀ r : Int, Ev (fun N n => lftZL src (recZ src N) n lv r x m) (0, m) := fun r => Ev.rd (Ev.ifn h.ne (Ev.pure _)) (fun N n => lftZL_succ _ _ _ _ _ _ _)
  unfold lp
  by_cases h1 : d = 1
  · exact ⟨0, Ev.ifp h1 (hl 4)⟩
  by_cases h2 : d = 2
  · exact ⟨0, Ev.ifn h1 (Ev.ifp h2 (hl 3))⟩
  by_cases h3 : d = 3
  · exact ⟨x, Ev.ifn h1 (Ev.ifn h2 (Ev.ifp h3 (Ev.ifp h.ne (Ev.pure _))))⟩
  by_cases h4 : d = 4
  · exact ⟨0, Ev.ifn h1 (Ev.ifn h2 (Ev.ifn h3 (Ev.ifp h4 (hl 1))))⟩
  by_cases h5 : d = 5
  · exact ⟨x, Ev.ifn h1 (Ev.ifn h2 (Ev.ifn h3 (Ev.ifn h4 (Ev.ifp h5 (Ev.rd (Ev.ifn h.ne (Ev.pure _)) (fun N n => andZL_succ _ _ _ _ _ _))))))⟩
  · exact ⟨x, Ev.ifn h1 (Ev.ifn h2 (Ev.ifn h3 (Ev.ifn h4 (Ev.ifn h5 (Ev.rd (Ev.ifn h.ne (Ev.pure _)) (fun N n => exZL_succ _ _ _ _ _ _))))))⟩
theorem TF_err (h : Fl src m s) {lv : Int} : ∀ (k d : Nat) (x : Int), ∃ v, TF src lv k d x m (v, m)
  | 0, d, x => ⟨x, rfl⟩
  | k + 1, d, x => by
    obtain ⟨v, hv⟩ := lp_err h (lv := lv) d x
    obtain ⟨w, hw⟩ := TF_err h k (d + 1) v
    exact ⟨w, v, m, hv, hw⟩
/-- A loop whose operator is at hand, behind it y: it goes on with x op y. -/
theorem lp_step (h : Rl src toks s m) {lv : Int} {d : Nat} (hd : 1 ≤ d ∧ d ≤ 6) (hd3 : d ≠ 3) (hk : (rk s.cur.kind).1 = 7 - (d : Int)) {x y x3 : Int} {m1 m2 m3 : PZ} {res : Int × PZ} (hn : nextZ src m = some m1) (hy : Ev (lev src (8 - (d : Int)) lv m1) (y, m2)) (h2 : m2.err = 0)
    (ha : addZ ⟨(rk s.cur.kind).2.1, x, y, 0, 0, (rk s.cur.kind).2.2, [], m.tok.at_⟩ m2 = some (x3, m3)) (hr : Ev (lp src lv d x3 m3) res) : Ev (lp src lv d x m) res := by
  have hl : ∀ r : Int, (r = 1 ∨ r = 3 ∨ r = 4) → (rk s.cur.kind).1 = r + 2 → Ev (fun N _ => (recZ src N).left lv (r + 1) m1) (y, m2) → Ev (fun N n => lftZL src (recZ src N) n lv r x3 m3) res → Ev (fun N n => lftZL src (recZ src N) n lv r x m) res := fun r hr he hy hr2 => by
    have hb := bin_rk h hr
    rw [if_pos he] at hb
    have hz := rk_nz (k := s.cur.kind) (by omega)
    refine Ev.rd (Ev.ifp h.er (Ev.ifn (by rw [hb]; exact hz.1) (Ev.b1 hn (Ev.b2 hy (Ev.ifn (fun q => q h2) (Ev.b2c ?_ hr2)))))) (fun N n => lftZL_succ _ _ _ _ _ _ _)
    rw [hb, ← hz.2]
    exact ha
  rcases (show d = 1 ∨ d = 2 ∨ d = 4 ∨ d = 5 ∨ d = 6 by omega) with rfl | rfl | rfl | rfl | rfl
  · exact hl 4 (by omega) (by simpa using hk) hy hr
  · exact hl 3 (by omega) (by simpa using hk) hy hr
  · exact hl 1 (by omega) (by simpa using hk) hy hr
  · have hk2 : s.cur.kind = 23 := (rk_and _).1 (by rw [hk]; rfl)
    have z : isZ tAnd m = true := isT h (K := 23) (by omega) rfl hk2
    rw [hk2] at ha
    exact (show Ev (fun N n => andZL src (recZ src N) n lv x m) res from Ev.rd (Ev.ifp h.er (Ev.ct z (Ev.b1 hn (Ev.b2 (show Ev (fun N _ => (recZ src N).left lv 1 m1) (y, m2) from hy) (Ev.ifn (fun q => q h2) (Ev.b2c ha hr)))))) (fun N n => andZL_succ _ _ _ _ _ _))
  · have hk2 : s.cur.kind = 22 := (rk_or _).1 (by rw [hk]; rfl)
    have z : isZ tOr m = true := isT h (K := 22) (by omega) rfl hk2
    rw [hk2] at ha
    exact (show Ev (fun N n => exZL src (recZ src N) n lv x m) res from Ev.rd (Ev.ifp h.er (Ev.ct z (Ev.b1 hn (Ev.b2 (show Ev (fun N _ => (recZ src N).andE lv m1) (y, m2) from hy) (Ev.ifn (fun q => q h2) (Ev.b2c ha hr)))))) (fun N n => exZL_succ _ _ _ _ _ _))
theorem lp_bad (h : Rl src toks s m) {lv : Int} {d : Nat} (hd : 1 ≤ d ∧ d ≤ 6) (hd3 : d ≠ 3) (hk : (rk s.cur.kind).1 = 7 - (d : Int)) {x y : Int} {m1 m2 : PZ} (hn : nextZ src m = some m1) (hy : Ev (lev src (8 - (d : Int)) lv m1) (y, m2)) (h2 : m2.err ≠ 0) : Ev (lp src lv d x m) (0, m2) := by
  have hl : ∀ r : Int, (r = 1 ∨ r = 3 ∨ r = 4) → (rk s.cur.kind).1 = r + 2 → Ev (fun N _ => (recZ src N).left lv (r + 1) m1) (y, m2) → Ev (fun N n => lftZL src (recZ src N) n lv r x m) (0, m2) := fun r hr he hy => by
    have hb := bin_rk h hr
    rw [if_pos he] at hb
    have hz := rk_nz (k := s.cur.kind) (by omega)
    exact Ev.rd (Ev.ifp h.er (Ev.ifn (by rw [hb]; exact hz.1) (Ev.b1 hn (Ev.b2 hy (Ev.ifp h2 (Ev.pure _)))))) (fun N n => lftZL_succ _ _ _ _ _ _ _)
  rcases (show d = 1 ∨ d = 2 ∨ d = 4 ∨ d = 5 ∨ d = 6 by omega) with rfl | rfl | rfl | rfl | rfl
  · exact hl 4 (by omega) (by simpa using hk) hy
  · exact hl 3 (by omega) (by simpa using hk) hy
  · exact hl 1 (by omega) (by simpa using hk) hy
  · have z : isZ tAnd m = true := isT h (K := 23) (by omega) rfl ((rk_and _).1 (by rw [hk]; rfl))
    exact (show Ev (fun N n => andZL src (recZ src N) n lv x m) (0, m2) from Ev.rd (Ev.ifp h.er (Ev.ct z (Ev.b1 hn (Ev.b2 (show Ev (fun N _ => (recZ src N).left lv 1 m1) (y, m2) from hy) (Ev.ifp h2 (Ev.pure _)))))) (fun N n => andZL_succ _ _ _ _ _ _))
  · have z : isZ tOr m = true := isT h (K := 22) (by omega) rfl ((rk_or _).1 (by rw [hk]; rfl))
    exact (show Ev (fun N n => exZL src (recZ src N) n lv x m) (0, m2) from Ev.rd (Ev.ifp h.er (Ev.ct z (Ev.b1 hn (Ev.b2 (show Ev (fun N _ => (recZ src N).andE lv m1) (y, m2) from hy) (Ev.ifp h2 (Ev.pure _)))))) (fun N n => exZL_succ _ _ _ _ _ _))
end
end Go.Zm
