/- Plain: the parser answers: expressions. -/
import Derived.Test.Qxb6500573aGreatDoorPC
set_option linter.unusedSimpArgs false
set_option linter.unusedVariables false
set_option linter.unusedSectionVars false
namespace Go.Wl
open Go Go.Sl Go.Proofs
set_option linter.unusedVariables false
theorem WE.mono {q q' : Nat} {t : T} {n n' : Nat} (h : WE q t n n') (hq : q ≤ q') : WE q' t n n' := by
  cases h with
  | lit h1 h2 => exact .lit (by omega) h2
  | num h1 h2 => exact .num (by omega) h2
  | str h1 h2 => exact .str (by omega) h2
  | name h1 h2 => exact .name (by omega) h2
  | index h1 h2 h3 h4 => exact .index h1 h2 (by omega) (by omega)
  | call h1 h2 h3 h4 h5 h6 => exact .call h1 h2 h3 (by omega) (by omega) (by omega)
  | func h1 h2 h3 h4 h5 h6 => exact .func (by omega) h2 h3 h4 h5 h6
  | table h1 h2 => exact .table h1 (by omega)
  | bin h1 h2 h3 h4 h5 => exact .bin h1 h2 h3 (by omega) (by omega)
  | log h1 h2 h3 h4 h5 h6 => exact .log h1 h2 h3 h4 (by omega) (by omega)
  | un h1 h2 h3 => exact .un h1 h2 (by omega)
section
variable {toks : List Tok} {N n : Nat} {rc : Rec}
theorem Ax.mono {q q' : Nat} {s : PS} {x : T} {s' : PS} (h : Ax toks q s x s') (hq : q ≤ q') : Ax toks q' s x s' := ⟨h.gd, h.rs, h.al, h.lp, h.we.mono hq⟩
variable (hT : ToksOk N toks) (hrc : RcOk toks N n rc)
include hT hrc
theorem literal_ok {room at_ : Int} (hroom : 1 ≤ room ∧ room ≤ 12) {lf : Nat} {s : PS} (hs : Gd toks s) (hf : s.funcs < 12) (hlf : rst toks s < lf) (hn : 3 * rst toks s ≤ n) {q : Nat} (hq : 1 ≤ q) :
    RN N (literalP toks rc lf room at_ s) (fun x s' => Ax toks q s x s' ∧ ∃ num ps body, x = .func at_ num ps body) := by
  unfold literalP
  rw [guard_in (by omega)]
  refine RN.bindB (expect_ok hT hs (k := 39) (by decide)) fun s1 h1 => ?_
  have hg1 := h1.gd
  have hfu1 := hg1.fu
  have hr1 := h1.rs
  rw [guard_in (by omega)]
  have hg2 : Gd toks { s1 with funcs := s1.funcs + 1 } := ⟨hg1.cur, by dsimp only; have := h1.fu; omega, hg1.al, hg1.lp, hg1.err⟩
  have hrr : rst toks { s1 with funcs := s1.funcs + 1 } = rst toks s1 := rfl
  refine RN.bindL (params_ok hT { s1 with funcs := s1.funcs + 1 } lf [] _ hg2 (by rw [hrr]; omega) (Nat.le_refl _) rfl rfl rfl (by simp) (fun t ht => by cases ht)) (fun _ => rfl) fun ps s2 h2 => ?_
  obtain ⟨a1, a2, a3, a4, a5, a6, a7, a8⟩ := h2
  obtain ⟨s3, b1, b2⟩ := next_ok hT a1 (by omega)
  show RN N (bind1 (nextP toks s2) _) _
  rw [b1]
  have hg3 := b2.gd
  have hr3 := b2.rs
  have hps : 0 ≤ (ps.length : Int) ∧ (ps.length : Int) ≤ 12 := by omega
  have hg4 : Gd toks { s3 with alive := (ps.length : Int), loops := 0 } := ⟨hg3.cur, hg3.fu, hps, by dsimp only; omega, hg3.err⟩
  have hrr4 : rst toks { s3 with alive := (ps.length : Int), loops := 0 } = rst toks s3 := rfl
  refine RN.bindL (hrc.block (room - 1) { s3 with alive := (ps.length : Int), loops := 0 } hg4 (by omega) (by dsimp only; omega) (by rw [hrr4]; omega)) (fun _ => rfl) fun body s5 h5 => ?_
  obtain ⟨c1, c2, c3, c4, al, c5⟩ := h5
  refine RN.bindB (expect_ok hT c1 (k := 9) (by decide)) fun s6 h6 => ?_
  have hg6 := h6.gd
  have hr6 := h6.rs
  have hfs : s2.funcs = s.funcs + 1 := by rw [a5]; dsimp only; rw [h1.fu]
  refine RN.ok rfl ⟨⟨⟨hg6.cur, hg6.fu, by dsimp only; exact hg3.al, by dsimp only; exact hg3.lp, hg6.err⟩, ?_, ?_, ?_, ?_⟩, _, _, _, rfl⟩
  · show rst toks s6 + (T.func _ _ _ _).sz < rst toks s
    (first | omega | (simp only [T.sz, szL, szL_snoc]; omega) | (simp only [T.sz, szL, szL_snoc] at *; omega))
  · dsimp only; rw [b2.al, a3]; dsimp only; rw [h1.al]
  · dsimp only; rw [b2.lp, a4]; dsimp only; rw [h1.lp]
  · dsimp only
    have e1 : s1.funcs + 1 = ((s.funcs.toNat : Nat) : Int) + 1 := by rw [h1.fu]; have := hs.fu; omega
    refine .func (n := s.funcs.toNat) (al := al) hq a7 a6 (by have := hs.fu; omega) e1 ?_
    have hd : decide ((0 : Int) < ({ s3 with alive := (ps.length : Int), loops := 0 } : PS).loops) = false := decide_eq_false (by dsimp only; omega)
    have e2 : ({ s3 with alive := (ps.length : Int), loops := 0 } : PS).alive.toNat = ps.length := by dsimp only; omega
    have e3 : ({ s3 with alive := (ps.length : Int), loops := 0 } : PS).funcs.toNat = s.funcs.toNat + 1 := by dsimp only; rw [b2.fu, hfs]; have := hs.fu; omega
    rw [hd, e2, e3] at c5
    rw [h6.fu]
    exact c5
theorem prim_ok {room : Int} (hroom : 1 ≤ room ∧ room ≤ 12) {lf : Nat} {s : PS} (hs : Gd toks s) (hlf : rst toks s < lf) (hlf2 : rst toks s ≤ 4000) (hn : 3 * rst toks s ≤ n) : RN N (primP toks rc lf room s) (Ax toks (9 * room + 2).toNat s) := by
  have hk := hs.kind hT
  have hq1 : 1 ≤ (9 * room + 2).toNat := by omega
  have hone : ∀ (t : PS → T) , 2 ≤ s.cur.kind → (∀ s', Ad toks s s' → WE (9 * room + 2).toNat (t s') s.funcs.toNat s.funcs.toNat) → (∀ s', (t s').sz = 0) → RN N (bind1 (nextP toks s) fun s' => some (t s', s')) (Ax toks (9 * room + 2).toNat s) := fun t h2 hw hz => by
    obtain ⟨s', h1, h2⟩ := next_ok hT hs h2
    rw [h1]
    have hwe := hw s' h2
    exact RN.ok hwe.nn ⟨h2.gd, by have := h2.rs; have := hz s'; omega, h2.al, h2.lp, by rw [h2.fu]; exact hwe⟩
  unfold primP
  rw [guard_in (by omega)]
  by_cases k3 : s.cur.kind = 3
  · rw [if_pos k3]
    exact hone (fun _ => .num s.cur.at_ s.cur.bits) (by omega) (fun _ _ => .num hq1 ((hk.1 (by omega)).2.num k3)) (fun _ => by simp only [T.sz])
  rw [if_neg k3]
  by_cases k4 : s.cur.kind = 4
  · rw [if_pos k4]
    exact hone (fun _ => .str s.cur.at_ s.cur.text) (by omega) (fun _ _ => .str hq1 ((hk.1 (by omega)).2.str k4)) (fun _ => by simp only [T.sz])
  rw [if_neg k4]
  by_cases k2 : s.cur.kind = 2
  · rw [if_pos k2]
    exact hone (fun _ => .name s.cur.at_ s.cur.text) (by omega) (fun _ _ => .name hq1 ((hk.1 (by omega)).2.name k2)) (fun _ => by simp only [T.sz])
  rw [if_neg k2]
  by_cases k16 : s.cur.kind = 16
  · rw [if_pos k16]
    exact hone (fun _ => .lit s.cur.at_ 12) (by omega) (fun _ _ => .lit hq1 (.inl rfl)) (fun _ => by simp only [T.sz])
  rw [if_neg k16]
  by_cases k20 : s.cur.kind = 20
  · rw [if_pos k20]
    exact hone (fun _ => .lit s.cur.at_ 13) (by omega) (fun _ _ => .lit hq1 (.inr (.inl rfl))) (fun _ => by simp only [T.sz])
  rw [if_neg k20]
  by_cases k10 : s.cur.kind = 10
  · rw [if_pos k10]
    exact hone (fun _ => .lit s.cur.at_ 14) (by omega) (fun _ _ => .lit hq1 (.inr (.inr rfl))) (fun _ => by simp only [T.sz])
  rw [if_neg k10]
  by_cases k39 : s.cur.kind = 39
  · rw [if_pos k39]
    obtain ⟨s1, h1, h2⟩ := next_ok hT hs (by omega)
    rw [h1]
    have hr := h2.rs
    refine RN.bind (hrc.expr (room - 1) 1 s1 h2.gd (by omega) (by decide) (by omega)) fun x s2 hx _ => ?_
    refine RN.bindB (expect_ok hT hx.1.gd (k := 40) (by decide)) fun s3 h3 => ?_
    exact RN.ok hx.1.we.nn (((hx.1.pre h2).post h3).mono (by omega))
  rw [if_neg k39]
  by_cases k12 : s.cur.kind = 12
  · rw [if_pos k12]
    refine RN.bindB (function_ok hT hs (by omega)) fun s1 h1 => ?_
    have hr := h1.1.rs
    exact (literal_ok hT hrc hroom h1.1.gd (by rw [h1.1.fu]; exact h1.2) (by omega) (by omega) hq1).of fun t s' h => h.1.pre h1.1
  rw [if_neg k12]
  by_cases k41 : s.cur.kind = 41
  · rw [if_pos k41]
    obtain ⟨s1, h1, h2⟩ := next_ok hT hs (by omega)
    rw [h1]
    have hr := h2.rs
    refine RN.bindL (list_ok hT hrc (room := room - 1) (closing := 42) (most := -1) (by omega) (by decide) s1 lf [] s1 h2.gd (by omega) (by omega) (by (first | omega | (simp only [T.sz, szL, szL_snoc]; omega) | (simp only [T.sz, szL, szL_snoc] at *; omega))) rfl rfl (by simp; omega) .nil (fun q => absurd rfl q)) (fun _ => rfl) fun l s2 hl => ?_
    obtain ⟨a1, a2, a3, a4, a5, _⟩ := hl
    refine RN.ok rfl ⟨a1, by (first | omega | (simp only [T.sz, szL, szL_snoc]; omega) | (simp only [T.sz, szL, szL_snoc] at *; omega)), by rw [a3, h2.al], by rw [a4, h2.lp], ?_⟩
    rw [h2.fu] at a5
    exact .table a5 (by omega)
  rw [if_neg k41]
  exact RN.bad (fail_ok hT hs (by decide))
theorem post_ok {room : Int} (hroom : 1 ≤ room ∧ room ≤ 12) {lf : Nat} (s0 : PS) (hlf : rst toks s0 < lf) (hlf2 : rst toks s0 ≤ 4000) (hn : 3 * rst toks s0 ≤ n) : ∀ (k : Nat) (x : T) (s : PS), Ax toks (9 * room + 2).toNat s0 x s → rst toks s < k → RN N (postL toks rc lf k room x s) (Ax toks (9 * room + 2).toNat s0)
  | 0, x, s, _, h => by omega
  | k + 1, x, s, hx, hk => by
    have hs := hx.gd
    have hr0 := hx.rs
    unfold postL
    rw [if_neg (by rw [hx.we.nn]; decide)]
    by_cases k46 : s.cur.kind = 46
    · rw [if_pos k46]
      obtain ⟨s1, h1, h2⟩ := next_ok hT hs (by omega)
      rw [h1]
      refine RN.bindL (name_ok hT h2.gd 0) (fun _ => rfl) fun nm s2 hnm => ?_
      obtain ⟨h3, h4, _⟩ := hnm
      have h5 := h2.trans h3
      have hr := h5.rs
      refine post_ok hroom s0 hlf hlf2 hn k _ s2 ⟨h5.gd, by (first | omega | (simp only [T.sz, szL, szL_snoc]; omega) | (simp only [T.sz, szL, szL_snoc] at *; omega)), by rw [h5.al, hx.al], by rw [h5.lp, hx.lp], ?_⟩ (by omega)
      rw [h5.fu]
      exact .index hx.we (.str (q := 1) (Nat.le_refl _) h4.2) (Nat.le_refl _) (by omega)
    rw [if_neg k46]
    by_cases k43 : s.cur.kind = 43
    · rw [if_pos k43]
      obtain ⟨s1, h1, h2⟩ := next_ok hT hs (by omega)
      rw [h1]
      have hr2 := h2.rs
      refine RN.bind (hrc.expr (room - 1) 1 s1 h2.gd (by omega) (by decide) (by omega)) fun y s2 hy _ => ?_
      refine RN.bindB (expect_ok hT hy.1.gd (k := 44) (by decide)) fun s3 h3 => ?_
      have h5 := (hy.1.pre h2).post h3
      have hr := h5.rs
      refine post_ok hroom s0 hlf hlf2 hn k _ s3 ⟨h5.gd, by (first | omega | (simp only [T.sz, szL, szL_snoc]; omega) | (simp only [T.sz, szL, szL_snoc] at *; omega)), by rw [h5.al, hx.al], by rw [h5.lp, hx.lp], .index hx.we h5.we (Nat.le_refl _) (by omega)⟩ (by omega)
    rw [if_neg k43]
    by_cases k39 : s.cur.kind = 39
    · rw [if_pos k39]
      obtain ⟨s1, h1, h2⟩ := next_ok hT hs (by omega)
      rw [h1]
      have hr2 := h2.rs
      refine RN.bindL (list_ok hT hrc (room := room - 1) (closing := 40) (most := 3) (by omega) (by decide) s1 lf [] s1 h2.gd (by omega) (by omega) (by (first | omega | (simp only [T.sz, szL, szL_snoc]; omega) | (simp only [T.sz, szL, szL_snoc] at *; omega))) rfl rfl (by simp; omega) .nil (fun q => by simp)) (fun _ => rfl) fun l s2 hl => ?_
      obtain ⟨a1, a2, a3, a4, a5, a6⟩ := hl
      have := a6 (by decide)
      rw [h2.fu] at a5
      refine post_ok hroom s0 hlf hlf2 hn k _ s2 ⟨a1, by (first | omega | (simp only [T.sz, szL, szL_snoc]; omega) | (simp only [T.sz, szL, szL_snoc] at *; omega)), by rw [a3, h2.al, hx.al], by rw [a4, h2.lp, hx.lp], .call hx.we (by omega) a5 (Nat.le_refl _) (by omega) (by omega)⟩ (by omega)
    rw [if_neg k39]
    exact RN.ok hx.we.nn hx
theorem postP_ok {room : Int} (hroom : -6 ≤ room ∧ room ≤ 12) {lf : Nat} {s : PS} (hs : Gd toks s) (hlf : rst toks s < lf) (hlf2 : rst toks s ≤ 4000) (hn : 3 * rst toks s ≤ n) : RN N (postP toks rc lf room s) (fun x s' => Ax toks (9 * room + 2).toNat s x s' ∧ 0 < room) := by
  unfold postP
  rw [guard_in (by omega)]
  by_cases h0 : room ≤ 0
  · rw [if_pos h0]; exact RN.bad (fail_ok hT hs (by decide))
  · rw [if_neg h0]
    obtain ⟨t, s1, h1, h2⟩ := prim_ok hT hrc (room := room) (by omega) hs hlf hlf2 hn
    rw [h1, show bind2 (some (t, s1)) (fun x s => postL toks rc lf lf room x s) = postL toks rc lf lf room t s1 from rfl]
    rcases h2 with ⟨q, hb⟩ | ⟨q, hx⟩
    · cases lf with
      | zero => omega
      | succ k =>
        unfold postL
        rw [if_pos q]
        exact RN.bad hb
    · have hr := hx.rs
      exact (post_ok hT hrc (by omega) s hlf hlf2 hn lf t s1 hx (by omega)).of fun t s' h => ⟨h, by omega⟩
theorem unaryP_ok {room : Int} (hroom : -5 ≤ room ∧ room ≤ 12) {lf : Nat} {s : PS} (hs : Gd toks s) (hlf : rst toks s < lf) (hlf2 : rst toks s ≤ 4000) (hn : 3 * rst toks s ≤ n) : RN N (unaryP toks rc lf room s) (fun x s' => Ax toks (9 * room + 2).toNat s x s' ∧ 0 < room) := by
  unfold unaryP
  rw [guard_in (by omega)]
  by_cases h0 : room ≤ 0
  · rw [if_pos h0]; exact RN.bad (fail_ok hT hs (by decide))
  · rw [if_neg h0]
    cases hu : unOp s.cur.kind with
    | none => exact postP_ok hT hrc (by omega) hs hlf hlf2 hn
    | some op =>
      have hop : (op = 1 ∨ op = 2 ∨ op = 3) ∧ 2 ≤ s.cur.kind := by
        unfold unOp at hu
        split at hu
        · injection hu with hu; omega
        · split at hu
          · injection hu with hu; omega
          · split at hu
            · injection hu with hu; omega
            · cases hu
      obtain ⟨s1, h1, h2⟩ := next_ok hT hs hop.2
      show RN N (bind1 (nextP toks s) _) _
      rw [h1]
      have hr := h2.rs
      refine RN.bind (hrc.unary (room - 1) s1 h2.gd (by omega) (by omega)) fun x s2 hx _ => ?_
      have h5 := hx.1.pre h2
      exact RN.ok rfl ⟨⟨h5.gd, by have := hx.1.rs; (first | omega | (simp only [T.sz, szL, szL_snoc]; omega) | (simp only [T.sz, szL, szL_snoc] at *; omega)), h5.al, h5.lp, .un hop.1 h5.we (by omega)⟩, by omega⟩
omit hT hrc in
theorem binds_ok {b : Int × Int × Int} (h : b ∈ bindsL) : (1 ≤ b.1 ∧ b.1 ≤ 6) ∧ ((b.2.1 = 22 ∧ ((1 ≤ b.2.2 ∧ b.2.2 ≤ 6) ∨ (11 ≤ b.2.2 ∧ b.2.2 ≤ 16) ∨ b.2.2 = 20)) ∨ ((b.2.1 = 24 ∨ b.2.1 = 25) ∧ 0 ≤ b.2.2 ∧ b.2.2 ≤ 100)) := by
  have : ∀ b ∈ bindsL, (1 ≤ b.1 ∧ b.1 ≤ 6) ∧ ((b.2.1 = 22 ∧ ((1 ≤ b.2.2 ∧ b.2.2 ≤ 6) ∨ (11 ≤ b.2.2 ∧ b.2.2 ≤ 16) ∨ b.2.2 = 20)) ∨ ((b.2.1 = 24 ∨ b.2.1 = 25) ∧ 0 ≤ b.2.2 ∧ b.2.2 ≤ 100)) := by decide
  exact this b h
theorem exprL_ok {room least : Int} (hroom : 1 ≤ room ∧ room ≤ 12) (hle : 1 ≤ least ∧ least ≤ 7) (s0 : PS) (hn : 3 * rst toks s0 ≤ n) : ∀ (k : Nat) (x : T) (s : PS), Ax toks (9 * room + 9 - least).toNat s0 x s → rst toks s < k → RN N (exprL toks rc k room least x s) (Ax toks (9 * room + 9 - least).toNat s0)
  | 0, x, s, _, h => by omega
  | k + 1, x, s, hx, hk => by
    have hs := hx.gd
    have hr0 := hx.rs
    unfold exprL
    rw [if_neg (by rw [hx.we.nn]; decide)]
    by_cases k1 : s.cur.kind < 22
    · rw [if_pos k1]; exact RN.ok hx.we.nn hx
    rw [if_neg k1]
    by_cases k2 : 36 < s.cur.kind
    · rw [if_pos k2]; exact RN.ok hx.we.nn hx
    rw [if_neg k2]
    have hbl : bindsL.length = 15 := by decide
    have hi : (s.cur.kind - 22).toNat < bindsL.length := by omega
    rw [List.getElem?_eq_getElem hi]
    dsimp only
    obtain ⟨b1, b2⟩ := binds_ok (List.getElem_mem hi)
    generalize bindsL[(s.cur.kind - 22).toNat] = b at b1 b2
    by_cases hb : b.1 < least
    · rw [if_pos hb]; exact RN.ok hx.we.nn hx
    rw [if_neg hb]
    obtain ⟨s1, h1, h2⟩ := next_ok hT hs (by omega)
    rw [h1]
    have hr := h2.rs
    have hy : RN N (if b.1 = 4 then rc.expr (room - 1) 4 s1 else rc.expr room (b.1 + 1) s1) (fun y s2 => Ax toks (9 * room + 8 - b.1).toNat s1 y s2) := by
      by_cases b4 : b.1 = 4
      · rw [if_pos b4]
        exact (hrc.expr (room - 1) 4 s1 h2.gd (by omega) (by decide) (by omega)).of fun t s' h => h.1.mono (by omega)
      · rw [if_neg b4]
        exact (hrc.expr room (b.1 + 1) s1 h2.gd (by omega) (by omega) (by omega)).of fun t s' h => h.1.mono (by omega)
    show RN N (bind2 (if b.1 = 4 then rc.expr (room - 1) 4 s1 else rc.expr room (b.1 + 1) s1) _) _
    refine RN.bind hy fun y s2 hy _ => ?_
    have h5 := hy.pre h2
    have hr5 := h5.rs
    refine exprL_ok hroom hle s0 hn k _ s2 ⟨h5.gd, by (first | omega | (simp only [T.sz, szL, szL_snoc]; omega) | (simp only [T.sz, szL, szL_snoc] at *; omega)), by rw [h5.al, hx.al], by rw [h5.lp, hx.lp], ?_⟩ (by omega)
    rcases b2 with ⟨e1, e2⟩ | ⟨e1, e2⟩
    · rw [e1]; exact .bin e2 hx.we h5.we (Nat.le_refl _) (by omega)
    · exact .log e1 e2 hx.we h5.we (Nat.le_refl _) (by omega)
theorem exprP_ok {room least : Int} (hroom : -5 ≤ room ∧ room ≤ 12) (hle : 1 ≤ least ∧ least ≤ 7) {lf : Nat} {s : PS} (hs : Gd toks s) (hlf : rst toks s < lf) (hn : 3 * rst toks s + 1 ≤ n) : RN N (exprP toks rc lf room least s) (fun x s' => Ax toks (9 * room + 9 - least).toNat s x s' ∧ 0 < room) := by
  unfold exprP
  rw [guard_in (by omega)]
  obtain ⟨t, s1, h1, h2⟩ := hrc.unary room s hs hroom (by omega)
  rw [h1, show bind2 (some (t, s1)) (fun x s => exprL toks rc lf room least x s) = exprL toks rc lf room least t s1 from rfl]
  rcases h2 with ⟨q, hb⟩ | ⟨q, hx, hr⟩
  · cases lf with
    | zero => omega
    | succ k =>
      unfold exprL
      rw [if_pos q]
      exact RN.bad hb
  · have hrr := hx.rs
    exact (exprL_ok hT hrc (by omega) hle s (by omega) lf t s1 (hx.mono (by omega)) (by omega)).of fun t s' h => ⟨h, hr⟩
end
end Go.Wl
