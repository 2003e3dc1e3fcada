/- Plain: the parser answers: statements. -/
import Derived.Test.Qxb6500573aGreatDoorPD
set_option linter.unusedSimpArgs false
set_option linter.unusedVariables false
set_option linter.unusedSectionVars false
namespace Go.Wl
open Go Go.Sl Go.Proofs
set_option linter.unusedVariables false
section
variable (toks : List Tok)
/-- A statement has been read. -/
structure Sx (s : PS) (x : T) (s' : PS) : Prop where
  gd : Gd toks s'
  rs : rst toks s' + x.sz ≤ rst toks s
  lp : s'.loops = s.loops
  ws : WS s.alive.toNat (decide (0 < s.loops)) x s.funcs.toNat s'.funcs.toNat s'.alive.toNat
end
section
variable {toks : List Tok} {N n : Nat} {rc : Rec}
theorem ty_call {t : T} (h : Nat.beq t.ty 302 = true) : ∃ a f l, t = .call a f l := by
  have := Nat.eq_of_beq_eq_true h
  cases t with
  | call a f l => exact ⟨a, f, l, rfl⟩
  | _ => cases this
theorem ty_lhs {t : T} (h : (Nat.beq t.ty 307 || Nat.beq t.ty 308) = true) : (∃ a s, t = .name a s) ∨ ∃ a x k, t = .index a x k := by
  rw [Bool.or_eq_true] at h
  rcases h with h | h
  · have := Nat.eq_of_beq_eq_true h
    cases t with
    | name a s => exact .inl ⟨a, s, rfl⟩
    | _ => cases this
  · have := Nat.eq_of_beq_eq_true h
    cases t with
    | index a x k => exact .inr ⟨a, x, k, rfl⟩
    | _ => cases this
variable (hT : ToksOk N toks) (hrc : RcOk toks N n rc)
include hT hrc
theorem results_ok {room at_ : Int} (hroom : 1 ≤ room ∧ room ≤ 12) {s : PS} (hs : Gd toks s) (hn : 3 * rst toks s + 2 ≤ n) : RN N (resultsP toks rc room at_ s) (fun x s' => Sx toks s x s') := by
  unfold resultsP
  rw [guard_in (by omega)]
  cases he : endsP s with
  | true => exact RN.ok rfl ⟨hs, by (first | omega | (simp only [T.sz, szL, szL_snoc]; omega) | (simp only [T.sz, szL, szL_snoc] at *; omega)), rfl, .ret0⟩
  | false =>
    refine RN.bind (hrc.expr (room - 1) 1 s hs (by omega) (by decide) (by omega)) fun a s1 ha _ => ?_
    have hr1 := ha.1.rs
    rcases accept_ok hT ha.1.gd (k := 45) (by decide) with ⟨_, h1⟩ | ⟨_, s2, h1, h2⟩
    · rw [h1]
      show RN N (some (.ret at_ a .nil, s1)) _
      exact RN.ok rfl ⟨ha.1.gd, by (first | omega | (simp only [T.sz, szL, szL_snoc]; omega) | (simp only [T.sz, szL, szL_snoc] at *; omega)), ha.1.lp, by rw [ha.1.al]; exact .ret1 ha.1.we (show _ ≤ 112 from by omega)⟩
    · rw [h1]
      have hr2 := h2.rs
      show RN N (bind2 (rc.expr (room - 1) 1 s2) _) _
      refine RN.bind (hrc.expr (room - 1) 1 s2 h2.gd (by omega) (by decide) (by omega)) fun b s3 hb _ => ?_
      have hr3 := hb.1.rs
      have hw := hb.1.we
      rw [h2.fu] at hw
      exact RN.ok rfl ⟨hb.1.gd, by (first | omega | (simp only [T.sz, szL, szL_snoc]; omega) | (simp only [T.sz, szL, szL_snoc] at *; omega)), by rw [hb.1.lp, h2.lp, ha.1.lp], by rw [hb.1.al, h2.al, ha.1.al]; exact .ret2 ha.1.we hw (show _ ≤ 112 from by omega) (show _ ≤ 112 from by omega)⟩
theorem body_ok {room extra : Int} (hroom : 1 ≤ room ∧ room ≤ 12) (hex : 0 ≤ extra) {s : PS} (hs : Gd toks s) (hal : s.alive + extra ≤ 12) (hlr : s.loops + room ≤ 20) (hn : 3 * rst toks s + 2 ≤ n) :
    RL N (bodyP_ toks rc room extra s) (fun l s' => Gd toks s' ∧ rst toks s' + szL l < rst toks s ∧ s'.alive = s.alive ∧ s'.loops = s.loops ∧ ∃ al, WB (s.alive + extra).toNat true l s.funcs.toNat s'.funcs.toNat al) := by
  unfold bodyP_
  rw [guard_in (by omega)]
  refine RL.bindB (expect_ok hT hs (k := 6) (by decide)) fun s1 h1 => ?_
  have hg1 := h1.gd
  have hr1 := h1.rs
  have ha1 := h1.al
  have hl1 := h1.lp
  have hal1 := hg1.al
  have hlp1 := hg1.lp
  rw [guard_in (by omega), guard_in (by omega)]
  have hg2 : Gd toks { s1 with alive := s1.alive + extra, loops := s1.loops + 1 } := ⟨hg1.cur, hg1.fu, by dsimp only; omega, by dsimp only; omega, hg1.err⟩
  have hrr : rst toks { s1 with alive := s1.alive + extra, loops := s1.loops + 1 } = rst toks s1 := rfl
  refine RL.bindL (hrc.block (room - 1) _ hg2 (by omega) (by dsimp only; omega) (by rw [hrr]; omega)) (fun _ => rfl) fun l s3 h3 => ?_
  obtain ⟨c1, c2, c3, c4, al, c5⟩ := h3
  refine RL.bindB (expect_ok hT c1 (k := 9) (by decide)) fun s4 h4 => ?_
  have hg4 := h4.gd
  have hr4 := h4.rs
  have e1 : s4.alive = s1.alive + extra := by rw [h4.al, c3]
  have e2 : s4.loops = s1.loops + 1 := by rw [h4.lp, c4]
  rw [guard_in (by omega), guard_in (by omega)]
  refine RL.ok ⟨⟨hg4.cur, hg4.fu, by dsimp only; omega, by dsimp only; omega, hg4.err⟩, ?_, by dsimp only; omega, by dsimp only; omega, al, ?_⟩
  · show rst toks s4 + szL l < rst toks s
    rw [hrr] at c2
    omega
  · have hd : decide ((0 : Int) < ({ s1 with alive := s1.alive + extra, loops := s1.loops + 1 } : PS).loops) = true := decide_eq_true (by dsimp only; omega)
    rw [hd] at c5
    dsimp only at c5
    dsimp only
    rw [h4.fu, ← h1.fu, ← ha1]
    exact c5
theorem local_ok {room : Int} (hroom : 1 ≤ room ∧ room ≤ 12) {lf : Nat} {s : PS} (hs : Gd toks s) (hlf : rst toks s < lf) (hn : 3 * rst toks s + 2 ≤ n) : RN N (localP toks rc lf room s) (Sx toks s) := by
  have hal := hs.al
  unfold localP
  rw [guard_in (by omega)]
  by_cases k12 : s.cur.kind = 12
  · rw [if_pos k12]
    refine RN.bindB (function_ok hT hs (by omega)) fun s1 h1 => ?_
    refine RN.bindL (name_ok hT h1.1.gd 1) (fun _ => rfl) fun nm s2 h2 => ?_
    obtain ⟨h2, h3, h4⟩ := h2
    have h5 := h1.1.trans h2
    have hg := h5.gd
    have hr := h5.rs
    have ha := h5.al
    have h4' := h4 (by decide)
    have ha1 := h1.1.al
    show RN N (guardB s2.alive _) _
    rw [guard_in (by have := hg.al; omega)]
    have hg2 : Gd toks { s2 with alive := s2.alive + 1 } := ⟨hg.cur, hg.fu, by dsimp only; have := hg.al; omega, hg.lp, hg.err⟩
    have hrr : rst toks { s2 with alive := s2.alive + 1 } = rst toks s2 := rfl
    refine RN.bind (literal_ok hT hrc hroom (at_ := nm.1) hg2 (by dsimp only; rw [h5.fu]; exact h1.2) (by rw [hrr]; omega) (by rw [hrr]; omega) (q := 1) (Nat.le_refl _)) fun f s3 hf _ => ?_
    obtain ⟨hx, num, ps, body, rfl⟩ := hf
    have hrx := hx.rs
    rw [hrr] at hrx
    have hwe := hx.we
    dsimp only at hwe
    rw [h5.fu] at hwe
    refine RN.ok rfl ⟨hx.gd, by (first | omega | (simp only [T.sz, szL, szL_snoc]; omega) | (simp only [T.sz, szL, szL_snoc] at *; omega)), by rw [hx.lp]; dsimp only; rw [h5.lp], ?_⟩
    have e1 : s3.alive.toNat = s.alive.toNat + 1 := by rw [hx.al]; dsimp only; omega
    rw [e1]
    exact .locFn h3 hwe (by decide) (by omega)
  rw [if_neg k12]
  refine RN.bindL (name_ok hT hs 1) (fun _ => rfl) fun nm s1 h1 => ?_
  obtain ⟨h1, h2, h3⟩ := h1
  have h3' := h3 (by decide)
  have hr1 := h1.rs
  have ha1 := h1.al
  rcases accept_ok hT h1.gd (k := 45) (by decide) with ⟨_, e1⟩ | ⟨_, s2, e1, e2⟩
  · show RN N (bind2 (acceptP toks 45 s1) _) _
    rw [e1]
    show RN N (bind2 (acceptP toks 38 s1) _) _
    rcases accept_ok hT h1.gd (k := 38) (by decide) with ⟨_, d1⟩ | ⟨_, s2, d1, d2⟩
    · rw [d1]
      show RN N (guardB s1.alive _) _
      rw [guard_in (by omega)]
      have hg := h1.gd
      refine RN.ok rfl ⟨⟨hg.cur, hg.fu, by dsimp only; omega, hg.lp, hg.err⟩, ?_, h1.lp, ?_⟩
      · show rst toks s1 + (T.loc _ _).sz ≤ _
        (first | omega | (simp only [T.sz, szL, szL_snoc]; omega) | (simp only [T.sz, szL, szL_snoc] at *; omega))
      · dsimp only
        rw [h1.fu, show (s1.alive + 1).toNat = s.alive.toNat + 1 from by omega]
        exact .loc0 h2 (by omega)
    · rw [d1]
      have hr2 := d2.rs
      show RN N (bind2 (rc.expr (room - 1) 1 s2) _) _
      refine RN.bind (hrc.expr (room - 1) 1 s2 d2.gd (by omega) (by decide) (by omega)) fun v s3 hv _ => ?_
      have hr3 := hv.1.rs
      have hg := hv.1.gd
      have ha3 : s3.alive = s.alive := by rw [hv.1.al, d2.al, ha1]
      rw [guard_in (by omega)]
      have hwe := hv.1.we
      rw [d2.fu, h1.fu] at hwe
      refine RN.ok rfl ⟨⟨hg.cur, hg.fu, by dsimp only; omega, hg.lp, hg.err⟩, ?_, by dsimp only; rw [hv.1.lp, d2.lp, h1.lp], ?_⟩
      · show rst toks s3 + (T.loc _ _).sz ≤ _
        (first | omega | (simp only [T.sz, szL, szL_snoc]; omega) | (simp only [T.sz, szL, szL_snoc] at *; omega))
      · dsimp only
        rw [show (s3.alive + 1).toNat = s.alive.toNat + 1 from by omega]
        exact .loc1 h2 hwe (show _ ≤ 112 from by omega) (by omega)
  · show RN N (bind2 (acceptP toks 45 s1) _) _
    rw [e1]
    have hr2 := e2.rs
    show RN N (bind2 (nameP toks 2 s2) _) _
    refine RN.bindL (name_ok hT e2.gd 2) (fun _ => rfl) fun nm2 s3 h4 => ?_
    obtain ⟨h4, h5, h6⟩ := h4
    have h6' := h6 (by decide)
    have hr3 := h4.rs
    refine RN.bindB (expect_ok hT h4.gd (k := 38) (by decide)) fun s4 h7 => ?_
    have hr4 := h7.rs
    have ha4 : s4.alive = s.alive := by rw [h7.al, h4.al, e2.al, ha1]
    have ha2 : s2.alive = s.alive := by rw [e2.al, ha1]
    refine RN.bind (hrc.expr (room - 1) 1 s4 h7.gd (by omega) (by decide) (by omega)) fun v s5 hv _ => ?_
    have hg := hv.1.gd
    have hr5 := hv.1.rs
    cases hb : Nat.beq v.ty 302 with
    | false =>
      show RN N (some (.nil, failP 15 s5)) _
      exact RN.bad (fail_ok hT hg (by decide))
    | true =>
      show RN N (guardB s5.alive _) _
      have ha5 : s5.alive = s.alive := by rw [hv.1.al, ha4]
      rw [guard_in (by omega)]
      obtain ⟨a, f, l, rfl⟩ := ty_call hb
      have hwe := hv.1.we
      rw [h7.fu, h4.fu, e2.fu, h1.fu] at hwe
      refine RN.ok rfl ⟨⟨hg.cur, hg.fu, by dsimp only; omega, hg.lp, hg.err⟩, ?_, by dsimp only; rw [hv.1.lp, h7.lp, h4.lp, e2.lp, h1.lp], ?_⟩
      · show rst toks s5 + (T.loc _ _).sz ≤ _
        (first | omega | (simp only [T.sz, szL, szL_snoc]; omega) | (simp only [T.sz, szL, szL_snoc] at *; omega))
      · dsimp only
        rw [show (s5.alive + 2).toNat = s.alive.toNat + 2 from by omega]
        exact .loc2 h2 h5 hwe (show _ ≤ 112 from by omega) (by omega)
theorem branchP_ok {room : Int} (hroom : -4 ≤ room ∧ room ≤ 12) {s : PS} (hs : Gd toks s) (hk : 2 ≤ s.cur.kind) (hlr : s.loops + room ≤ 20) (hn : 3 * rst toks s + 2 ≤ n) :
    RN N (branchP toks rc room s) (fun x s' => Gd toks s' ∧ rst toks s' + x.sz < rst toks s ∧ s'.alive = s.alive ∧ s'.loops = s.loops ∧ WS s.alive.toNat (decide (0 < s.loops)) x s.funcs.toNat s'.funcs.toNat s.alive.toNat) := by
  unfold branchP
  rw [guard_in (by omega)]
  obtain ⟨s1, h1, h2⟩ := next_ok hT hs hk
  rw [h1]
  have hr1 := h2.rs
  refine RN.bind (hrc.expr (room - 1) 1 s1 h2.gd (by omega) (by decide) (by omega)) fun c s2 hc _ => ?_
  have hr2 := hc.1.rs
  have hrm := hc.2
  refine RN.bindB (expect_ok hT hc.1.gd (k := 19) (by decide)) fun s3 h3 => ?_
  have hr3 := h3.rs
  have ha3 : s3.alive = s.alive := by rw [h3.al, hc.1.al, h2.al]
  have hl3 : s3.loops = s.loops := by rw [h3.lp, hc.1.lp, h2.lp]
  have hwc := hc.1.we
  rw [h2.fu] at hwc
  refine RN.bindL (hrc.block (room - 1) s3 h3.gd (by omega) (by omega) (by omega)) (fun _ => rfl) fun th s4 h4 => ?_
  obtain ⟨c1, c2, c3, c4, a1, c5⟩ := h4
  rw [ha3, hl3, h3.fu] at c5
  show RN N (if s4.cur.kind = 8 then _ else _) _
  by_cases k8 : s4.cur.kind = 8
  · rw [if_pos k8]
    refine RN.bind (hrc.branch (room - 1) s4 c1 (by omega) (by omega) (by omega) (by omega)) fun arm s5 h5 _ => ?_
    obtain ⟨d1, d2, d3, d4, d5⟩ := h5
    rw [c3, ha3, c4, hl3] at d5
    exact RN.ok rfl ⟨d1, by (first | omega | (simp only [T.sz, szL, szL_snoc]; omega) | (simp only [T.sz, szL, szL_snoc] at *; omega)), by rw [d3, c3, ha3], by rw [d4, c4, hl3], .ife hwc (show _ ≤ 112 from by omega) c5 (.cons d5 .nil)⟩
  · rw [if_neg k8]
    rcases accept_ok hT c1 (k := 7) (by decide) with ⟨_, e1⟩ | ⟨_, s5, e1, e2⟩
    · rw [e1]
      show RN N (bind2 (expectP toks 9 s4) _) _
      refine RN.bindB (expect_ok hT c1 (k := 9) (by decide)) fun s6 h6 => ?_
      have hr6 := h6.rs
      refine RN.ok rfl ⟨h6.gd, by (first | omega | (simp only [T.sz, szL, szL_snoc]; omega) | (simp only [T.sz, szL, szL_snoc] at *; omega)), by rw [h6.al, c3, ha3], by rw [h6.lp, c4, hl3], ?_⟩
      rw [h6.fu]
      exact .ife hwc (show _ ≤ 112 from by omega) c5 .nil
    · rw [e1]
      have hr5 := e2.rs
      show RN N (bind2 (rc.block (room - 1) s5) _) _
      refine RN.bindL (hrc.block (room - 1) s5 e2.gd (by omega) (by rw [e2.lp, c4, hl3]; omega) (by omega)) (fun _ => rfl) fun el s6 h6 => ?_
      obtain ⟨f1, f2, f3, f4, a2, f5⟩ := h6
      rw [e2.al, c3, ha3, e2.lp, c4, hl3, e2.fu] at f5
      refine RN.bindB (expect_ok hT f1 (k := 9) (by decide)) fun s7 h7 => ?_
      have hr7 := h7.rs
      refine RN.ok rfl ⟨h7.gd, by (first | omega | (simp only [T.sz, szL, szL_snoc]; omega) | (simp only [T.sz, szL, szL_snoc] at *; omega)), by rw [h7.al, f3, e2.al, c3, ha3], by rw [h7.lp, f4, e2.lp, c4, hl3], ?_⟩
      rw [h7.fu]
      exact .ife hwc (show _ ≤ 112 from by omega) c5 f5
end
end Go.Wl
