/- Plain: the parser answers. -/
import Derived.Test.Qxb6500573aGreatDoorPE
import Derived.Test.Qxb6500573aGreatDoorAG
set_option linter.unusedSimpArgs false
set_option linter.unusedVariables false
set_option linter.unusedSectionVars false
namespace Go.Wl
open Go Go.Sl Go.Proofs
set_option linter.unusedVariables false
theorem WE.name_inv {q : Nat} {a : Int} {s : List UInt8} {n n' : Nat} (h : WE q (.name a s) n n') : nameOk s ∧ n' = n := by
  cases h with
  | name _ hs => exact ⟨hs, rfl⟩
theorem WE.index_inv {q : Nat} {a : Int} {x k : T} {n n' : Nat} (h : WE q (.index a x k) n n') : ∃ q1 q2 n1, WE q1 x n n1 ∧ WE q2 k n1 n' ∧ q1 ≤ q ∧ q2 + 1 ≤ q := by
  cases h with
  | index hx hk h1 h2 => exact ⟨_, _, _, hx, hk, h1, h2⟩
section
variable {toks : List Tok} {N n : Nat} {rc : Rec}
variable (hT : ToksOk N toks) (hrc : RcOk toks N n rc)
include hT hrc
theorem loopFor_ok {room : Int} (hroom : 1 ≤ room ∧ room ≤ 12) {s : PS} (hs : Gd toks s) (hlr : s.loops + room ≤ 20) (hn : 3 * rst toks s + 2 ≤ n) : RN N (loopForP toks rc room s) (Sx toks s) := by
  unfold loopForP
  rw [guard_in (by omega)]
  refine RN.bindL (name_ok hT hs 4) (fun _ => rfl) fun nm s1 h1 => ?_
  obtain ⟨h1, h2, h3⟩ := h1
  have h3' := h3 (by decide)
  have hr1 := h1.rs
  show RN N (bind2 (acceptP toks 45 s1) _) _
  rcases accept_ok hT h1.gd (k := 45) (by decide) with ⟨_, e1⟩ | ⟨_, s2, e1, e2⟩
  · rw [e1]
    show RN N (bind2 (expectP toks 38 s1) _) _
    refine RN.bindB (expect_ok hT h1.gd (k := 38) (by decide)) fun s2 e2 => ?_
    have hr2 := e2.rs
    refine RN.bind (hrc.expr (room - 1) 1 s2 e2.gd (by omega) (by decide) (by omega)) fun f s3 hf _ => ?_
    have hr3 := hf.1.rs
    refine RN.bindB (expect_ok hT hf.1.gd (k := 45) (by decide)) fun s4 h4 => ?_
    have hr4 := h4.rs
    refine RN.bind (hrc.expr (room - 1) 1 s4 h4.gd (by omega) (by decide) (by omega)) fun li s5 hl _ => ?_
    have hr5 := hl.1.rs
    have a5 : s5.alive = s.alive := by rw [hl.1.al, h4.al, hf.1.al, e2.al, h1.al]
    have l5 : s5.loops = s.loops := by rw [hl.1.lp, h4.lp, hf.1.lp, e2.lp, h1.lp]
    have wf := hf.1.we
    rw [e2.fu, h1.fu] at wf
    have wl := hl.1.we
    rw [h4.fu] at wl
    rcases accept_ok hT hl.1.gd (k := 45) (by decide) with ⟨_, d1⟩ | ⟨_, s6, d1, d2⟩
    · rw [d1]
      show RN N (bind2 (bodyP_ toks rc room 4 s5) _) _
      refine RN.bindL (body_ok hT hrc hroom (extra := 4) (by decide) hl.1.gd (by omega) (by omega) (by omega)) (fun _ => rfl) fun body s7 hb => ?_
      obtain ⟨b1, b2, b3, b4, al, b5⟩ := hb
      rw [a5, show (s.alive + 4).toNat = s.alive.toNat + 4 from by have := hs.al; omega] at b5
      refine RN.ok rfl ⟨b1, by (first | omega | (simp only [T.sz, szL, szL_snoc]; omega) | (simp only [T.sz, szL, szL_snoc] at *; omega)), by rw [b4, l5], ?_⟩
      rw [b3, a5]
      exact .for2 h2 wf wl (show _ ≤ 112 from by omega) (show _ ≤ 112 from by omega) (by have := hs.al; omega) b5
    · rw [d1]
      have hr6 := d2.rs
      show RN N (bind2 (rc.expr (room - 1) 1 s6) _) _
      refine RN.bind (hrc.expr (room - 1) 1 s6 d2.gd (by omega) (by decide) (by omega)) fun st s7 hst _ => ?_
      have hr7 := hst.1.rs
      have a7 : s7.alive = s.alive := by rw [hst.1.al, d2.al, a5]
      have l7 : s7.loops = s.loops := by rw [hst.1.lp, d2.lp, l5]
      have wst := hst.1.we
      rw [d2.fu] at wst
      refine RN.bindL (body_ok hT hrc hroom (extra := 4) (by decide) hst.1.gd (by omega) (by omega) (by omega)) (fun _ => rfl) fun body s8 hb => ?_
      obtain ⟨b1, b2, b3, b4, al, b5⟩ := hb
      rw [a7, show (s.alive + 4).toNat = s.alive.toNat + 4 from by have := hs.al; omega] at b5
      refine RN.ok rfl ⟨b1, by (first | omega | (simp only [T.sz, szL, szL_snoc]; omega) | (simp only [T.sz, szL, szL_snoc] at *; omega)), by rw [b4, l7], ?_⟩
      rw [b3, a7]
      exact .for3 h2 wf wl wst (show _ ≤ 112 from by omega) (show _ ≤ 112 from by omega) (show _ ≤ 112 from by omega) (by have := hs.al; omega) b5
  · rw [e1]
    have hr2 := e2.rs
    show RN N (bind2 (nameP toks 0 s2) _) _
    refine RN.bindL (name_ok hT e2.gd 0) (fun _ => rfl) fun nm2 s3 h4 => ?_
    obtain ⟨h4, h5, _⟩ := h4
    have hr3 := h4.rs
    refine RN.bindB (expect_ok hT h4.gd (k := 14) (by decide)) fun s4 h6 => ?_
    have hr4 := h6.rs
    refine RN.bind (hrc.expr (room - 1) 1 s4 h6.gd (by omega) (by decide) (by omega)) fun x s5 hx _ => ?_
    have hr5 := hx.1.rs
    have a5 : s5.alive = s.alive := by rw [hx.1.al, h6.al, h4.al, e2.al, h1.al]
    have l5 : s5.loops = s.loops := by rw [hx.1.lp, h6.lp, h4.lp, e2.lp, h1.lp]
    have wx := hx.1.we
    rw [h6.fu, h4.fu, e2.fu, h1.fu] at wx
    refine RN.bindL (body_ok hT hrc hroom (extra := 4) (by decide) hx.1.gd (by omega) (by omega) (by omega)) (fun _ => rfl) fun body s7 hb => ?_
    obtain ⟨b1, b2, b3, b4, al, b5⟩ := hb
    rw [a5, show (s.alive + 4).toNat = s.alive.toNat + 4 from by have := hs.al; omega] at b5
    refine RN.ok rfl ⟨b1, by (first | omega | (simp only [T.sz, szL, szL_snoc]; omega) | (simp only [T.sz, szL, szL_snoc] at *; omega)), by rw [b4, l5], ?_⟩
    rw [b3, a5]
    exact .forIn h2 h5 wx (show _ ≤ 112 from by omega) (by have := hs.al; omega) b5
theorem stmt_ok {room : Int} (hroom : 1 ≤ room ∧ room ≤ 12) {lf : Nat} {s : PS} (hs : Gd toks s) (hk0 : s.cur.kind ≠ 0) (hlr : s.loops + room ≤ 20) (hlf : rst toks s < lf) (hlf2 : rst toks s ≤ 4000) (hn : 3 * rst toks s + 3 ≤ n) : RN N (stmtP toks rc lf room s) (fun x s' => Sx toks s x s' ∧ rst toks s' + x.sz < rst toks s) := by
  have hadv : ∀ {s1 : PS} {x : T} {s' : PS}, Ad toks s s1 → Sx toks s1 x s' → Sx toks s x s' ∧ rst toks s' + x.sz < rst toks s := fun {s1 x s'} h1 h2 => by
    have hr1 := h1.rs
    have hr2 := h2.rs
    have hw := h2.ws
    rw [h1.al, h1.lp, h1.fu] at hw
    exact ⟨⟨h2.gd, by omega, h2.lp.trans h1.lp, hw⟩, by omega⟩
  unfold stmtP
  rw [guard_in (by omega)]
  by_cases k15 : s.cur.kind = 15
  · rw [if_pos k15]
    obtain ⟨s1, h1, h2⟩ := next_ok hT hs (by omega)
    rw [h1]
    have hr := h2.rs
    exact (local_ok hT hrc hroom h2.gd (by omega) (by omega)).of fun t s' h => hadv h2 h
  rw [if_neg k15]
  by_cases k13 : s.cur.kind = 13
  · rw [if_pos k13]
    refine (hrc.branch room s hs (by omega) (by omega) hlr (by omega)).of fun t s' h => ?_
    obtain ⟨a1, a2, a3, a4, a5⟩ := h
    exact ⟨⟨a1, by omega, a4, by rw [a3]; exact a5⟩, a2⟩
  rw [if_neg k13]
  by_cases k11 : s.cur.kind = 11
  · rw [if_pos k11]
    obtain ⟨s1, h1, h2⟩ := next_ok hT hs (by omega)
    rw [h1]
    have hr := h2.rs
    exact (loopFor_ok hT hrc hroom h2.gd (by rw [h2.lp]; exact hlr) (by omega)).of fun t s' h => hadv h2 h
  rw [if_neg k11]
  by_cases k21 : s.cur.kind = 21
  · rw [if_pos k21]
    obtain ⟨s1, h1, h2⟩ := next_ok hT hs (by omega)
    rw [h1]
    have hr := h2.rs
    refine RN.bind (hrc.expr (room - 1) 1 s1 h2.gd (by omega) (by decide) (by omega)) fun c s2 hc _ => ?_
    have hr2 := hc.1.rs
    have a2 : s2.alive = s.alive := by rw [hc.1.al, h2.al]
    have l2 : s2.loops = s.loops := by rw [hc.1.lp, h2.lp]
    have wc := hc.1.we
    rw [h2.fu] at wc
    refine RN.bindL (body_ok hT hrc hroom (extra := 0) (by decide) hc.1.gd (by have := hs.al; omega) (by omega) (by omega)) (fun _ => rfl) fun body s3 hb => ?_
    obtain ⟨b1, b2, b3, b4, al, b5⟩ := hb
    rw [a2, show (s.alive + 0).toNat = s.alive.toNat from by rw [Int.add_zero]] at b5
    refine RN.ok rfl ⟨⟨b1, by (first | omega | (simp only [T.sz, szL, szL_snoc]; omega) | (simp only [T.sz, szL, szL_snoc] at *; omega)), by rw [b4, l2], ?_⟩, by (first | omega | (simp only [T.sz, szL, szL_snoc]; omega) | (simp only [T.sz, szL, szL_snoc] at *; omega))⟩
    rw [b3, a2]
    exact .whl wc (show _ ≤ 112 from by omega) b5
  rw [if_neg k21]
  by_cases k5 : s.cur.kind = 5
  · rw [if_pos k5]
    by_cases hl0 : s.loops = 0
    · rw [if_pos hl0]; exact RN.bad (fail_ok hT hs (by decide))
    · rw [if_neg hl0]
      obtain ⟨s1, h1, h2⟩ := next_ok hT hs (by omega)
      rw [h1]
      have hr := h2.rs
      have hlp := hs.lp
      refine RN.ok rfl ⟨⟨h2.gd, by (first | omega | (simp only [T.sz, szL, szL_snoc]; omega) | (simp only [T.sz, szL, szL_snoc] at *; omega)), h2.lp, ?_⟩, by (first | omega | (simp only [T.sz, szL, szL_snoc]; omega) | (simp only [T.sz, szL, szL_snoc] at *; omega))⟩
      rw [h2.al, h2.fu, decide_eq_true (show 0 < s.loops from by omega)]
      exact .brk
  rw [if_neg k5]
  by_cases k18 : s.cur.kind = 18
  · rw [if_pos k18]
    obtain ⟨s1, h1, h2⟩ := next_ok hT hs (by omega)
    rw [h1]
    have hr := h2.rs
    exact (results_ok hT hrc hroom h2.gd (by omega)).of fun t s' h => hadv h2 h
  rw [if_neg k18]
  refine RN.bind (postP_ok hT hrc (room := room - 1) (by omega) hs hlf hlf2 (by omega)) fun x s1 hx _ => ?_
  have hr1 := hx.1.rs
  by_cases k38 : s1.cur.kind ≠ 38
  · rw [if_pos k38]
    cases hb : Nat.beq x.ty 302 with
    | false => exact RN.bad (fail_ok hT hx.1.gd (by decide))
    | true =>
      obtain ⟨a, f, l, rfl⟩ := ty_call hb
      refine RN.ok rfl ⟨⟨hx.1.gd, by (first | omega | (simp only [T.sz, szL, szL_snoc]; omega) | (simp only [T.sz, szL, szL_snoc] at *; omega)), hx.1.lp, ?_⟩, by (first | omega | (simp only [T.sz, szL, szL_snoc]; omega) | (simp only [T.sz, szL, szL_snoc] at *; omega))⟩
      rw [hx.1.al]
      exact .callS hx.1.we (show _ ≤ 112 from by omega)
  · rw [if_neg k38]
    cases hb : (Nat.beq x.ty 307 || Nat.beq x.ty 308) with
    | false => exact RN.bad (fail_ok hT hx.1.gd (by decide))
    | true =>
      obtain ⟨s2, h1, h2⟩ := next_ok hT hx.1.gd (by omega)
      show RN N (bind1 (nextP toks s1) _) _
      rw [h1]
      have hr2 := h2.rs
      refine RN.bind (hrc.expr (room - 1) 1 s2 h2.gd (by omega) (by decide) (by omega)) fun v s3 hv _ => ?_
      have hr3 := hv.1.rs
      have wv := hv.1.we
      rw [h2.fu] at wv
      refine RN.ok rfl ⟨⟨hv.1.gd, by (first | omega | (simp only [T.sz, szL, szL_snoc]; omega) | (simp only [T.sz, szL, szL_snoc] at *; omega)), by rw [hv.1.lp, h2.lp, hx.1.lp], ?_⟩, by (first | omega | (simp only [T.sz, szL, szL_snoc]; omega) | (simp only [T.sz, szL, szL_snoc] at *; omega))⟩
      rw [hv.1.al, h2.al, hx.1.al]
      have wx := hx.1.we
      rcases ty_lhs hb with ⟨a, s, rfl⟩ | ⟨a, y, k, rfl⟩
      · obtain ⟨w1, w2⟩ := wx.name_inv
        rw [w2] at wv
        exact .asgN w1 wv (show _ ≤ 112 from by omega)
      · obtain ⟨q1, q2, n1, w1, w2, w3, w4⟩ := wx.index_inv
        exact .asgI w1 w2 wv (show _ ≤ 112 from by omega) (show _ ≤ 112 from by omega) (show _ ≤ 112 from by omega)
theorem blockL_ok {room : Int} (hroom : 1 ≤ room ∧ room ≤ 12) {lf : Nat} (s0 : PS) (hal0 : 0 ≤ s0.alive ∧ s0.alive ≤ 12) (hlr : s0.loops + room ≤ 20) (hlf : rst toks s0 < lf) (hlf2 : rst toks s0 ≤ 4000) (hn : 3 * rst toks s0 + 3 ≤ n) : ∀ (k : Nat) (l : List T) (closed : Bool) (s : PS), Gd toks s → rst toks s + szL l ≤ rst toks s0 → s.loops = s0.loops → rst toks s < k → l.length + rst toks s ≤ 5000 → WB s0.alive.toNat (decide (0 < s0.loops)) l s0.funcs.toNat s.funcs.toNat s.alive.toNat →
    RL N (blockL toks rc lf k room s0.alive l closed s) (fun l' s' => Gd toks s' ∧ rst toks s' + szL l' ≤ rst toks s0 ∧ s'.alive = s0.alive ∧ s'.loops = s0.loops ∧ ∃ al, WB s0.alive.toNat (decide (0 < s0.loops)) l' s0.funcs.toNat s'.funcs.toNat al)
  | 0, l, closed, s, _, _, _, h, _, _ => by omega
  | k + 1, l, closed, s, hs, hr, hl, hk, hlen, hw => by
    unfold blockL
    cases he : endsP s with
    | true => exact RL.ok ⟨⟨hs.cur, hs.fu, hal0, hs.lp, hs.err⟩, hr, rfl, hl, _, hw⟩
    | false =>
      cases closed with
      | true => exact RL.bad (fail_ok hT hs (by decide))
      | false =>
        have hk0 : s.cur.kind ≠ 0 := fun q => by
          unfold endsP at he
          rw [decide_eq_true (.inl q)] at he
          cases he
        show RL N (bind2 (stmtP toks rc lf room s) _) _
        refine RL.bindN (stmt_ok hT hrc hroom (lf := lf) hs hk0 (by omega) (by omega) (by omega) (by omega)) fun x s1 hx _ => ?_
        obtain ⟨hx, hr1⟩ := hx
        rw [if_pos (by omega)]
        have hws := hx.ws
        rw [hl] at hws
        exact blockL_ok hroom s0 hal0 hlr hlf hlf2 hn k _ _ s1 hx.gd (by (first | omega | (simp only [T.sz, szL, szL_snoc]; omega) | (simp only [T.sz, szL, szL_snoc] at *; omega))) (by rw [hx.lp, hl]) (by omega) (by simp; omega) (hw.snoc hws)
theorem blockP_ok {room : Int} (hroom : -5 ≤ room ∧ room ≤ 12) {lf : Nat} {s : PS} (hs : Gd toks s) (hlr : s.loops + room ≤ 20) (hlf : rst toks s < lf) (hlf2 : rst toks s ≤ 4000) (hn : 3 * rst toks s + 3 ≤ n) :
    RL N (blockP toks rc lf room s) (fun l s' => Gd toks s' ∧ rst toks s' + szL l ≤ rst toks s ∧ s'.alive = s.alive ∧ s'.loops = s.loops ∧ ∃ al, WB s.alive.toNat (decide (0 < s.loops)) l s.funcs.toNat s'.funcs.toNat al) := by
  unfold blockP
  rw [guard_in (by omega)]
  by_cases h0 : room ≤ 0
  · rw [if_pos h0]; exact RL.bad (fail_ok hT hs (by decide))
  · rw [if_neg h0]
    exact blockL_ok hT hrc (by omega) s hs.al hlr hlf hlf2 hn lf [] false s hs (by (first | omega | (simp only [T.sz, szL, szL_snoc]; omega) | (simp only [T.sz, szL, szL_snoc] at *; omega))) rfl hlf (by simp; omega) .nil
end
theorem recP_rc {toks : List Tok} {N : Nat} (hT : ToksOk N toks) (hN : N ≤ 2048) : ∀ n, RcOk toks N n (recP toks n)
  | 0 => ⟨fun _ _ _ _ _ h => by omega, fun _ _ _ _ _ _ h => by omega, fun _ _ _ _ h => by omega, fun _ _ _ _ _ _ h => by omega⟩
  | n + 1 => by
    have ih := recP_rc hT hN n
    have hl := hT.len
    have hr : ∀ s, rst toks s ≤ 4000 := fun s => by unfold rst; omega
    refine ⟨fun room s hs h1 h2 h3 => ?_, fun room least s hs h1 h2 h3 => ?_, fun room s hs h1 h2 => ?_, fun room s hs h0 h1 h2 h3 => ?_⟩
    · exact blockP_ok hT ih h1 hs h2 (by omega) (hr s) (by omega)
    · have := hs.pos
      exact exprP_ok hT ih h1 h2 hs (by omega) (by omega)
    · have := hs.pos
      exact unaryP_ok hT ih h1 hs (by omega) (hr s) (by omega)
    · exact branchP_ok hT ih h1 hs h0 h2 (by omega)
/-- What the parser makes of the text: an error, or a tree in form. -/
theorem parse_front (src : List UInt8) : (∃ e at_, (e = 1 ∨ e = 2 ∨ (13 ≤ e ∧ e ≤ 20)) ∧ (e = 1 ↔ 2048 < src.length) ∧ (0 ≤ at_ ∧ at_ ≤ (src.length : Int)) ∧ ∀ toks0 nodes0, ∃ toks, parseS 100000 src toks0 nodes0 = some (.err e at_, toks, nodes0)) ∨
    (src.length ≤ 2048 ∧ ∃ chunk n al, n ≤ 12 ∧ szL chunk ≤ 2049 ∧ WB 0 false chunk 0 n al ∧ ∃ toks, ∀ toks0 nodes0, parseS 100000 src toks0 nodes0 = bind2 ((recF 100000).chain chunk [nd0]) fun root ns => if ns.length ≤ 1000000 then (if 300 < (ns.length : Int) - 1 then some (.err 17 src.length, toks, ns) else some (.ok ns root, toks, ns)) else none) := by
  by_cases hl : 2048 < src.length
  · exact .inl ⟨1, 0, .inl rfl, ⟨fun _ => hl, fun _ => rfl⟩, by omega, fun toks0 nodes0 => ⟨toks0, by unfold parseS; rw [if_pos (by omega)]⟩⟩
  generalize hF : (100000 : Nat) = F
  have hF1 : 9000 ≤ F := by omega
  obtain ⟨toks, hs, hT⟩ := scan_ok (src := src) (by omega) F 0 0 [] (by omega) (Nat.le_refl _) (Nat.zero_le _) (fun x hx => by cases hx)
  have hlen := hT.len
  have h0 : 0 < toks.length := by omega
  have ht0 : toks[0]? = some toks[0] := List.getElem?_eq_getElem h0
  have hg : Gd toks ⟨0, toks[0], 0, 0, 0, 0, 0⟩ := ⟨ht0, by dsimp only; omega, by dsimp only; omega, by dsimp only; omega, rfl⟩
  have hr : rst toks ⟨0, toks[0], 0, 0, 0, 0, 0⟩ ≤ 2049 := by unfold rst; dsimp only; omega
  obtain ⟨o, s', e1, e2⟩ := (recP_rc hT (by omega) F).block 12 ⟨0, toks[0], 0, 0, 0, 0, 0⟩ hg (by decide) (by dsimp only; omega) (by omega)
  have hp : ∀ toks0 nodes0, parseS F src toks0 nodes0 = finS F src toks nodes0 (o.getD []) (endS o s') := fun toks0 nodes0 => by
    unfold parseS
    rw [if_neg (by omega), hs]
    show bind1 toks[0]? _ = _
    rw [ht0]
    show bind2 _ _ = _
    rw [e1]
    rfl
  have hbad : Bad src.length (endS o s') → (∃ e at_, (e = 1 ∨ e = 2 ∨ (13 ≤ e ∧ e ≤ 20)) ∧ (e = 1 ↔ 2048 < src.length) ∧ (0 ≤ at_ ∧ at_ ≤ (src.length : Int)) ∧ ∀ toks0 nodes0, ∃ toks, parseS F src toks0 nodes0 = some (.err e at_, toks, nodes0)) := fun hb => by
    obtain ⟨b1, b2⟩ := hb
    refine ⟨_, _, .inr b1, ⟨fun q => by omega, fun q => by omega⟩, b2, fun toks0 nodes0 => ⟨toks, ?_⟩⟩
    rw [hp]
    unfold finS
    rw [if_pos (by omega)]
  rcases e2 with ⟨rfl, hb⟩ | ⟨l, rfl, g1, g2, g3, g4, al, g5⟩
  · exact .inl (hbad hb)
  · by_cases hk : s'.cur.kind ≠ 0
    · refine .inl (hbad ?_)
      unfold endS
      dsimp only
      rw [if_pos hk]
      exact fail_ok hT g1 (by decide)
    · refine .inr ⟨by omega, l, s'.funcs.toNat, al, by have := g1.fu; omega, by omega, g5, toks, fun toks0 nodes0 => ?_⟩
      rw [hp]
      unfold finS endS
      dsimp only
      rw [if_neg hk, if_neg (by rw [g1.err]; decide)]
      rfl
end Go.Wl
