/- Plain: the two parsers: statements, blocks. -/
import Derived.Test.Qxb6500573aGreatDoorZQ
namespace Go.Zm
open Go Go.Sl Go.Wl Go.Nm Go.Proofs
set_option linter.unusedVariables false
set_option linter.unusedSectionVars false
theorem blkZL_succ (rc : RZ) (n : Nat) (lv saved first last : Int) (m : PZ) : blkZL rc (n + 1) lv saved first last m =
    bif endZ m then some (first, { m with alive := saved })
    else bind1 (shutZ last m) fun sh => bif sh then some (0, failZ 15 m)
    else bind2 (rc.stmt lv m) fun x m1 => if m1.err ≠ 0 then some (0, m1)
    else if first = 0 then blkZL rc n lv saved x x m1 else bind1 (setNx last x m1) fun m2 => blkZL rc n lv saved first x m2 := rfl
section
variable {src : List UInt8} {toks : List Tok} {rc : Rec} (hT : TOk toks) (ih : IH src toks rc)
include hT ih
theorem stmt_eq {room : Int} (hroom : 1 ≤ room ∧ room ≤ 12) {lf : Nat} {s s' : PS} {m : PZ} {t : T} (hR : Rl src toks s m) (h : stmtP toks rc lf room s = some (t, s')) :
    RSt src toks s m (fun N _ => (recZ src N).stmt (13 - room) m) t s' := by
  have hb := hR.bd hT
  have hnb := hR.nb
  unfold stmtP at h
  obtain ⟨_, h⟩ := Wl.grd h
  have up : ∀ {f : Nat → Nat → Option (Int × PZ)}, RSt src toks s m f t s' → (∀ N n, stmtZ src (recZ src N) (13 - room) m = guardB (13 - room) (f N n)) → RSt src toks s m (fun N _ => (recZ src N).stmt (13 - room) m) t s' := fun hE e => by
    obtain ⟨x, m', hev, hres⟩ := hE
    exact ⟨x, m', Ev.up (f := fun N n => stmtZ src (recZ src N) (13 - room) m) ((Ev.grd (by omega) hev).of e) (fun N => stmt_up src N _ _), hres⟩
  have e15 := isR hR (K := 15) (by omega) tLocal rfl
  have e13 := isR hR (K := 13) (by omega) tIf rfl
  have e11 := isR hR (K := 11) (by omega) tFor rfl
  have e21 := isR hR (K := 21) (by omega) tWhile rfl
  have e5 := isR hR (K := 5) (by omega) tBreak rfl
  have e18 := isR hR (K := 18) (by omega) tReturn rfl
  by_cases c15 : s.cur.kind = 15
  · rw [if_pos c15] at h
    obtain ⟨s1, hn, h⟩ := bnd1 h
    obtain ⟨m1, k1, k2, k3, k4, _⟩ := nextR hR hn
    exact up (loc_eq hT ih hroom hR k1 k3 k4 k2 h) (fun N n => by unfold stmtZ; rw [e15, decide_eq_true c15]; rfl)
  rw [if_neg c15] at h
  by_cases c13 : s.cur.kind = 13
  · rw [if_pos c13] at h
    exact up (ih.branch hroom hR h) (fun N n => by unfold stmtZ; rw [e15, decide_eq_false c15, e13, decide_eq_true c13]; rfl)
  rw [if_neg c13] at h
  by_cases c11 : s.cur.kind = 11
  · rw [if_pos c11] at h
    obtain ⟨s1, hn, h⟩ := bnd1 h
    obtain ⟨m1, k1, k2, k3, k4, _⟩ := nextR hR hn
    exact up (for_eq hT ih hroom hR k1 k3 k4 k2 h) (fun N n => by unfold stmtZ; rw [e15, decide_eq_false c15, e13, decide_eq_false c13, e11, decide_eq_true c11]; rfl)
  rw [if_neg c11] at h
  by_cases c21 : s.cur.kind = 21
  · rw [if_pos c21] at h
    obtain ⟨s1, hn, h⟩ := bnd1 h
    obtain ⟨m1, k1, k2, k3, k4, _⟩ := nextR hR hn
    refine up (f := fun N n => bind1 (nextZ src m) fun m1 => bind2 ((recZ src N).expr (13 - room + 1) m1) fun c m2 => if m2.err ≠ 0 then some (0, m2) else bind2 ((recZ src N).body (13 - room) 0 m2) fun b m3 => if m3.err ≠ 0 then some (0, m3) else addZ ⟨7, c, b, 0, 0, 0, [], m.tok.at_⟩ m3) ?_ (fun N n => by unfold stmtZ; rw [e15, decide_eq_false c15, e13, decide_eq_false c13, e11, decide_eq_false c11, e21, decide_eq_true c21]; rfl)
    obtain ⟨c, s2, hx, h⟩ := bnd2 h
    obtain ⟨cv, m2, hev2, hres2⟩ := ex1 hT ih hroom k2 hx
    rcases hres2 with ⟨ht, hF⟩ | ⟨ht, hO⟩
    · rw [if_pos ht] at h
      injection h with h; injection h with h1 h2; subst h1; subst h2
      exact ⟨0, m2, Ev.b1 k1 (Ev.b2 hev2 (Ev.ifp hF.ne (Ev.pure _))), .inl ⟨rfl, hF⟩⟩
    · rw [if_neg (by rw [ht]; decide)] at h
      obtain ⟨r, s3, hbd, h⟩ := bnd2 h
      obtain ⟨bv, m3, hev3, hres3⟩ := body_eq hT ih hroom (.inl rfl) hO.rl hbd
      rcases hres3 with ⟨rfl, hF⟩ | ⟨l, rfl, hO3⟩
      · injection h with h; injection h with h1 h2; subst h1; subst h2
        exact ⟨0, m3, Ev.b1 k1 (Ev.b2 hev2 (Ev.ifn (fun q => q hO.rl.er) (Ev.b2 hev3 (Ev.ifp hF.ne (Ev.pure _))))), .inl ⟨rfl, hF⟩⟩
      · injection h with h; injection h with h1 h2; subst h1; subst h2
        have g1 := hO.ge
        have g2 := hO.gr
        have hla := hO.la
        rw [k4] at g1 g2 hla
        have g3 := hO3.ge
        have g4 := hO3.gr
        have := OkS.fin hT hO3.rl (s := s) (m := m) (t := .whl s.cur.at_ c l) (d := ⟨7, cv, bv, 0, 0, 0, [], m.tok.at_⟩) (by omega) (by omega) hR (by rw [hR.tk.at_]; exact LS.whl hla hO3.la (by have := hO3.rl.bd hT; omega)) (by simp [T.ty])
        exact ⟨_, _, Ev.b1 k1 (Ev.b2 hev2 (Ev.ifn (fun q => q hO.rl.er) (Ev.b2 hev3 (Ev.ifn (fun q => q hO3.rl.er) (Ev.const this.1))))), .inr ⟨rfl, this.2⟩⟩
  rw [if_neg c21] at h
  by_cases c5 : s.cur.kind = 5
  · rw [if_pos c5] at h
    refine up (f := fun N n => if m.loops = 0 then some (0, failZ 15 m) else bind1 (nextZ src m) fun m1 => addZ ⟨11, 0, 0, 0, 0, 0, [], m.tok.at_⟩ m1) ?_ (fun N n => by unfold stmtZ; rw [e15, decide_eq_false c15, e13, decide_eq_false c13, e11, decide_eq_false c11, e21, decide_eq_false c21, e5, decide_eq_true c5]; rfl)
    split at h
    · rename_i cl
      injection h with h; injection h with h1 h2; subst h1; subst h2
      exact ⟨0, _, Ev.ifp (by rw [hR.lp]; exact cl) (Ev.pure _), .inl ⟨rfl, failR hT hR (by decide)⟩⟩
    · rename_i cl
      obtain ⟨s1, hn, h⟩ := bnd1 h
      injection h with h; injection h with h1 h2; subst h1; subst h2
      obtain ⟨m1, k1, k2, k3, k4, _⟩ := nextR hR hn
      have := OkS.fin hT k2 (s := s) (m := m) (t := .brk s.cur.at_) (d := ⟨11, 0, 0, 0, 0, 0, [], m.tok.at_⟩) (by rw [k4]; omega) (by rw [k4]; omega) hR (by rw [hR.tk.at_, k4]; exact LS.brk (by omega)) (by simp [T.ty])
      exact ⟨_, _, Ev.ifn (by rw [hR.lp]; exact cl) (Ev.b1 k1 (Ev.const this.1)), .inr ⟨rfl, this.2⟩⟩
  rw [if_neg c5] at h
  by_cases c18 : s.cur.kind = 18
  · rw [if_pos c18] at h
    obtain ⟨s1, hn, h⟩ := bnd1 h
    obtain ⟨m1, k1, k2, k3, k4, _⟩ := nextR hR hn
    obtain ⟨v, m', hev, hres⟩ := ret_eq hT ih hroom hR k3 k4 k2 h
    exact up (f := fun N n => bind1 (nextZ src m) fun m1 => retZ src (recZ src N) (13 - room) m.tok.at_ m1) ⟨v, m', Ev.b1 k1 hev, hres⟩ (fun N n => by unfold stmtZ; rw [e15, decide_eq_false c15, e13, decide_eq_false c13, e11, decide_eq_false c11, e21, decide_eq_false c21, e5, decide_eq_false c5, e18, decide_eq_true c18]; rfl)
  rw [if_neg c18] at h
  refine up (f := fun N n => bind2 ((recZ src N).post (13 - room + 1) m) fun x m1 => if m1.err ≠ 0 then some (0, m1)
    else bif isZ tEq m1 then (bind1 (nodeZ x m1) fun d => if d.k ≠ 17 ∧ d.k ≠ 18 then some (0, failZ 15 m1)
      else bind1 (nextZ src m1) fun m2 => bind2 ((recZ src N).expr (13 - room + 1) m2) fun e m3 => if m3.err ≠ 0 then some (0, m3) else addZ ⟨4, x, e, 0, 0, 0, [], m1.tok.at_⟩ m3)
    else bind1 (nodeZ x m1) fun d => if d.k ≠ 19 then some (0, failZ 15 m1) else addZ ⟨5, x, 0, 0, 0, 0, [], d.at_⟩ m1) ?_ (fun N n => by unfold stmtZ; rw [e15, decide_eq_false c15, e13, decide_eq_false c13, e11, decide_eq_false c11, e21, decide_eq_false c21, e5, decide_eq_false c5, e18, decide_eq_false c18]; rfl)
  obtain ⟨x, s1, hx, h⟩ := bnd2 h
  obtain ⟨xv, m1, hev, hres⟩ := post_eq hT ih (room := room - 1) (by omega) hR hx
  rw [lv1] at hev
  rcases hres with ⟨ht, hF⟩ | ⟨ht, _, hO⟩
  · rw [if_pos ht] at h
    injection h with h; injection h with h1 h2; subst h1; subst h2
    exact ⟨0, m1, Ev.b2 hev (Ev.ifp hF.ne (Ev.pure _)), .inl ⟨rfl, hF⟩⟩
  · rw [if_neg (by rw [ht]; decide)] at h
    have hR1 := hO.rl
    have g1 := hO.ge
    have g2 := hO.gr
    obtain ⟨d, hd1, hd2, hd3⟩ := hO.tp
    obtain ⟨q19, q17, q18⟩ := hO.kd
    split at h
    · rename_i c38
      have z : isZ tEq m1 = false := isF hR1 (K := 38) (by omega) rfl c38
      cases hty : Nat.beq x.ty 302 with
      | true =>
        rw [hty] at h
        injection h with h; injection h with h1 h2; subst h1; subst h2
        obtain ⟨a, f, l, rfl⟩ := ty_call hty
        have h19 : ¬ d.k ≠ 19 := fun q => q (by rw [hd2]; rfl)
        have hat : d.at_ = a := hd3 a f l rfl
        have := OkS.fin hT hR1 (s := s) (m := m) (t := .callS (.call a f l)) (d := ⟨5, xv, 0, 0, 0, 0, [], d.at_⟩) (by omega) (by omega) hR (by rw [hat]; exact LS.callS hO.la (by have := hR1.bd hT; omega)) (by simp [T.ty])
        exact ⟨_, _, Ev.b2 hev (Ev.ifn (fun q => q hR1.er) (Ev.cf z (Ev.b1 hd1 (Ev.ifn h19 (Ev.const this.1))))), .inr ⟨rfl, this.2⟩⟩
      | false =>
        rw [hty] at h
        injection h with h; injection h with h1 h2; subst h1; subst h2
        have h19 : d.k ≠ 19 := fun q => by
          rw [hd2] at q
          rw [q19.1 q] at hty
          exact absurd hty (by decide)
        exact ⟨0, _, Ev.b2 hev (Ev.ifn (fun q => q hR1.er) (Ev.cf z (Ev.b1 hd1 (Ev.ifp h19 (Ev.pure _))))), .inl ⟨rfl, failR hT hR1 (by decide)⟩⟩
    · rename_i c38
      have z : isZ tEq m1 = true := isT hR1 (K := 38) (by omega) rfl (Decidable.not_not.1 c38)
      cases hty : (Nat.beq x.ty 307 || Nat.beq x.ty 308) with
      | true =>
        rw [hty] at h
        dsimp only [cond_true] at h
        have hnn : ¬ (d.k ≠ 17 ∧ d.k ≠ 18) := by
          rintro ⟨n1, n2⟩
          rw [hd2] at n1 n2
          rcases Bool.or_eq_true_iff.1 hty with q | q
          · exact n1 (q17.2 (Nat.eq_of_beq_eq_true q))
          · exact n2 (q18.2 (Nat.eq_of_beq_eq_true q))
        obtain ⟨s2, hn2, h⟩ := bnd1 h
        obtain ⟨m2, k1, k2, k3, k4, _⟩ := nextR hR1 hn2
        obtain ⟨v, s3, hv, h⟩ := bnd2 h
        obtain ⟨vv, m3, hev3, hres3⟩ := ex1 hT ih hroom k2 hv
        rcases hres3 with ⟨ht3, hF⟩ | ⟨ht3, hO3⟩
        · rw [if_pos ht3] at h
          injection h with h; injection h with h1 h2; subst h1; subst h2
          exact ⟨0, m3, Ev.b2 hev (Ev.ifn (fun q => q hR1.er) (Ev.ct z (Ev.b1 hd1 (Ev.ifn hnn (Ev.b1 k1 (Ev.b2 hev3 (Ev.ifp hF.ne (Ev.pure _)))))))), .inl ⟨rfl, hF⟩⟩
        · rw [if_neg (by rw [ht3]; decide)] at h
          injection h with h; injection h with h1 h2; subst h1; subst h2
          have g3 := hO3.ge
          have g4 := hO3.gr
          have hlb := hO3.la
          rw [k4] at g3 g4 hlb
          have := OkS.fin hT hO3.rl (s := s) (m := m) (t := .asg s1.cur.at_ x v) (d := ⟨4, xv, vv, 0, 0, 0, [], m1.tok.at_⟩) (by omega) (by omega) hR (by rw [hR1.tk.at_]; exact LS.asg hO.la hlb (by have := hO3.rl.bd hT; omega)) (by simp [T.ty])
          exact ⟨_, _, Ev.b2 hev (Ev.ifn (fun q => q hR1.er) (Ev.ct z (Ev.b1 hd1 (Ev.ifn hnn (Ev.b1 k1 (Ev.b2 hev3 (Ev.ifn (fun q => q hO3.rl.er) (Ev.const this.1)))))))), .inr ⟨rfl, this.2⟩⟩
      | false =>
        rw [hty] at h
        injection h with h; injection h with h1 h2; subst h1; subst h2
        have hyy : d.k ≠ 17 ∧ d.k ≠ 18 := by
          rw [hd2]
          refine ⟨fun q => ?_, fun q => ?_⟩
          · rw [q17.1 q] at hty; exact absurd hty (by decide)
          · rw [q18.1 q] at hty; exact absurd hty (by decide)
        exact ⟨0, _, Ev.b2 hev (Ev.ifn (fun q => q hR1.er) (Ev.ct z (Ev.b1 hd1 (Ev.ifp hyy (Ev.pure _))))), .inl ⟨rfl, failR hT hR1 (by decide)⟩⟩
theorem blk_eq {room : Int} (hroom : 1 ≤ room ∧ room ≤ 12) {lf : Nat} {alive : Int} {s0 : PS} {m0 : PZ} :
    ∀ (k : Nat) (l : List T) (closed : Bool) (s : PS) (m : PZ) (first last : Int) (r : Option (List T)) (s' : PS), Rl src toks s m → LC l m0.nodes first last m.nodes → l.length ≤ s.i → m0.nodes.length ≤ m.nodes.length →
      ((l = [] ∧ first = 0 ∧ last = 0 ∧ closed = false) ∨ (l ≠ [] ∧ 0 < first ∧ ∃ (la : Nat) (d : Nd), last = la ∧ la ≠ 0 ∧ la < m.nodes.length ∧ nodeZ last m = some d ∧ closed = decide (d.k = 10 ∨ d.k = 11))) → m.nodes.length + 4 * s0.i ≤ m0.nodes.length + 4 * s.i → blockL toks rc lf k room alive l closed s = some (r, s') →
      ∃ x m', Ev (fun N n => blkZL (recZ src N) n (13 - room) alive first last m) (x, m') ∧ ((r = none ∧ Fl src m' s') ∨ ∃ l', r = some l' ∧ OkL src toks s0 m0 l' x s' m' 0) := by
  intro k
  induction k with
  | zero => intro l closed s m first last r s' _ _ _ _ _ _ h; cases h
  | succ k ihk =>
    intro l closed s m first last r s' hR hL hli hge hfl hgr h
    have hll : l.length < 100000 := by have := hR.lt; have := hT.len; omega
    rw [blockL] at h
    have hen := endZ_eq hR.tk
    cases he : endsP s with
    | true =>
      rw [he] at h hen
      injection h with h; injection h with h1 h2; subst h1; subst h2
      exact ⟨first, _, Ev.rd (Ev.ct hen (Ev.pure _)) (fun N n => blkZL_succ _ _ _ _ _ _ _), .inr ⟨l, rfl, ⟨hR.cur, hR.tk, hR.st, hR.ps, rfl, hR.lp, hR.fu, hR.er, hR.se, hR.nb, hR.f0⟩, hL.ll hll, hge, by dsimp only; omega⟩⟩
    | false =>
      rw [he] at h hen
      dsimp only [cond_false] at h
      have hsh : shutZ last m = some closed := by
        unfold shutZ
        rcases hfl with ⟨_, _, rfl, rfl⟩ | ⟨_, _, la, d, rfl, hl0, _, hd, hc⟩
        · rw [if_neg (fun q => q rfl)]
        · rw [if_pos (by omega), hd, hc]
          rfl
      cases closed with
      | true =>
        injection h with h; injection h with h1 h2; subst h1; subst h2
        exact ⟨0, _, Ev.rd (Ev.cf hen (Ev.b1 hsh (Ev.ct rfl (Ev.pure _)))) (fun N n => blkZL_succ _ _ _ _ _ _ _), .inl ⟨rfl, failR hT hR (by decide)⟩⟩
      | false =>
        dsimp only [cond_false] at h
        obtain ⟨t, s1, hx, h⟩ := bnd2 h
        obtain ⟨xv, m1, hev, hres⟩ := stmt_eq hT ih hroom hR hx
        rcases hres with ⟨ht, hF⟩ | ⟨ht, hO⟩
        · rw [if_pos ht] at h
          injection h with h; injection h with h1 h2; subst h1; subst h2
          exact ⟨0, m1, Ev.rd (Ev.cf hen (Ev.b1 hsh (Ev.cf rfl (Ev.b2 hev (Ev.ifp hF.ne (Ev.pure _)))))) (fun N n => blkZL_succ _ _ _ _ _ _ _), .inl ⟨rfl, hF⟩⟩
        · rw [if_neg (by rw [ht]; decide)] at h
          first | rw [if_pos hll] at h | skip
          have g1 := hO.ge
          have g2 := hO.gr
          obtain ⟨hxp, hxg⟩ := hO.xp
          obtain ⟨d, hd, hdk⟩ := hO.tp
          obtain ⟨xn, hxn, hxe, hdn⟩ := nodeZ_some hd
          have hcl : (Nat.beq t.ty 233 || Nat.beq t.ty 234) = decide (d.k = 10 ∨ d.k = 11) := by
            by_cases c : d.k = 10 ∨ d.k = 11
            · rw [decide_eq_true c]
              rcases hdk.1 c with q | q
              · rw [q]; rfl
              · rw [q]; rfl
            · rw [decide_eq_false c]
              have := fun q => c (hdk.2 q)
              cases e1 : Nat.beq t.ty 233 with
              | true => exact absurd (.inl (Nat.eq_of_beq_eq_true e1)) this
              | false =>
                cases e2 : Nat.beq t.ty 234 with
                | true => exact absurd (.inr (Nat.eq_of_beq_eq_true e2)) this
                | false => rfl
          rw [hcl] at h
          have hi1 : s.i < s1.i ∨ m1.nodes.length = m.nodes.length := by omega
          have hgrow : m.nodes.length < m1.nodes.length := by omega
          rcases hfl with ⟨rfl, rfl, rfl, _⟩ | ⟨hne, hf0, la, d0, rfl, hla0, hla, hd0, _⟩
          · obtain ⟨y, m3, hev3, hres3⟩ := ihk ([] ++ [t]) _ s1 m1 xv xv r s' hO.rl (LC.one hL hO.la.y) (by simp; omega) (by omega) (.inr ⟨by simp, hxp, xn, d, hxe, by omega, hxn, hd, rfl⟩) (by omega) h
            exact ⟨y, m3, Ev.rd (Ev.cf hen (Ev.b1 hsh (Ev.cf rfl (Ev.b2 hev (Ev.ifn (fun q => q hO.rl.er) (Ev.ifp rfl hev3)))))) (fun N n => blkZL_succ _ _ _ _ _ _ _), hres3⟩
          · have hqn : la < m1.nodes.length := by omega
            have hd' : nodeZ xv { m1 with nodes := m1.nodes.set la { m1.nodes[la] with next := xv } } = some d := by
              unfold nodeZ
              rw [dif_pos ⟨by omega, by simp; omega⟩]
              simp only [hxe, Int.toNat_natCast]
              rw [List.getElem_set_ne (by omega)]
              exact congrArg some hdn
            obtain ⟨y, m3, hev3, hres3⟩ := ihk (l ++ [t]) _ s1 _ first xv r s' (hO.rl.set hqn xv) (LC.more hL hO.la.y hla0 hqn) (by simp only [List.length_append, List.length_singleton]; omega) (by simp only [List.length_set]; omega) (.inr ⟨by simp, hf0, xn, d, hxe, by omega, by simpa using hxn, hd', rfl⟩) (by simp only [List.length_set]; omega) h
            exact ⟨y, m3, Ev.rd (Ev.cf hen (Ev.b1 hsh (Ev.cf rfl (Ev.b2 hev (Ev.ifn (fun q => q hO.rl.er) (Ev.ifn (by omega) (Ev.b1 (setNx_ok hqn xv) hev3))))))) (fun N n => blkZL_succ _ _ _ _ _ _ _), hres3⟩
theorem block_eq {room : Int} (hroom : -5 ≤ room ∧ room ≤ 12) {lf : Nat} {s s' : PS} {m : PZ} {r : Option (List T)} (hR : Rl src toks s m) (h : blockP toks rc lf room s = some (r, s')) :
    RLs src toks s m (fun N _ => (recZ src N).block (13 - room) m) r s' 0 := by
  unfold blockP at h
  obtain ⟨_, h⟩ := Wl.grd h
  split at h
  · rename_i c
    injection h with h; injection h with h1 h2; subst h1; subst h2
    exact ⟨0, _, Ev.up (f := fun N n => blockZ (recZ src N) n (13 - room) m) (Ev.grd (by omega) (Ev.b2c (deepT hT ih c) (Ev.ct rfl (Ev.pure _)))) (fun N => block_up src N _ _), .inl ⟨rfl, failR hT hR (by decide)⟩⟩
  · rename_i c
    rw [← hR.al] at h
    obtain ⟨x, m', hev, hres⟩ := blk_eq hT ih (by omega) (s0 := s) (m0 := m) lf [] false s m 0 0 r s' hR (LC.nil _) (Nat.zero_le _) (Nat.le_refl _) (.inl ⟨rfl, rfl, rfl, rfl⟩) (Nat.le_refl _) h
    exact ⟨x, m', Ev.up (f := fun N n => blockZ (recZ src N) n (13 - room) m) (Ev.grd (by omega) (Ev.b2c (deepF hT ih c) (Ev.cf rfl hev))) (fun N => block_up src N _ _), hres⟩
end
end Go.Zm
