/- The two machines: blocks. -/
import Derived.Test.Qxb6500572aGreatDoorNT
namespace Go.Wl
open Go Go.Sl
set_option linter.unusedVariables false
variable {E : RE} {N : Nat} {i : Nat} {R R' : RS} {loc loc' : List W} {m : Mod} {P : Prog} {o : Op1} {mem : Mem} {args : List Val} {k : Nat} {u : Fun} {T : Typ} {fsM : List Fm} {uM : Fm} {hp : Pic P u T fsM uM (codeOf m k)} {B BM : List W} {FB : List Fr} {x : VM} {ops ops' : List W}
theorem cut_eq {A l : List W} {h n : Nat} (hl : h + n ≤ l.length) : (A ++ l).take (A.length + h) ++ topW (A ++ l) n = A ++ (l.take h ++ topW l n) := by
  unfold topW
  rw [List.take_length_add_append, List.append_assoc, List.length_append, show A.length + l.length - n = A.length + (l.length - n) by omega, List.drop_length_add_append]
/-- A block's body, again and again. -/
theorem loop_sim {n : Nat} (H : SeqN E m P o mem args n) {j : Nat} {cs : List Ctl} {c' : Ctl} {op : Int} (hcs : (hp.kk j).cs = cs ++ [c']) (hop : op = 2 ↔ c'.op = 2) (hat : 0 ≤ c'.at_) (hlp : c'.op = 2 → posOf (codeOf m k) c'.at_.toNat = posOf (codeOf m k) j) :
    ∀ (w : Nat) (x : VM) (R : RS) (loc ops : List W), Here E m P o mem args k u T fsM uM hp B BM FB x R loc ops j → mes o R (codeOf m k).length j < n → (o.b - R.used).toNat ≤ w →
      ∃ N q, runM E N ⟨codeOf m k, j, true, op, BM.length + c'.height, (labelM c').length, FB.length + 1⟩ R loc = some q ∧ Out P k u T B BM FB o.b (codeOf m k) x R (posOf (codeOf m k) (endX (codeOf m k) c')) cs q
  | w, x, R, loc, ops, h, hm, hw => by
    obtain ⟨N, r, h1, h2⟩ := H k u T fsM uM hp B BM FB x R loc ops j h hm op (BM.length + c'.height) (labelM c').length
    rw [hcs, topC_snoc] at h2
    have hr := run_round h.small h1
    have hcl := hp.csl j (Nat.le_of_lt h.hi)
    have hl24 := hp.l
    have hjl := h.hi
    rw [hcs, List.length_append, List.length_singleton] at hcl
    cases h2 with
    | err e x1 x2 R' loc' g hs he hE =>
      rw [if_pos (.inl he)] at hr
      exact ⟨N + 1, _, hr, .err e x1 x2 R' loc' g hs he hE⟩
    | fell x1 R' loc' ops' g hu f =>
      rw [if_pos (.inr (show (-1 : Int) < 0 by decide))] at hr
      exact ⟨N + 1, _, hr, .fell x1 R' loc' ops' g hu f⟩
    | ret x1 x2 R' loc' o1 vals g hu hs fr st rs vt sm hn =>
      rw [if_pos (.inr (show (-2 : Int) < 0 by decide))] at hr
      exact ⟨N + 1, _, hr, .ret x1 x2 R' loc' o1 vals g hu hs fr st rs vt sm hn⟩
    | br l x1 R' loc' ops' g hu hl hst hn hh f =>
      rw [List.length_append, List.length_singleton] at hl
      cases l with
      | zero =>
        rw [labC_zero] at hh f
        have hlen := h.f.len h.bel h.env.T h.g
        have hbl : BM.length ≤ 124 := by have := hlen.1; rw [h.f.rs, List.length_append] at this; omega
        have hno : ¬ (R'.st.length < BM.length + c'.height + (labelM c').length ∨ 1000000 < R'.st.length) := by rw [hst, List.length_append]; omega
        have hcut : R'.st.take (BM.length + c'.height) ++ topW R'.st (labelM c').length = BM ++ (ops'.take c'.height ++ topW ops' (labelM c').length) := by rw [hst]; exact cut_eq hh
        by_cases h2 : c'.op = 2
        · have hg1 := g.gd h.env.T h.env.O h.g
          have hu1 := hg1.u0
          have hue := f.sim.e.used
          have hue' : x1.i.used = R'.used := hue
          have hu0 := h.g.u0.1
          have hu0e := h.f.sim.e.used
          have he : posOf (codeOf m k) (endM (codeOf m k) c').toNat = posOf (codeOf m k) j := by
            unfold endM
            rw [if_pos h2]
            exact hlp h2
          rw [he] at f
          cases w with
          | zero => omega
          | succ w =>
            obtain ⟨N', q, h3, h4⟩ := loop_sim H hcs hop hat hlp w x1 { R' with st := BM ++ (ops'.take c'.height ++ topW ops' (labelM c').length) } loc' _ ⟨h.env, h.hu, h.hk, h.bel, h.hi, h.live, f, hg1⟩ (by unfold mes at hm ⊢; dsimp only; omega) (by dsimp only; omega)
            have hr' := run_round h.small (runM_le E (Nat.le_max_left N N') _ _ _ _ h1)
            rw [if_neg (by simp), if_neg (by simp), if_neg (show ¬ (R'.st.length < BM.length + c'.height + (labelM c').length ∨ 1000000 < R'.st.length) from hno), if_pos (hop.2 h2)] at hr'
            dsimp only at hr'
            rw [hcut] at hr'
            exact ⟨max N N' + 1, q, hr'.trans (runM_le E (Nat.le_max_right N N') _ _ _ _ h3), h4.pre g (by show R.used ≤ R'.used; omega)⟩
        · rw [if_neg (by simp), if_neg (by simp), if_neg (show ¬ (R'.st.length < BM.length + c'.height + (labelM c').length ∨ 1000000 < R'.st.length) from hno), if_neg (fun q => h2 (hop.1 q))] at hr
          dsimp only at hr
          rw [hcut] at hr
          have he : (endM (codeOf m k) c').toNat = endX (codeOf m k) c' := by
            unfold endM endX
            rw [if_neg h2, if_pos hat, if_pos hat]
          rw [he] at f
          exact ⟨N + 1, _, hr, .fell x1 _ loc' _ g (by show R.used ≤ R'.used; omega) f⟩
      | succ l =>
        rw [labC_succ c' (by omega)] at hh f
        rw [if_neg (by dsimp only; omega), if_pos (by dsimp only; omega), if_pos (by dsimp only; omega)] at hr
        dsimp only at hr
        rw [show ((l + 1 : Nat) : Int) - 1 = l by omega] at hr
        exact ⟨N + 1, _, hr, .br l x1 R' loc' ops' g hu (by omega) hst hn hh f⟩
theorem keep_eq {imm op op' : Int} {h at_ : Int} {ht : Nat} {dd : Bool} (h2 : op' = 2 ↔ op = 2) : (if imm ≠ 0 ∧ op ≠ 2 then 1 else 0) = (labelM ⟨op', imm, ht, at_, dd⟩).length := by
  unfold labelM resOf
  dsimp only
  by_cases e : op = 2
  · rw [if_neg (fun q => q.2 e), if_pos (h2.2 e)]; rfl
  · rw [if_neg (fun q => e (h2.1 q))]
    by_cases e0 : imm = 0
    · rw [if_neg (fun q => q.1 e0), if_pos e0]; rfl
    · rw [if_pos ⟨e0, e⟩, if_neg e0]; rfl
section
variable (h : Here E m P o mem args k u T fsM uM hp B BM FB x R loc ops i)
include h
theorem Here.block12 {n : Nat} (H : SeqN E m P o mem args n) (hn : mes o R (codeOf m k).length i ≤ n) (h1 : ((codeOf m k)[i]'h.hi).op = 1 ∨ ((codeOf m k)[i]'h.hi).op = 2) :
    ∃ N q, blockM E (runM E N) R loc (codeOf m k) i ((codeOf m k)[i]'h.hi) (FB.length + 1) = some q ∧ Out P k u T B BM FB o.b (codeOf m k) x R (posOf (codeOf m k) (ends (codeOf m k) i).2.toNat) (hp.kk i).cs q := by
  obtain ⟨c, hc⟩ : ∃ c, (codeOf m k)[i]'h.hi = c := ⟨_, rfl⟩
  rw [hc] at h1 ⊢
  have hg := hp.gt h.hi (by rw [hc]; omega)
  have hi1 : i + 1 < (codeOf m k).length := by omega
  have hcs := hp.cs h.hi
  unfold csM at hcs
  rw [hc, if_pos (by omega)] at hcs
  have hpos : posOf (codeOf m k) (i + 1) = posOf (codeOf m k) i := by
    rw [posOf_succ h.hi, hc]
    unfold szOf
    rw [if_pos (by omega), Nat.add_zero]
  have hlive : liveK (hp.kk (i + 1)).cs := fun c hc => by
    rw [hcs] at hc
    rcases List.mem_append.1 hc with hc | hc
    · exact h.live c hc
    · rw [List.mem_singleton.1 hc]
  have hty := hp.typ hi1 hlive
  rw [hpos, h.f.tp] at hty
  have hht : ops.length = (hp.kk (i + 1)).st.length := by have := congrArg List.length (Option.some.inj hty); simpa using this
  have hi := h.hi
  obtain ⟨N, q, g1, g2⟩ := loop_sim H (op := c.op) hcs Iff.rfl (Int.natCast_nonneg _) (fun _ => by dsimp only; rw [Int.toNat_natCast, hpos]) _ x R loc ops ⟨h.env, h.hu, h.hk, h.bel, hi1, hlive, by rw [hpos]; exact h.f, h.g⟩ (by unfold mes at hn ⊢; omega) (Nat.le_refl _)
  refine ⟨N, q, ?_, ?_⟩
  · unfold blockM
    rw [if_neg (by omega), keep_eq (h := 0) (at_ := i) (ht := (hp.kk (i + 1)).st.length) (dd := false) (op' := c.op) Iff.rfl, h.f.rs, List.length_append, hht]
    exact g1
  · have e : endX (codeOf m k) (⟨c.op, c.imm, (hp.kk (i + 1)).st.length, (i : Int), false⟩ : Ctl) = (ends (codeOf m k) i).2.toNat := by
      unfold endX
      dsimp only
      rw [if_pos (Int.natCast_nonneg _), Int.toNat_natCast]
    rw [e] at g2
    exact g2
theorem Here.block3 {n : Nat} (H : SeqN E m P o mem args n) (hn : mes o R (codeOf m k).length i ≤ n) (h3 : ((codeOf m k)[i]'h.hi).op = 3) :
    ∃ N q, blockM E (runM E N) R loc (codeOf m k) i ((codeOf m k)[i]'h.hi) (FB.length + 1) = some q ∧ Out P k u T B BM FB o.b (codeOf m k) x R (posOf (codeOf m k) (ends (codeOf m k) i).2.toNat) (hp.kk i).cs q := by
  obtain ⟨c, hc⟩ : ∃ c, (codeOf m k)[i]'h.hi = c := ⟨_, rfl⟩
  have hopen : ((codeOf m k)[i]'h.hi).op = 1 ∨ ((codeOf m k)[i]'h.hi).op = 2 ∨ ((codeOf m k)[i]'h.hi).op = 3 := by omega
  have hf : u.code[posOf (codeOf m k) i]? = some ⟨3, (posOf (codeOf m k) (if 0 ≤ (ends (codeOf m k) i).1 then (ends (codeOf m k) i).1 + 1 else (ends (codeOf m k) i).2).toNat : Nat), 0, 0⟩ := by
    have := hp.get h.hi (k := 0) (f := ⟨3, (posOf (codeOf m k) (if 0 ≤ (ends (codeOf m k) i).1 then (ends (codeOf m k) i).1 + 1 else (ends (codeOf m k) i).2).toNat : Nat), 0, 0⟩) (by unfold emM; rw [if_neg (by omega), if_pos h3]; rfl)
    simpa using this
  have hg := hp.gt h.hi hopen
  have hcs := hp.cs h.hi
  unfold csM at hcs
  rw [if_pos hopen] at hcs
  rw [hc] at h3 hcs ⊢
  have hi1 : i + 1 < (codeOf m k).length := by omega
  by_cases hb : o.b ≤ R.used
  · obtain ⟨s1, s2⟩ := step_no h.f h.hu hf (by dsimp only; omega) hb
    refine ⟨0, (-1, 17, R.tick, loc), ?_, .err 17 x x.fetch R.tick loc (.refl x) s1 (by decide) s2⟩
    unfold blockM
    rw [if_pos h3, if_pos (by rw [h.env.fuel]; exact hb)]
  have hpos : posOf (codeOf m k) (i + 1) = posOf (codeOf m k) i + 1 := by
    rw [posOf_succ h.hi, hc]
    unfold szOf
    rw [if_neg (by omega), if_neg (by omega)]
  have hlive : liveK (hp.kk (i + 1)).cs := fun c hc => by
    rw [hcs] at hc
    rcases List.mem_append.1 hc with hc | hc
    · exact h.live c hc
    · rw [List.mem_singleton.1 hc]
  obtain ⟨τ', g1, g2, g3, g4⟩ := (h.f.iok hp.fl hf).i3 rfl
  dsimp only at g4
  rw [Int.toNat_natCast] at g4
  obtain ⟨o1, z, rfl, g5, g6⟩ := map_snoc g1
  have hty := hp.typ hi1 hlive
  rw [hpos, g3, ← g5] at hty
  have hht : o1.length = (hp.kk (i + 1)).st.length := by have := congrArg List.length (Option.some.inj hty); simpa using this
  have r0 : lst R.st = z := by rw [h.f.rs, lst_R]
  have r1 : R.st.dropLast = BM ++ o1 := by rw [h.f.rs, drop_R]
  have r2 : R.st.length - 1 = BM.length + o1.length := by rw [h.f.rs]; simp
  have v0 : lst x.fetch.pay.i.st = z := by show lst x.i.st = z; rw [h.f.st, lst_R]
  have v1 : x.fetch.pay.pop.i.st = B ++ loc ++ o1 := by show x.i.st.dropLast = _; rw [h.f.st, drop_R]
  have hln : 1 ≤ R.st.length ∧ (lst R.st).w = false := ⟨by rw [h.f.rs]; simp; omega, by rw [r0]; exact t105 g6⟩
  have hsim : Sim P x.fetch.pay.pop { R.pay with st := BM ++ o1 } := h.f.paid.sim.st _ _
  have hstep : x.step o.b = if z.n = 0 then (x.fetch.pay.pop.setPc (posOf (codeOf m k) (if 0 ≤ (ends (codeOf m k) i).1 then (ends (codeOf m k) i).1 + 1 else (ends (codeOf m k) i).2).toNat : Nat), none) else x.fetch.pay.pop.next := by
    rw [step_pay h.f h.hu hf (by dsimp only; omega) (by omega), exec_x3 rfl]
    unfold VM.x3
    rw [v0]
  have hi := h.hi
  have hblk : ∀ rec : Rec, blockM E rec R loc (codeOf m k) i c (FB.length + 1) = (if z.n = 0 then
        (if (ends (codeOf m k) i).1 < 0 then some (-1, 0, { R.pay with st := BM ++ o1 }, loc)
         else rec ⟨codeOf m k, ((ends (codeOf m k) i).1 + 1).toNat, true, 3, BM.length + (hp.kk (i + 1)).st.length, if c.imm ≠ 0 then 1 else 0, FB.length + 1⟩ { R.pay with st := BM ++ o1 } loc)
       else rec ⟨codeOf m k, i + 1, true, 3, BM.length + (hp.kk (i + 1)).st.length, if c.imm ≠ 0 then 1 else 0, FB.length + 1⟩ { R.pay with st := BM ++ o1 } loc) := fun rec => by
    unfold blockM
    rw [if_pos h3, if_neg (by rw [h.env.fuel]; exact hb), if_pos hln, r0, r1, r2, hht]
  have hkeep : ∀ (op' : Int), op' ≠ 2 → (if c.imm ≠ 0 then 1 else 0) = (labelM ⟨op', c.imm, (hp.kk (i + 1)).st.length, (i : Int), false⟩).length := fun op' h2 => by
    rw [← keep_eq (h := 0) (op := 3) (op' := op') ⟨fun q => absurd q h2, fun q => by cases q⟩]
    by_cases e0 : c.imm = 0
    · rw [if_neg (fun q => q e0), if_neg (fun q => q.1 e0)]
    · rw [if_pos e0, if_pos ⟨e0, by decide⟩]
  have hend : ∀ (op' : Int), endX (codeOf m k) (⟨op', c.imm, (hp.kk (i + 1)).st.length, (i : Int), false⟩ : Ctl) = (ends (codeOf m k) i).2.toNat := fun op' => by
    unfold endX
    dsimp only
    rw [if_pos (Int.natCast_nonneg _), Int.toNat_natCast]
  by_cases hz : z.n = 0
  · rw [if_pos hz] at hstep
    have hfr := h.f.paid.go (Z := x.fetch.pay.pop) (loc' := loc) (ops' := o1) (R' := { R.pay with st := BM ++ o1 }) rfl v1 rfl hsim rfl rfl (by rw [g4, g5])
    have hreach := Reach.one hstep
    by_cases he : (ends (codeOf m k) i).1 < 0
    · refine ⟨0, _, by rw [hblk, if_pos hz, if_pos he], .fell _ _ loc o1 hreach (by show R.used ≤ R.used + 1; omega) ?_⟩
      rw [if_neg (by omega)] at hfr ⊢
      exact hfr
    · obtain ⟨j, hj⟩ : ∃ j : Nat, (j : Int) = (ends (codeOf m k) i).1 := ⟨_, Int.toNat_of_nonneg (by omega)⟩
      obtain ⟨a1, a2, c', a3, a4, a5, a6, a7, a8, _⟩ := hp.atElse h.hi hopen hj
      obtain ⟨op', bt', ht', at', dd'⟩ := c'
      dsimp only at a4 a5 a6 a7 a8
      subst a4 a5 a6 a7 a8
      rw [hc] at a3
      have hjl : j + 1 < (codeOf m k).length := by omega
      have hliv2 : liveK (hp.kk (j + 1)).cs := fun c hc => by
        rw [a3] at hc
        rcases List.mem_append.1 hc with hc | hc
        · exact h.live c hc
        · rw [List.mem_singleton.1 hc]
      have hje : (if 0 ≤ (ends (codeOf m k) i).1 then (ends (codeOf m k) i).1 + 1 else (ends (codeOf m k) i).2).toNat = j + 1 := by rw [if_pos (by omega)]; omega
      rw [hje] at hfr hreach
      obtain ⟨N, q, g1, g2⟩ := loop_sim H (op := 3) a3 (show (3 : Int) = 2 ↔ (4 : Int) = 2 by decide) (Int.natCast_nonneg _) (fun q => by cases q) _ _ { R.pay with st := BM ++ o1 } loc o1 ⟨h.env, h.hu, h.hk, h.bel, hjl, hliv2, hfr, hreach.gd h.env.T h.env.O h.g⟩ (by unfold mes at hn ⊢; show (o.b - (R.used + 1)).toNat * 100 + _ < n; have := hp.l; omega) (Nat.le_refl _)
      refine ⟨N, q, ?_, ?_⟩
      · rw [hblk, if_pos hz, if_neg he, hkeep 4 (by decide), show ((ends (codeOf m k) i).1 + 1).toNat = j + 1 by omega]
        exact g1
      · rw [hend] at g2
        exact g2.pre hreach (by show R.used ≤ R.used + 1; omega)
  · rw [if_neg hz] at hstep
    obtain ⟨e1, e2⟩ := h.f.paid.nxt (Z := x.fetch.pay.pop) (loc' := loc) (ops' := o1) (R' := { R.pay with st := BM ++ o1 }) rfl v1 rfl hsim rfl (by rw [g3, g5])
    have hreach : Reach o.b x x.fetch.pay.pop.next.1 := .one (by rw [hstep]; exact e1)
    obtain ⟨N, q, g1, g2⟩ := loop_sim H (op := 3) hcs (by dsimp only; omega) (Int.natCast_nonneg _) (fun q => by dsimp only at q; omega) _ _ { R.pay with st := BM ++ o1 } loc o1 ⟨h.env, h.hu, h.hk, h.bel, hi1, hlive, by rw [hpos]; exact e2, hreach.gd h.env.T h.env.O h.g⟩ (by unfold mes at hn ⊢; show (o.b - (R.used + 1)).toNat * 100 + _ < n; have := hp.l; omega) (Nat.le_refl _)
    refine ⟨N, q, ?_, ?_⟩
    · rw [hblk, if_neg hz, hkeep c.op (by omega)]
      exact g1
    · rw [hend] at g2
      exact g2.pre hreach (by show R.used ≤ R.used + 1; omega)
theorem Here.go_block {n : Nat} (H : SeqN E m P o mem args n) (hn : mes o R (codeOf m k).length i ≤ n) (h1 : ((codeOf m k)[i]'h.hi).op = 1 ∨ ((codeOf m k)[i]'h.hi).op = 2 ∨ ((codeOf m k)[i]'h.hi).op = 3) : Goes E m P o k u T hp B BM FB x R loc i := fun op hh kp => by
  have hbl : ∃ N q, blockM E (runM E N) R loc (codeOf m k) i ((codeOf m k)[i]'h.hi) (FB.length + 1) = some q ∧ Out P k u T B BM FB o.b (codeOf m k) x R (posOf (codeOf m k) (ends (codeOf m k) i).2.toNat) (hp.kk i).cs q := by
    by_cases h3 : ((codeOf m k)[i]'h.hi).op = 3
    · exact h.block3 H hn h3
    · exact h.block12 H hn (by omega)
  obtain ⟨N, q, g1, g2⟩ := hbl
  have hstop : ∀ q, blockM E (runM E N) R loc (codeOf m k) i ((codeOf m k)[i]'h.hi) (FB.length + 1) = some q → Out P k u T B BM FB o.b (codeOf m k) x R (posOf (codeOf m k) (ends (codeOf m k) i).2.toNat) (hp.kk i).cs q → (q.2.1 ≠ 0 ∨ q.1 ≠ -1) → ∃ N q, runM E N ⟨codeOf m k, i, false, op, hh, kp, FB.length + 1⟩ R loc = some q ∧ Out P k u T B BM FB o.b (codeOf m k) x R (posOf (codeOf m k) (endX (codeOf m k) (topC (hp.kk i).cs))) (hp.kk i).cs q := fun q g1 g2 hq => ⟨N + 1, q, run_bstop h.small h.at_ h1 g1 hq, g2.stay hq⟩
  have hg2 := g2
  cases g2 with
  | err e x1 x2 R' loc' g hs he hE => exact hstop _ g1 hg2 (.inl he)
  | br l x1 R' loc' ops' g hu hl hst hn hh f => exact hstop _ g1 hg2 (.inr (by dsimp only; omega))
  | ret x1 x2 R' loc' o1 vals g hu hs fr st rs vt sm hn => exact hstop _ g1 hg2 (.inr (show (-2 : Int) ≠ -1 by decide))
  | fell x1 R' loc' ops' g hu f =>
    have hgt := hp.gt h.hi h1
    obtain ⟨e, he⟩ : ∃ e : Nat, (e : Int) = (ends (codeOf m k) i).2 := ⟨_, Int.toNat_of_nonneg (by omega)⟩
    obtain ⟨hel, a1, a2, a3⟩ := hp.atEnd h.hi h1 he
    have hcp := hp.pos h.hi
    have he1 : e + 1 < (codeOf m k).length := by
      obtain ⟨o', C, hk, hne, _⟩ := hp.kr hel
      have hol := hk.ol
      rw [List.drop_eq_getElem_cons hel] at hne
      have hw := nest_well hne
      simp only [nest, hw, if_true] at hne
      rw [if_neg (by omega), if_neg (by omega), if_pos a1, if_neg (fun q => by rw [q] at hol; simp at hol; omega)] at hne
      by_cases hx : e + 1 < (codeOf m k).length
      · exact hx
      · rw [List.drop_eq_nil_of_le (by omega)] at hne
        simp [nest] at hne
    have hpos : posOf (codeOf m k) (e + 1) = posOf (codeOf m k) e := by
      rw [posOf_succ hel]
      unfold szOf
      rw [if_pos (by omega), Nat.add_zero]
    rw [show (ends (codeOf m k) i).2.toNat = e by omega] at f
    have hg := g.gd h.env.T h.env.O h.g
    have hi := h.hi
    obtain ⟨N', q, h2, h3⟩ := H k u T fsM uM hp B BM FB x1 R' loc' ops' (e + 1) ⟨h.env, h.hu, h.hk, h.bel, he1, by rw [a3]; exact h.live, by rw [hpos]; exact f, hg⟩ (by unfold mes at hn ⊢; omega) op hh kp
    rw [a3] at h3
    refine ⟨max N N' + 1, q, run_bnext h.small h.at_ h1 (blockM_le (runM_le E (Nat.le_max_left _ _)) g1) ?_, h3.pre g hu⟩
    rw [show ((ends (codeOf m k) i).2 + 1).toNat = e + 1 by omega]
    exact runM_le E (Nat.le_max_right _ _) _ _ _ _ h2
end
end Go.Wl
