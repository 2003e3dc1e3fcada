/- The two machines: a host asked. -/
import Derived.Test.Qxb6500572aGreatDoorNO
namespace Go.Wl
open Go Go.Sl
set_option linter.unusedVariables false
variable {P : Prog} {k : Nat} {u : Fun} {T : Typ} {B BM : List W} {FB : List Fr} {x y Z : VM} {R R' : RS} {loc ops loc' ops' : List W} {pc pc' : Nat} {c : Ins} {f : Flat}
theorem fits_word : ∀ {l : List Val} {ts : List UInt8}, fitsAll l ts = true → ty2 ts → l.map (fun v => word v.t v.v) = l.map (fun v => (⟨tw v.t, v.v⟩ : W)) ∧ (l.map (fun v => word v.t v.v)).map W.t = ts
  | [], [], _, _ => ⟨rfl, rfl⟩
  | v :: l, t :: ts, h, ht => by
    simp only [fitsAll, Bool.and_eq_true] at h
    obtain ⟨h1, h2⟩ := fits_word h.2 (fun x hx => ht x (List.mem_cons_of_mem _ hx))
    have hf := of_decide_eq_true h.1
    have e : v.t = t := by apply UInt8.toNat_inj.1; have := hf.1; omega
    have hw : word v.t v.v = ⟨tw v.t, v.v⟩ ∧ (word v.t v.v).t = t := by
      rw [e]
      rcases ht t List.mem_cons_self with rfl | rfl
      · refine ⟨?_, rfl⟩
        unfold word tw
        rw [if_pos rfl]
        have := hf.2.resolve_left (by decide)
        rw [w32] at this
        rw [← this]
        simp
      · exact ⟨rfl, rfl⟩
    simp only [List.map_cons]
    exact ⟨by rw [h1, hw.1], by rw [h2, hw.2]⟩
  | [], _ :: _, h, _ => by simp [fitsAll] at h
  | _ :: _, [], h, _ => by simp [fitsAll] at h
theorem trap_answer {s : List UInt8} {k : Nat} (h : (answer s k).2 ≠ 0) :
    trapOf (if (answer s k).2 = 0 then ⟨0, 0⟩ else if (answer s k).2 = 16 ∧ (6 < k + 1 ∨ s.length < 2 * (k + 1)) then ⟨1, 16⟩ else if ((s.getD (2 * k) 0).toNat : Int) = 84 then ⟨1, sgn (s.getD (2 * k + 1) 0)⟩ else if ((s.getD (2 * k) 0).toNat : Int) = 87 then ⟨2, 0⟩ else ⟨3, 0⟩) = (answer s k).2 := by
  rw [if_neg h]
  unfold answer at h ⊢
  by_cases h1 : 6 ≤ k ∨ s.length ≤ 2 * k + 1
  · rw [if_pos h1, if_pos ⟨rfl, by omega⟩]; rfl
  rw [if_neg h1] at h ⊢
  have h1' : ¬ (6 < k + 1 ∨ s.length < 2 * (k + 1)) := by omega
  rw [if_neg (fun q => h1' q.2)]
  by_cases h2 : ((s.getD (2 * k) 0).toNat : Int) = 105 ∨ ((s.getD (2 * k) 0).toNat : Int) = 108
  · rw [if_pos h2] at h; exact absurd rfl h
  rw [if_neg h2] at h ⊢
  by_cases h3 : ((s.getD (2 * k) 0).toNat : Int) = 50
  · rw [if_pos h3] at h; exact absurd rfl h
  rw [if_neg h3] at h ⊢
  by_cases h4 : ((s.getD (2 * k) 0).toNat : Int) = 73
  · rw [if_pos h4] at h; exact absurd rfl h
  rw [if_neg h4] at h ⊢
  by_cases h5 : ((s.getD (2 * k) 0).toNat : Int) = 74
  · rw [if_pos h5] at h; exact absurd rfl h
  rw [if_neg h5] at h ⊢
  by_cases h6 : ((s.getD (2 * k) 0).toNat : Int) = 84
  · rw [if_pos h6] at h ⊢
    rw [if_pos h6]
    unfold trapOf
    rw [if_neg (by simp)]
    by_cases h7 : 11 ≤ sgn (s.getD (2 * k + 1) 0) ∧ sgn (s.getD (2 * k + 1) 0) < 18
    · rw [if_pos h7, if_pos ⟨rfl, h7⟩]
    · rw [if_neg h7, if_neg (fun q => h7 q.2)]
  rw [if_neg h6] at h ⊢
  rw [if_neg h6]
  by_cases h7 : ((s.getD (2 * k) 0).toNat : Int) = 33 ∨ ((s.getD (2 * k) 0).toNat : Int) = 87
  · rw [if_pos h7]
    split <;> rfl
  · rw [if_neg h7] at h; exact absurd rfl h
theorem ask_fall {o : Op1} {E : RE} (hE : E.P = P) (hEh : E.host = decide (o.c = 0)) (hEt : E.tape = o.t) (h : Frm P k u T B BM FB y R loc ops pc) (hi : IOk P u T pc f (ops.map W.t)) (he : f.op = 10) (hm : f.imm = c.imm) (hlt : c.imm < P.nimp) (hH : HOk o y.host) (hPO : ProgOk P) :
    Fall P k u T B BM FB y f R pc ((askP E R c.imm).map fun r => (-1, r.1, r.2, loc)) := by
  obtain ⟨g, τ', h0, h1, h2, h3⟩ := hi.i10 he
  rw [hm] at h0 h1
  obtain ⟨o1, args, rfl, g1, g2⟩ := map_app h2
  have hsig : P.sig c.imm = (g.params, g.results, g.locals, true) := sig_some h0 h1
  obtain ⟨b1, b2, b3, b4, b5, b6⟩ := hPO.f g (List.mem_of_getElem? h1)
  have hal : args.length = g.params.length := by rw [← g2]; simp
  have hst : y.i.st = (B ++ loc ++ o1) ++ args := by rw [h.st]; simp
  have hrs : R.st = (BM ++ o1) ++ args := by rw [h.rs]; simp
  obtain ⟨w1, w2⟩ := topW_app (A := BM ++ o1) hal
  have hPy : y.P = P := h.sim.P
  have hd : y.i.st.drop (y.i.st.length - g.params.length) = args := by rw [hst, List.length_append, hal, Nat.add_sub_cancel, List.drop_left]
  have htk : y.i.st.take (y.i.st.length - g.params.length) = B ++ loc ++ o1 := by rw [hst, List.length_append, hal, Nat.add_sub_cancel, List.take_left]
  have hkey := h.sim.ak
  have hk6 := h.sim.k6
  have htr := h.sim.e.tr
  have hex : y.exec f = (if (askM y.host c.imm g.results args).2.1 = 0 then ((VM.setSt { y with host := (askM y.host c.imm g.results args).1 } ((B ++ loc ++ o1) ++ (askM y.host c.imm g.results args).2.2))).next else ({ y with host := (askM y.host c.imm g.results args).1 }, some (askM y.host c.imm g.results args).2.1)) := by
    rw [exec_x10 he]
    unfold VM.x10
    rw [hPy, if_neg (by rw [hm]; omega), hm, hsig]
    dsimp only
    rw [hd, htk]
  have hask : ∀ q, askP E R c.imm = some q → Fall P k u T B BM FB y f R pc (some (-1, q.1, q.2, loc)) → Fall P k u T B BM FB y f R pc ((askP E R c.imm).map fun r => (-1, r.1, r.2, loc)) := fun q e hF => by rw [e]; exact hF
  have hpre : (E.P.sig c.imm).1.length ≤ R.st.length ∧ (topW R.st (E.P.sig c.imm).1.length).map W.t = (E.P.sig c.imm).1 := by
    rw [hE, hsig, hrs]
    dsimp only
    rw [w1, List.length_append]
    exact ⟨by omega, g2⟩
  by_cases hc0 : o.c = 0
  · have hkind : y.host.kind = 0 := by rw [hH.kind]; unfold host0; dsimp only; rw [if_pos hc0]
    have htr' : R.trace = y.host.trace := by rw [← htr]; unfold traceOf; rw [if_pos hkind]
    have hcall : hostCall y.host c.imm (args.map W.val) = ({ y.host with trace := y.host.trace ++ [104] ++ numS c.imm ++ valsS (args.map W.val), k := y.host.k + 1, kept := y.host.kept ++ [(args.map W.val).length] },
      (if (answer o.t y.host.k).2 = 0 then (answer o.t y.host.k).1 else []),
      if (answer o.t y.host.k).2 = 0 then ⟨0, 0⟩
      else if (answer o.t y.host.k).2 = 16 ∧ (6 < y.host.k + 1 ∨ o.t.length < 2 * (y.host.k + 1)) then ⟨1, 16⟩
      else if ((o.t.getD (2 * y.host.k) 0).toNat : Int) = 84 then ⟨1, sgn (o.t.getD (2 * y.host.k + 1) 0)⟩
      else if ((o.t.getD (2 * y.host.k) 0).toNat : Int) = 87 then ⟨2, 0⟩
      else ⟨3, 0⟩) := by
      unfold hostCall
      rw [if_neg (by simpa using hkind), if_neg (by omega), ← hH.s]
    have hHo : E.host = true := by rw [hEh]; exact decide_eq_true hc0
    have hap : askP E R c.imm = (if (answer o.t y.host.k).2 ≠ 0 then some ((answer o.t y.host.k).2, { R with st := BM ++ o1, trace := R.trace ++ [104] ++ numS c.imm ++ valsS (args.map W.val), asked := R.asked + 1 })
        else if fitsAll (answer o.t y.host.k).1 g.results = false then some (15, { R with st := BM ++ o1, trace := R.trace ++ [104] ++ numS c.imm ++ valsS (args.map W.val), asked := R.asked + 1 })
        else some (0, { R with st := (BM ++ o1) ++ (answer o.t y.host.k).1.map (fun v => ⟨tw v.t, v.v⟩), trace := R.trace ++ [104] ++ numS c.imm ++ valsS (args.map W.val), asked := R.asked + 1 })) := by
      unfold askP
      rw [if_pos hpre, hE, hsig, hHo, hEt, ← hkey, hrs]
      dsimp only
      rw [w1, w2]
      rfl
    have hne1 : y.host.kind ≠ 1 := by omega
    by_cases ha : (answer o.t y.host.k).2 = 0
    · have htrap : trapOf (hostCall y.host c.imm (args.map W.val)).2.2 = 0 := by rw [hcall]; dsimp only; rw [if_pos ha]; rfl
      have hk5 : y.host.k + 1 ≤ 6 := by
        by_cases hk : 6 ≤ y.host.k
        · unfold answer at ha; rw [if_pos (.inl hk)] at ha; cases ha
        · omega
      rw [if_neg (by simpa using ha)] at hap
      by_cases hf : fitsAll (answer o.t y.host.k).1 g.results = false
      · rw [if_pos hf] at hap
        have hM : askM y.host c.imm g.results args = ((hostCall y.host c.imm (args.map W.val)).1, 15, []) := by
          unfold askM
          rw [if_neg hne1, if_neg (by rw [htrap]; simp), if_pos (by rw [hcall]; dsimp only; rw [if_pos ha]; exact hf)]
        refine hask _ hap ⟨15, _, loc, rfl, rfl, .inr ⟨by decide, { y with host := (hostCall y.host c.imm (args.map W.val)).1 }, by rw [hex, hM]; exact if_neg (show ¬ ((15 : Int) = 0) by decide), h.sim.e.n, h.sim.e.mem, h.sim.e.used, ?_⟩⟩
        show traceOf (hostCall y.host c.imm (args.map W.val)).1 = _
        rw [hcall]
        unfold traceOf
        dsimp only
        rw [if_pos hkind, htr']
      · rw [if_neg hf] at hap
        have hf' : fitsAll (answer o.t y.host.k).1 g.results = true := by simpa using hf
        obtain ⟨fw1, fw2⟩ := fits_word hf' b5
        have hM : askM y.host c.imm g.results args = ((hostCall y.host c.imm (args.map W.val)).1, 0, (answer o.t y.host.k).1.map fun v => word v.t v.v) := by
          unfold askM
          rw [if_neg hne1, if_neg (by rw [htrap]; simp), if_neg (by rw [hcall]; dsimp only; rw [if_pos ha]; exact hf)]
          rw [hcall]; dsimp only; rw [if_pos ha]
        refine hask _ hap ⟨0, _, loc, rfl, rfl, .inl ⟨rfl, (VM.setSt { y with host := (hostCall y.host c.imm (args.map W.val)).1 } ((B ++ loc ++ o1) ++ (answer o.t y.host.k).1.map fun v => word v.t v.v)).next.1, o1 ++ (answer o.t y.host.k).1.map (fun v => word v.t v.v), ?_⟩⟩
        rw [hex, hM, if_pos rfl]
        refine h.nxt (Z := VM.setSt { y with host := (hostCall y.host c.imm (args.map W.val)).1 } ((B ++ loc ++ o1) ++ (answer o.t y.host.k).1.map fun v => word v.t v.v)) rfl ?_ rfl ?_ ?_ ?_
        · show (B ++ loc ++ o1) ++ _ = _; simp
        · refine ⟨⟨h.sim.e.n, h.sim.e.mem, h.sim.e.used, ?_⟩, h.sim.P, ?_, ?_⟩
          · show traceOf (hostCall y.host c.imm (args.map W.val)).1 = _
            rw [hcall]
            unfold traceOf
            dsimp only
            rw [if_pos hkind, htr']
          · show (hostCall y.host c.imm (args.map W.val)).1.k = R.asked + 1
            rw [hcall, ← hkey]
          · show (hostCall y.host c.imm (args.map W.val)).1.k ≤ 6
            rw [hcall]; exact hk5
        · show (BM ++ o1) ++ _ = _; rw [fw1]; simp
        · rw [h3, List.map_append, g1, fw2]
    · rw [if_pos ha] at hap
      have htrap : trapOf (hostCall y.host c.imm (args.map W.val)).2.2 = (answer o.t y.host.k).2 := by rw [hcall]; exact trap_answer ha
      have hM : askM y.host c.imm g.results args = ((hostCall y.host c.imm (args.map W.val)).1, (answer o.t y.host.k).2, []) := by
        unfold askM
        rw [if_neg hne1, if_pos (by rw [htrap]; exact ha), htrap]
      refine hask _ hap ⟨(answer o.t y.host.k).2, _, loc, rfl, rfl, .inr ⟨ha, { y with host := (hostCall y.host c.imm (args.map W.val)).1 }, by rw [hex, hM]; exact if_neg ha, h.sim.e.n, h.sim.e.mem, h.sim.e.used, ?_⟩⟩
      show traceOf (hostCall y.host c.imm (args.map W.val)).1 = _
      rw [hcall]
      unfold traceOf
      dsimp only
      rw [if_pos hkind, htr']
  · have hkind : y.host.kind ≠ 0 := by rw [hH.kind]; unfold host0; dsimp only; rw [if_neg hc0]; split <;> decide
    have hHo : E.host = false := by rw [hEh]; exact decide_eq_false hc0
    have hap : askP E R c.imm = some (15, { R with st := BM ++ o1 }) := by
      unfold askP
      rw [if_pos hpre, hE, hsig, hHo, hrs]
      dsimp only
      rw [w2]
      rfl
    have hM : askM y.host c.imm g.results args = (y.host, 15, []) := by
      unfold askM
      by_cases h1 : y.host.kind = 1
      · rw [if_pos h1]
      · rw [if_neg h1]
        have : hostCall y.host c.imm (args.map W.val) = (y.host, [], ⟨3, 0⟩) := by unfold hostCall; rw [if_pos hkind]
        rw [this]
        rfl
    exact hask _ hap ⟨15, _, loc, rfl, rfl, .inr ⟨by decide, y, by rw [hex, hM]; exact if_neg (show ¬ ((15 : Int) = 0) by decide), h.sim.e.n, h.sim.e.mem, h.sim.e.used, htr⟩⟩
end Go.Wl
