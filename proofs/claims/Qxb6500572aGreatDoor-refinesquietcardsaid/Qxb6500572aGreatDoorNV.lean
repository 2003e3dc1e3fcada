/- The two machines: calls. -/
import Derived.Test.Qxb6500572aGreatDoorNU
namespace Go.Wl
open Go Go.Sl
set_option linter.unusedVariables false
variable {E : RE} {N : Nat} {i : Nat} {R R' : RS} {loc loc' : List W} {m : Mod} {P : Prog} {o : Op1} {mem : Mem} {args : List Val} {k : Nat} {u : Fun} {T : Typ} {fsM : List Fm} {uM : Fm} {hp : Pic P u T fsM uM (codeOf m k)} {B BM : List W} {FB : List Fr} {x : VM} {ops ops' : List W}
/-- How a call may end. -/
inductive InvOut (P : Prog) (u : Fun) (B BM : List W) (FB : List Fr) (b : Int) (x : VM) (R : RS) : Int × RS → Prop
  | err (e : Int) (x1 x2 : VM) (R' : RS) (h : Reach b x x1) (hs : x1.step b = (x2, some e)) (he : e ≠ 0) (hE : Ends x2 R') : InvOut P u B BM FB b x R (e, R')
  | done (x1 x2 : VM) (R' : RS) (vals : List W) (h : Reach b x x1) (hu : R.used ≤ R'.used) (hs : x1.step b = (x2, if FB.length = 0 then some 0 else none)) (fr : x2.i.fr = FB) (st : x2.i.st = B ++ vals) (rs : R'.st = BM ++ vals) (vt : vals.map W.t = u.results) (sm : Sim P x2 R') : InvOut P u B BM FB b x R (0, R')
theorem zeros_t : ∀ {l : List UInt8}, ty2 l → (l.map fun t => word t 0).map W.t = l
  | [], _ => rfl
  | t :: l, h => by rw [List.map_cons, List.map_cons, zeros_t (fun x hx => h x (List.mem_cons_of_mem _ hx)), word_t (h t List.mem_cons_self)]
theorem src_at (env : EnvOk E m P o mem) (hu : P.funs[k]? = some u) (hk : m.imports.length ≤ k) : E.P.nimp ≤ (k : Int) ∧ (k : Int) - E.P.nimp < E.src.length ∧ E.src.getD ((k : Int) - E.P.nimp).toNat [] = codeOf m k := by
  have hn : E.P.nimp = m.imports.length := by rw [env.eP]; exact env.L.nimp
  have hl := (List.getElem?_eq_some_iff.1 hu).1
  have hll := env.L.len
  have hlt : k - m.imports.length < m.funcs.length := by omega
  rw [hn, env.src, List.length_map]
  refine ⟨by omega, by omega, ?_⟩
  rw [show ((k : Int) - (m.imports.length : Int)).toNat = k - m.imports.length by omega, List.getD_eq_getElem?_getD, List.getElem?_map]
  unfold codeOf
  rw [List.getElem?_eq_getElem hlt]
  rfl
theorem results_lab (hp : Pic P u T fsM uM (codeOf m k)) : (labelM ⟨1, if uM.results = [] then 0 else ((uM.results.getD 0 0).toNat : Int), 0, -1, false⟩).length = u.results.length := by
  rw [hp.ur]
  obtain ⟨h1, h2⟩ := hp.res
  unfold labelM resOf
  dsimp only
  rw [if_neg (by decide)]
  match hr : u.results, h1, h2 with
  | [], _, _ => rfl
  | [t], _, h2 =>
    rcases h2 t List.mem_cons_self with rfl | rfl <;> rfl
  | _ :: _ :: _, h1, _ => simp at h1
/-- The end of a body. -/
theorem body_end {n : Nat} {R R' : RS} {loc o1 vals A : List W} {e : Int} {params results : List UInt8} (hA : A.length = n) (hst : R'.st = A ++ (o1 ++ vals)) (hv : vals.map W.t = results) (hl : R'.st.length ≤ 1000) :
    n + results.length ≤ R'.st.length ∧ R'.st.length ≤ 1000000 ∧ (topW R'.st results.length).map W.t = results ∧ R'.st.take n = A ∧ topW R'.st results.length = vals := by
  have hvl : vals.length = results.length := by rw [← hv, List.length_map]
  have ht : topW R'.st results.length = vals := by rw [hst, ← List.append_assoc]; exact (topW_app hvl).1
  have hll : R'.st.length = A.length + (o1.length + vals.length) := by rw [hst]; simp
  refine ⟨by omega, by omega, by rw [ht, hv], by rw [hst, ← hA, List.take_left], ht⟩
theorem inv_sim (env : EnvOk E m P o mem) {n : Nat} (H : SeqN E m P o mem args n) (hu : P.funs[k]? = some u) (hk : m.imports.length ≤ k) (hb : Bel B BM) {ars : List W} (hat : ars.map W.t = u.params) (hrs : R.st = BM ++ ars) (hsim : Sim P x R) (hfr : x.i.fr = FB ++ [⟨k, 0, B.length, B.length + ars.length + u.locals.length, u.results⟩]) (hst : x.i.st = B ++ (ars ++ u.locals.map fun t => word t 0)) (g : Gd P mem o args x) (hm : (o.b - R.used).toNat * 100 + 24 < n) :
    ∃ N q, invP E (runM E N) R k (FB.length + 1) = some q ∧ InvOut P u B BM FB o.b x R q := by
  obtain ⟨T, fsM, uM, hp⟩ := env.L.pic k u hk hu
  obtain ⟨b1, b2, b3, b4, b5, b6⟩ := env.T.p.f u (List.mem_of_getElem? hu)
  obtain ⟨s1, s2, s3⟩ := src_at env hu hk
  have hsig : E.P.sig k = (u.params, u.results, u.locals, true) := by rw [env.eP]; exact sig_some (by omega) (by rw [Int.toNat_natCast]; exact hu)
  have hal : ars.length = u.params.length := by rw [← hat, List.length_map]
  obtain ⟨w1, w2⟩ := topW_app (A := BM) hal
  obtain ⟨l0, l1, l2⟩ := hp.lastE
  have hcs0 : (hp.kk 0).cs = [⟨1, if uM.results = [] then 0 else ((uM.results.getD 0 0).toNat : Int), 0, -1, false⟩] := rfl
  have hl24 := hp.l
  have hf : Frm P k u T B BM FB x { R with st := BM } (ars ++ u.locals.map fun t => word t 0) [] (posOf (codeOf m k) 0) := by
    refine ⟨⟨⟨hsim.e.n, hsim.e.mem, hsim.e.used, hsim.e.tr⟩, hsim.P, hsim.ak, hsim.k6⟩, ?_, ?_, ?_, ?_, ?_⟩
    · rw [hfr]; simp [posOf_zero]; omega
    · rw [hst]; simp
    · simp
    · rw [List.map_append, hat, zeros_t b6]
    · rw [posOf_zero, hp.fl.t0]; rfl
  obtain ⟨N, r, h1, h2⟩ := H k u T fsM uM hp B BM FB x { R with st := BM } _ [] 0 ⟨env, hu, hk, hb, l0, fun c hc => by rw [hcs0] at hc; rw [List.mem_singleton.1 hc], hf, g⟩ (by unfold mes; dsimp only; omega) 0 0 0
  have hlen : R.st.length - u.params.length = BM.length := by rw [hrs, List.length_append]; omega
  have hinv : ∀ R1 : RS, (if r.1 = -2 then r.2.2.1 else r.2.2.1.tick) = R1 → invP E (runM E N) R k (FB.length + 1) = (if r.2.1 ≠ 0 then some (r.2.1, r.2.2.1)
      else if 0 < r.1 then none
      else if BM.length + u.results.length ≤ R1.st.length ∧ R1.st.length ≤ 1000000 ∧ (topW R1.st u.results.length).map W.t = u.results then
          some (0, { R1 with st := R1.st.take BM.length ++ topW R1.st u.results.length })
        else none) := fun R1 hR1 => by
    unfold invP
    rw [hsig]
    dsimp only
    rw [hrs, w1, w2, s3, if_pos ⟨by rw [List.length_append]; omega, hat, s1, s2⟩, h1, Option.bind_some, ← hrs, hlen, hR1]
  have hend : endX (codeOf m k) (topC (hp.kk 0).cs) = (codeOf m k).length - 1 := by
    rw [hcs0]; rfl
  have hcode : u.code[posOf (codeOf m k) ((codeOf m k).length - 1)]? = some ⟨5, 0, 0, 0⟩ := by
    rw [l1, ← l2, List.getElem?_append_right (Nat.le_refl _), Nat.sub_self]; rfl
  /- falling out -/
  have hout : ∀ (x1 : VM) (R1 : RS) (loc1 ops1 : List W), Reach o.b x x1 → R.used ≤ R1.used → Frm P k u T B BM FB x1 R1 loc1 ops1 (posOf (codeOf m k) ((codeOf m k).length - 1)) → ∃ o1 vals, ops1 = o1 ++ vals ∧ vals.map W.t = u.results ∧ InvOut P u B BM FB o.b x R (0, { R1.tick with st := BM ++ vals }) := fun x1 R1 loc1 ops1 hr hus hF => by
    obtain ⟨τ', ht⟩ := (hF.iok hp.fl hcode).i5 (.inl rfl)
    obtain ⟨o1, vals, e, vt, q1, q2, q3, q4⟩ := hF.fetched.leaves ht
    refine ⟨o1, vals, e, vt, .done x1 x1.fetch.leave _ vals hr hus ?_ q1 q2 rfl vt ⟨⟨q3.e.n, q3.e.mem, q3.e.used, q3.e.tr⟩, q3.P, q3.ak, q3.k6⟩⟩
    rw [step_free hF hu hcode (.inr rfl), exec_x5 (.inl rfl)]
    unfold VM.x5
    rw [q4]
  rw [hend, hcs0] at h2
  cases h2 with
  | err e x1 x2 R' loc' g1 hs he hE =>
    have hinv := hinv _ rfl
    rw [if_pos (show e ≠ 0 from he)] at hinv
    exact ⟨N, _, hinv, .err e x1 x2 R' g1 hs he hE⟩
  | fell x1 R' loc' ops' g1 hus f =>
    obtain ⟨o1, vals, e, vt, hO⟩ := hout x1 R' loc' ops' g1 hus f
    have hll := (f.len hb env.T (g1.gd env.T env.O g)).1
    obtain ⟨t1, t2, t3, t4, t5⟩ := body_end (R := R) (R' := R'.tick) (loc := []) (e := 0) (params := []) (n := BM.length) rfl (show R'.tick.st = BM ++ (o1 ++ vals) by rw [← e]; exact f.rs) vt (by show R'.st.length ≤ 1000; omega)
    have hinv := hinv R'.tick (if_neg (by simp))
    rw [if_neg (by simp), if_neg (by simp), if_pos ⟨t1, t2, t3⟩, t4, t5] at hinv
    exact ⟨N, _, hinv, hO⟩
  | br l x1 R' loc' ops' g1 hus hl hstb hn hh f =>
    obtain rfl : l = 0 := by simpa using hl
    have hlab : labC [⟨1, if uM.results = [] then 0 else ((uM.results.getD 0 0).toNat : Int), 0, -1, false⟩] 0 = (⟨1, if uM.results = [] then 0 else ((uM.results.getD 0 0).toNat : Int), 0, -1, false⟩ : Ctl) := rfl
    rw [hlab, results_lab hp] at hh f
    dsimp only at hh f
    rw [List.take_zero, List.nil_append] at f
    have hem : (endM (codeOf m k) (⟨1, if uM.results = [] then 0 else ((uM.results.getD 0 0).toNat : Int), 0, -1, false⟩ : Ctl)).toNat = (codeOf m k).length - 1 := by
      unfold endM
      dsimp only
      rw [if_neg (by decide), if_neg (by decide)]
      omega
    rw [hem] at f
    obtain ⟨o1, vals, e, vt, hO⟩ := hout x1 { R' with st := BM ++ topW ops' u.results.length } loc' _ g1 (show R.used ≤ R'.used by have : R.used < R'.used := hus; omega) f
    have hvl : vals.length = u.results.length := by rw [← vt, List.length_map]
    have hll := congrArg List.length e
    have hn1 : o1 = [] := by
      apply List.eq_nil_of_length_eq_zero
      unfold topW at hll
      rw [List.length_drop, List.length_append] at hll
      omega
    rw [hn1, List.nil_append] at e
    have hbl := hf.len hb env.T g
    have hbl2 : BM.length ≤ 124 := by have := hbl.1; simpa using this
    have hsp : ops' = ops'.take (ops'.length - u.results.length) ++ vals := by rw [← e]; unfold topW; exact (List.take_append_drop _ _).symm
    obtain ⟨t1, t2, t3, t4, t5⟩ : BM.length + u.results.length ≤ R'.tick.st.length ∧ R'.tick.st.length ≤ 1000000 ∧ (topW R'.tick.st u.results.length).map W.t = u.results ∧ R'.tick.st.take BM.length = BM ∧ topW R'.tick.st u.results.length = vals := by
      have hl' : R'.tick.st.length = BM.length + ops'.length := by show R'.st.length = _; rw [hstb, List.length_append]
      have ht' : topW R'.tick.st u.results.length = vals := by
        show topW R'.st _ = _
        rw [hstb, hsp, ← List.append_assoc]
        exact (topW_app hvl).1
      exact ⟨by omega, by omega, by rw [ht', vt], by show R'.st.take _ = _; rw [hstb, List.take_left], ht'⟩
    have hinv := hinv R'.tick (if_neg (by simp))
    rw [if_neg (by simp), if_neg (by simp), if_pos ⟨t1, t2, t3⟩, t4, t5] at hinv
    exact ⟨N, _, hinv, hO⟩
  | ret x1 x2 R' loc' o1 vals g1 hus hs fr st rs vt sm hn =>
    obtain ⟨t1, t2, t3, t4, t5⟩ := body_end (R := R) (R' := R') (loc := []) (e := 0) (params := []) (n := BM.length) rfl rs vt hn
    have hinv := hinv R' (if_pos rfl)
    rw [if_neg (by simp), if_neg (by simp), if_pos ⟨t1, t2, t3⟩, t4, t5] at hinv
    exact ⟨N, _, hinv, .done x1 x2 _ vals g1 hus hs fr st rfl vt ⟨⟨sm.e.n, sm.e.mem, sm.e.used, sm.e.tr⟩, sm.P, sm.ak, sm.k6⟩⟩
section
variable (h : Here E m P o mem args k u T fsM uM hp B BM FB x R loc ops i)
include h
theorem Here.go_10 {n : Nat} (H : SeqN E m P o mem args n) (hn : mes o R (codeOf m k).length i ≤ n) (h10 : ((codeOf m k)[i]'h.hi).op = 10) : Goes E m P o k u T hp B BM FB x R loc i := by
  have hf := h.flat1 (by omega)
  obtain ⟨c, hc⟩ : ∃ c, (codeOf m k)[i]'h.hi = c := ⟨_, rfl⟩
  by_cases hb : o.b ≤ R.used
  · exact h.go_no hf (by omega) (by dsimp only; omega) hb
  by_cases hi : ((codeOf m k)[i]'h.hi).imm < P.nimp
  · refine h.go_fall H hn (N0 := 0) hf (by dsimp only; omega) hb (by omega) ?_ (ask_fall h.env.eP h.env.host h.env.tape h.f.paid (h.f.paid.iok hp.fl hf) h10 rfl hi h.g.host h.env.T.p)
    unfold stepM
    rw [if_neg (by rw [h.env.fuel]; exact hb), if_pos h10, if_pos (by rw [h.env.eP]; exact hi)]
  have hst : ∀ rec : Rec, stepM E rec R loc ((codeOf m k)[i]'h.hi) (FB.length + 1) = if 4 ≤ (FB.length : Int) + 1 then some (-1, 14, R.pay, loc) else (invP E rec R.pay ((codeOf m k)[i]'h.hi).imm (FB.length + 1 + 1)).map fun r => (-1, r.1, r.2, loc) := fun rec => by
    unfold stepM
    rw [if_neg (by rw [h.env.fuel]; exact hb), if_pos h10, if_neg (by rw [h.env.eP]; exact hi)]
  have hfl : x.fetch.pay.i.fr.length = FB.length + 1 := by show x.i.fr.length = _; rw [h.f.fr]; simp
  have hP : x.fetch.pay.P = P := h.f.sim.P
  have hx : x.step o.b = if FB.length + 1 < 4 then ((x.fetch.pay.setPc (x.fetch.pay.i.top.pc + 1)).enter ((codeOf m k)[i]'h.hi).imm, none) else (x.fetch.pay, some 14) := by
    rw [step_pay h.f h.hu hf (by dsimp only; omega) (by omega), exec_x10 h10]
    unfold VM.x10
    dsimp only
    rw [hP, if_pos (by omega), hfl]
  by_cases h4 : 4 ≤ FB.length + 1
  · intro op hh kp
    rw [if_neg (by omega)] at hx
    refine ⟨1, (-1, 14, R.pay, loc), run_stop h.small h.at_ (by omega) (by rw [hst, if_pos (by omega)]) (.inl (show (14 : Int) ≠ 0 by decide)), .err 14 x x.fetch.pay R.pay loc (.refl x) hx (by decide) h.f.paid.sim.e⟩
  rw [if_pos (by omega)] at hx
  obtain ⟨gf, τ', i0, i1, i2, i3⟩ := (h.f.iok hp.fl hf).i10 h10
  dsimp only at i0 i1
  obtain ⟨o1, ars, rfl, a1, a2⟩ := map_app i2
  obtain ⟨k', hk'⟩ : ∃ k' : Nat, ((codeOf m k)[i]'h.hi).imm = k' := ⟨_, (Int.toNat_of_nonneg i0).symm⟩
  rw [hk'] at i1 hi hx
  rw [Int.toNat_natCast] at i1
  have hsig : P.sig k' = (gf.params, gf.results, gf.locals, true) := sig_some (by omega) (by rw [Int.toNat_natCast]; exact i1)
  have hal : ars.length = gf.params.length := by rw [← a2, List.length_map]
  have hnimp := h.env.L.nimp
  obtain ⟨X, hX⟩ : ∃ X, (x.fetch.pay.setPc (x.fetch.pay.i.top.pc + 1)).enter k' = X := ⟨_, rfl⟩
  rw [hX] at hx
  have hreach : Reach o.b x X := .one hx
  have hgX := hreach.gd h.env.T h.env.O h.g
  have hsf := h.f.paid.setf (Z := x.fetch.pay) rfl (x.fetch.pay.i.top.pc + 1)
  rw [h.f.paid.topv] at hsf
  dsimp only at hsf
  have hstX : x.fetch.pay.i.st = (B ++ loc ++ o1) ++ ars := by show x.i.st = _; rw [h.f.st]; simp
  have hfrX : X.i.fr = (FB ++ [⟨k, ((posOf (codeOf m k) i : Nat) : Int) + 1, B.length, B.length + loc.length, u.results⟩]) ++ [⟨k', 0, (B ++ loc ++ o1).length, (B ++ loc ++ o1).length + ars.length + gf.locals.length, gf.results⟩] := by
    rw [← hX]
    show (x.fetch.pay.setPc (x.fetch.pay.i.top.pc + 1)).i.fr ++ [⟨k', 0, x.fetch.pay.i.st.length - (x.fetch.pay.P.sig k').1.length, x.fetch.pay.i.st.length + (x.fetch.pay.P.sig k').2.2.1.length, (x.fetch.pay.P.sig k').2.1⟩] = _
    rw [hP, hsig, hstX, h.f.paid.topv]
    dsimp only
    rw [hsf, List.length_append, ← hal, Nat.add_sub_cancel]
  have hst2 : X.i.st = (B ++ loc ++ o1) ++ (ars ++ gf.locals.map fun t => word t 0) := by
    rw [← hX]
    show x.fetch.pay.i.st ++ (x.fetch.pay.P.sig k').2.2.1.map (fun t => word t 0) = _
    rw [hP, hsig, hstX]
    simp
  have hsX : Sim P X R.pay := by
    rw [← hX]
    have s := h.f.paid.sim
    exact ⟨⟨s.e.n, s.e.mem, s.e.used, s.e.tr⟩, s.P, s.ak, s.k6⟩
  have hbel : Bel (B ++ loc ++ o1) (BM ++ o1) := by
    refine ⟨?_, fun y hy => ?_⟩
    · have := h.bel.l
      simp only [List.length_append]; omega
    · rcases List.mem_append.1 hy with hy | hy
      · exact List.mem_append_left _ (List.mem_append_left _ (h.bel.m y hy))
      · exact List.mem_append_right _ hy
  have hil := h.hi
  obtain ⟨N, q, g1, g2⟩ := inv_sim h.env H i1 (by omega) hbel a2 (R := R.pay) (show R.st = (BM ++ o1) ++ ars by rw [h.f.rs]; simp) hsX hfrX hst2 hgX (by unfold mes at hn; show (o.b - (R.used + 1)).toNat * 100 + 24 < n; omega)
  have hFl : (FB ++ [(⟨k, ((posOf (codeOf m k) i : Nat) : Int) + 1, B.length, B.length + loc.length, u.results⟩ : Fr)]).length = FB.length + 1 := by simp
  rw [hFl] at g1
  have hst' := hst (runM E N)
  rw [if_neg (by omega), hk'] at hst'
  rw [show (((FB.length + 1 : Nat) : Int) + 1) = (FB.length : Int) + 1 + 1 by omega] at g1
  rw [g1, Option.map_some] at hst'
  cases g2 with
  | err e x1 x2 R' g hs he hE =>
    intro op hh kp
    exact ⟨N + 1, (-1, e, R', loc), run_stop h.small h.at_ (by omega) hst' (.inl he), .err e x1 x2 R' loc (hreach.trans g) hs he hE⟩
  | done x1 x2 R' vals g hus hs fr st rs vt sm =>
    rw [if_neg (by rw [hFl]; omega)] at hs
    refine h.go_on H hn (R' := R') (loc' := loc) (ops' := o1 ++ vals) (y := x2) (by omega) hst' (hreach.trans (g.trans (.one hs))) (by have : R.used + 1 ≤ R'.used := hus; omega) ⟨sm, ?_, ?_, ?_, h.f.lt, ?_⟩
    · rw [fr]; simp
    · rw [st]; simp
    · rw [rs]; simp
    · rw [i3, List.map_append, a1, vt]
end
theorem seq_allM (env : EnvOk E m P o mem) : ∀ n, SeqN E m P o mem args n
  | 0 => fun _ _ _ _ _ _ _ _ _ _ _ _ _ _ _ h => absurd h (Nat.not_lt_zero _)
  | n + 1 => fun k u T fsM uM hp B BM FB x R loc ops i h hm => by
    have H := seq_allM env n
    have hn : mes o R (codeOf m k).length i ≤ n := by omega
    have hw := h.wl
    unfold wellP at hw
    by_cases h1 : ((codeOf m k)[i]'h.hi).op = 1 ∨ ((codeOf m k)[i]'h.hi).op = 2 ∨ ((codeOf m k)[i]'h.hi).op = 3
    · exact h.go_block H hn h1
    by_cases h4 : ((codeOf m k)[i]'h.hi).op = 4
    · exact h.go_else h4
    by_cases h5 : ((codeOf m k)[i]'h.hi).op = 5
    · exact h.go_end h5
    by_cases h6 : ((codeOf m k)[i]'h.hi).op = 6
    · exact h.go_6 h6
    by_cases h7 : ((codeOf m k)[i]'h.hi).op = 7
    · exact h.go_7 H hn h7
    by_cases h8 : ((codeOf m k)[i]'h.hi).op = 8
    · exact h.go_8 h8
    by_cases h9 : ((codeOf m k)[i]'h.hi).op = 9
    · exact h.go_ret h9
    by_cases h10 : ((codeOf m k)[i]'h.hi).op = 10
    · exact h.go_10 H hn h10
    by_cases h0 : ((codeOf m k)[i]'h.hi).op = 0
    · exact h.go_zero h0
    · exact h.go_plain H hn (by omega)
end Go.Wl
