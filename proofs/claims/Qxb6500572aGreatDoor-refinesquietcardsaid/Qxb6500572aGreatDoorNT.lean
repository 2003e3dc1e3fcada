/- The two machines: branches. -/
import Derived.Test.Qxb6500572aGreatDoorNS
namespace Go.Wl
open Go Go.Sl
set_option linter.unusedVariables false
variable {E : RE} {N : Nat} {i : Nat} {R R' : RS} {loc loc' : List W} {m : Mod} {P : Prog} {o : Op1} {mem : Mem} {args : List Val} {k : Nat} {u : Fun} {T : Typ} {fsM : List Fm} {uM : Fm} {hp : Pic P u T fsM uM (codeOf m k)} {B BM : List W} {FB : List Fr} {x : VM} {ops ops' : List W}
/-- A branch that is taken. -/
theorem out_br {Z : VM} {R0 : RS} {ops0 : List W} {l : Nat} {pc : Nat} (hl : l < (hp.kk i).cs.length) (hZ : Frm P k u T B BM FB Z R0 loc ops0 pc) {Z' : VM} (hfr : Z'.i.fr = Z.i.fr) (hst : Z'.i.st = B ++ loc ++ ops') (hs : Sim P Z' R') {f : Flat} {op : Int} (hf : f = { jumpM (hp.kk i) (codeOf m k) l with op := op }) (hj : JT T (ops'.map W.t) f) (hstep : x.step o.b = (Z'.jump f, none)) (hu : R.used < R'.used) (hn : ops'.length ≤ 1000) (pe : Nat) (hrs : R'.st = BM ++ ops') :
    Out P k u T B BM FB o.b (codeOf m k) x R pe (hp.kk i).cs ((l : Int), 0, R', loc) := by
  have hJ := hZ.jump hfr hst hs hj
  obtain ⟨j1, j2, j3, j4, j5⟩ := hj
  rw [hf] at hJ j3
  have e1 : (labC (hp.kk i).cs l) = (hp.kk i).lab l := rfl
  refine .br l (Z'.jump f) R' loc ops' (.one hstep) hu hl hrs hn ?_ ?_
  · rw [e1]
    simp only [jumpM, List.length_map] at j3
    omega
  · rw [e1, hf]
    simp only [jumpM, Int.toNat_natCast] at hJ
    simpa only [jumpM] using hJ
section
variable (h : Here E m P o mem args k u T fsM uM hp B BM FB x R loc ops i)
include h
theorem Here.go_6 (h6 : ((codeOf m k)[i]'h.hi).op = 6) : Goes E m P o k u T hp B BM FB x R loc i := by
  have hf : u.code[posOf (codeOf m k) i]? = some { jumpM (hp.kk i) (codeOf m k) ((codeOf m k)[i]'h.hi).imm.toNat with op := ((codeOf m k)[i]'h.hi).op } := by
    have := hp.get h.hi (k := 0) (f := { jumpM (hp.kk i) (codeOf m k) ((codeOf m k)[i]'h.hi).imm.toNat with op := ((codeOf m k)[i]'h.hi).op }) (by unfold emM; rw [if_neg (by omega), if_neg (by omega), if_neg (by omega), if_neg (by omega), if_pos (by omega)]; rfl)
    simpa using this
  by_cases hb : o.b ≤ R.used
  · exact h.go_no hf (by omega) (by dsimp only; omega) hb
  intro op hh kp
  have hw := h.wl
  unfold wellP at hw
  have hl := (one_lab (hp.err h.hi)).1 (.inl h6)
  have hj := (h.f.iok hp.fl hf).i6 h6
  refine ⟨1, _, run_stop h.small h.at_ (by omega) ?_ (.inr ?_), out_br (l := ((codeOf m k)[i]'h.hi).imm.toNat) (by omega) h.f.paid rfl h.f.paid.st h.f.paid.sim rfl hj ?_ (by show R.used < R.used + 1; omega) ?_ _ h.f.rs⟩
  · rw [h.stepP_eq hb (by omega)]
    unfold stepP
    rw [if_neg (by omega), if_pos h6]
    congr 2
    omega
  · dsimp only; omega
  · rw [step_pay h.f h.hu hf (by dsimp only; omega) (by omega), exec_x6 h6]; rfl
  · have := (h.f.len h.bel h.env.T h.g).2
    omega
theorem Here.go_7 {n : Nat} (H : SeqN E m P o mem args n) (hn : mes o R (codeOf m k).length i ≤ n) (h7 : ((codeOf m k)[i]'h.hi).op = 7) : Goes E m P o k u T hp B BM FB x R loc i := by
  have hf : u.code[posOf (codeOf m k) i]? = some { jumpM (hp.kk i) (codeOf m k) ((codeOf m k)[i]'h.hi).imm.toNat with op := ((codeOf m k)[i]'h.hi).op } := by
    have := hp.get h.hi (k := 0) (f := { jumpM (hp.kk i) (codeOf m k) ((codeOf m k)[i]'h.hi).imm.toNat with op := ((codeOf m k)[i]'h.hi).op }) (by unfold emM; rw [if_neg (by omega), if_neg (by omega), if_neg (by omega), if_neg (by omega), if_pos (by omega)]; rfl)
    simpa using this
  by_cases hb : o.b ≤ R.used
  · exact h.go_no hf (by omega) (by dsimp only; omega) hb
  have hw := h.wl
  unfold wellP at hw
  have hl := (one_lab (hp.err h.hi)).1 (.inr h7)
  obtain ⟨τ', g1, g2, hj⟩ := (h.f.iok hp.fl hf).i7 h7
  obtain ⟨o1, z, rfl, g3, g4⟩ := map_snoc g1
  have r0 : lst R.pay.st = z := by show lst R.st = z; rw [h.f.rs, lst_R]
  have r1 : R.pay.st.dropLast = BM ++ o1 := by show R.st.dropLast = _; rw [h.f.rs, drop_R]
  have v0 : lst x.fetch.pay.i.st = z := by show lst x.i.st = z; rw [h.f.st, lst_R]
  have v1 : x.fetch.pay.pop.i.st = B ++ loc ++ o1 := by show x.i.st.dropLast = _; rw [h.f.st, drop_R]
  have hln : 1 ≤ R.pay.st.length ∧ (lst R.pay.st).w = false := by
    refine ⟨by show 1 ≤ R.st.length; rw [h.f.rs]; simp; omega, by rw [r0]; exact t105 g4⟩
  have hsp : ∀ (rec : Rec), stepM E rec R loc ((codeOf m k)[i]'h.hi) (FB.length + 1) = some (if z.n ≠ 0 then ((codeOf m k)[i]'h.hi).imm else -1, 0, { R.pay with st := BM ++ o1 }, loc) := fun rec => by
    rw [h.stepP_eq hb (by omega)]
    unfold stepP
    rw [if_neg (by omega), if_neg (by omega), if_pos h7, if_pos hln, r0, r1]
  have hstep : x.step o.b = if z.n = 0 then x.fetch.pay.pop.next else (x.fetch.pay.pop.jump { jumpM (hp.kk i) (codeOf m k) ((codeOf m k)[i]'h.hi).imm.toNat with op := ((codeOf m k)[i]'h.hi).op }, none) := by
    rw [step_pay h.f h.hu hf (by dsimp only; omega) (by omega), exec_x7 h7]
    unfold VM.x7
    rw [v0]
  have hsim : Sim P x.fetch.pay.pop { R.pay with st := BM ++ o1 } := h.f.paid.sim.st _ _
  by_cases hz : z.n = 0
  · rw [if_pos hz] at hstep
    have hsp' := hsp (runM E 0)
    rw [if_neg (by simpa using hz)] at hsp'
    obtain ⟨e1, e2⟩ := h.f.paid.nxt (Z := x.fetch.pay.pop) (loc' := loc) (ops' := o1) (R' := { R.pay with st := BM ++ o1 }) rfl v1 rfl hsim rfl (by rw [g2, g3])
    exact h.go_on H hn (by omega) hsp' (.one (by rw [hstep]; exact e1)) (by show R.used < R.used + 1; omega) e2
  · rw [if_neg hz] at hstep
    intro op hh kp
    refine ⟨1, _, run_stop h.small h.at_ (by omega) (hsp _) (.inr ?_), ?_⟩
    · rw [if_pos hz]; omega
    · rw [if_pos hz, show ((codeOf m k)[i]'h.hi).imm = ((((codeOf m k)[i]'h.hi).imm.toNat : Nat) : Int) by omega]
      refine out_br (l := ((codeOf m k)[i]'h.hi).imm.toNat) (ops' := o1) (by omega) h.f.paid (Z' := x.fetch.pay.pop) rfl v1 hsim rfl (by rw [g3]; exact hj) hstep (by show R.used < R.used + 1; omega) ?_ _ rfl
      have := (h.f.len h.bel h.env.T h.g).2
      simp at this
      omega
theorem Here.go_8 (h8 : ((codeOf m k)[i]'h.hi).op = 8) : Goes E m P o k u T hp B BM FB x R loc i := by
  have hem : emM (hp.kk i) (codeOf m k) i ((codeOf m k)[i]'h.hi) = ⟨8, (((codeOf m k)[i]'h.hi).tab.length : Int) - 1, 0, 0⟩ :: ((codeOf m k)[i]'h.hi).tab.map (fun t => jumpM (hp.kk i) (codeOf m k) t.toNat) := by
    unfold emM
    rw [if_neg (by omega), if_neg (by omega), if_neg (by omega), if_neg (by omega), if_neg (by omega), if_pos h8]
  have hf : u.code[posOf (codeOf m k) i]? = some ⟨8, (((codeOf m k)[i]'h.hi).tab.length : Int) - 1, 0, 0⟩ := by
    have := hp.get h.hi (k := 0) (f := ⟨8, (((codeOf m k)[i]'h.hi).tab.length : Int) - 1, 0, 0⟩) (by rw [hem]; rfl)
    simpa using this
  by_cases hb : o.b ≤ R.used
  · exact h.go_no hf (by omega) (by dsimp only; omega) hb
  intro op hh kp
  have hw := h.wl
  unfold wellP at hw
  obtain ⟨τ', g1, g2, g2', hj⟩ := (h.f.iok hp.fl hf).i8 rfl
  obtain ⟨o1, z, rfl, g3, g4⟩ := map_snoc g1
  have r0 : lst R.pay.st = z := by show lst R.st = z; rw [h.f.rs, lst_R]
  have r1 : R.pay.st.dropLast = BM ++ o1 := by show R.st.dropLast = _; rw [h.f.rs, drop_R]
  have v0 : lst x.fetch.pay.i.st = z := by show lst x.i.st = z; rw [h.f.st, lst_R]
  have hln : 1 ≤ R.pay.st.length ∧ (lst R.pay.st).w = false := by
    refine ⟨by show 1 ≤ R.st.length; rw [h.f.rs]; simp; omega, by rw [r0]; exact t105 g4⟩
  obtain ⟨a, ha⟩ : ∃ a : Nat, min (z.n % 4294967296) ((((codeOf m k)[i]'h.hi).tab.length : Int) - 1) = a := ⟨_, (Int.toNat_of_nonneg (by omega)).symm⟩
  have hal : a < ((codeOf m k)[i]'h.hi).tab.length := by omega
  obtain ⟨t, ht⟩ : ∃ t, ((codeOf m k)[i]'h.hi).tab[a] = t := ⟨_, rfl⟩
  have hg : ((codeOf m k)[i]'h.hi).tab[a]? = some t := by rw [List.getElem?_eq_getElem hal, ht]
  have hl := (one_lab (hp.err h.hi)).2 h8 t (by rw [← ht]; exact List.getElem_mem hal)
  obtain ⟨e, he1, he2, hj⟩ := hj a (by dsimp only; omega)
  have he : e = jumpM (hp.kk i) (codeOf m k) t.toNat := by
    have := hp.get h.hi (k := a + 1) (f := jumpM (hp.kk i) (codeOf m k) t.toNat) (by rw [hem, List.getElem?_cons_succ, List.getElem?_map, hg]; rfl)
    rw [show posOf (codeOf m k) i + (a + 1) = posOf (codeOf m k) i + 1 + a by omega, he1] at this
    exact Option.some.inj this
  have hat : x.fetch.pay.P.at x.fetch.pay.i.top.f (x.fetch.pay.i.top.pc + 1 + a) = e := by
    unfold Prog.at
    have hk := (List.getElem?_eq_some_iff.1 h.hu).1
    have hpc := (List.getElem?_eq_some_iff.1 he1).1
    rw [h.f.paid.topv, h.f.paid.sim.P]
    dsimp only
    rw [if_neg (by omega), Int.toNat_natCast, h.hu]
    dsimp only
    rw [if_neg (by omega), show (((posOf (codeOf m k) i : Nat) : Int) + 1 + (a : Int)).toNat = posOf (codeOf m k) i + 1 + a by omega, List.getD_eq_getElem?_getD, he1]; rfl
  have hstep : x.step o.b = (({ x.fetch.pay with steps := IntKind.i64.wrap (x.fetch.pay.steps + 1) } : VM).pop.jump e, none) := by
    rw [step_pay h.f h.hu hf (by dsimp only; omega) (by omega), exec_x8 rfl]
    unfold VM.x8
    dsimp only
    rw [v0, ha, hat]
  refine ⟨1, ((t.toNat : Int), 0, { R.pay.tick with st := BM ++ o1 }, loc), run_stop h.small h.at_ (by omega) ?_ (.inr (by dsimp only; omega)), out_br (l := t.toNat) (ops' := o1) hl h.f.paid (Z' := ({ x.fetch.pay with steps := IntKind.i64.wrap (x.fetch.pay.steps + 1) } : VM).pop) rfl ?_ ?_ (op := 6) (by rw [he]; rfl) (by rw [g3]; exact hj) hstep (by show R.used < R.used + 1; omega) ?_ _ rfl⟩
  · rw [h.stepP_eq hb (by omega)]
    unfold stepP
    rw [if_neg (by omega), if_neg (by omega), if_neg (by omega), if_pos h8, if_pos hln, r0, r1, ha, Int.toNat_natCast, List.getD_eq_getElem?_getD, hg]
    rfl
  · show x.i.st.dropLast = _; rw [h.f.st, drop_R]
  · have s := h.f.paid.sim
    refine ⟨⟨?_, s.e.mem, s.e.used, s.e.tr⟩, s.P, s.ak, s.k6⟩
    show IntKind.i64.wrap (x.fetch.pay.steps + 1) = IntKind.i64.wrap (R.pay.n + 1)
    rw [s.e.n]
  · have := (h.f.len h.bel h.env.T h.g).2
    simp at this
    omega
end
end Go.Wl
