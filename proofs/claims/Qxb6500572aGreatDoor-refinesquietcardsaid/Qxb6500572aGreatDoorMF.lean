/- What the plain side owes the first two laws; the model's step against the tower's. -/
import Derived.Test.Qxb6500572aGreatDoorWLawG
namespace Go.Sl
open Go Go.Wl Go.Proofs
set_option linter.unusedVariables false
abbrev resW (q : Int × RS) : List W := if q.1 = 0 then q.2.st else []
abbrev envM (m : Mod) (o : Op1) : RE := ⟨(loadM m).1, m.funcs.map (·.code), o.b, decide (o.c = 0), o.t⟩
structure RefP (L : Plain) : Prop where
  run : ∀ m, ModOk m → ∀ (fs : List Fm) (f : Nat) (u : Fm), SameM m fs → fs[f]? = some u → m.imports.length ≤ f → f < m.imports.length + m.funcs.length → u.code = [] → (readsM m (m.imports.length + m.funcs.length) [] 0).2 = none → fs.length = m.imports.length + m.funcs.length → RunOk fs u u.src (Km.start u) [] 0
  same : ∀ m, ModOk m → ModI m → (loadMM m).2 = (loadM m).2
  flat : ∀ m, ModOk m → ModI m → (loadM m).2.2.2 = 0 → (loadMM m).1.flat = (loadM m).1 ∧ CheckOk (loadM m).1 ∧ (loadMM m).1.funs.length ≤ 1000
  ni : ∀ m, ModOk m → ModI m → (loadM m).2.2.2 = 0 → 0 ≤ (loadM m).1.nimp ∧ (loadM m).1.nimp ≤ 1000
  sl : ∀ m, ModOk m → ModI m → (loadM m).2.2.2 = 0 → ∀ g, ((loadM m).1.sig g).1.length ≤ 50 ∧ ((loadM m).1.sig g).2.1.length ≤ 1 ∧ ((loadM m).1.sig g).2.2.1.length ≤ 50
  sr : ∀ m, ModOk m → ModI m → (loadM m).2.2.2 = 0 → ∀ g t, t ∈ ((loadM m).1.sig g).2.1 → t = 105 ∨ t = 108
  st : ∀ m, ModOk m → ModI m → (loadM m).2.2.2 = 0 → ∀ g t, t ∈ ((loadM m).1.sig g).2.2.1 → t = 105 ∨ t = 108
  call : ∀ m o args mem r, ModOk m → ModI m → (loadM m).2.2.2 = 0 → L.TOk (loadM m).1 mem → OpOk o → (∀ y, y ∈ args → i64ok y.v) → owed (loadM m).1 o.a args = 0 → CallP (L.Gd (loadM m).1 mem o args) o.b (loadM m).1 0 mem (host0 o) o.a args r →
    ∃ (n : Nat) (q : Int × RS), invP (envM m o) (runM (envM m o) n) (RS.begin args mem) o.a 1 = some q ∧ q.1 = r.e ∧ q.2.used = r.used ∧ (resW q).map W.val = r.res ∧ q.2.trace = traceOf r.host ∧ q.2.mem = r.mem ∧ q.2.n = r.steps ∧
      (resW q).length ≤ 1000000 ∧ (∀ y, y ∈ resW q → -9223372036854775808 ≤ y.n ∧ y.n ≤ 9223372036854775807) ∧ q.2.trace.length ≤ 1000000
/-- The two sides at rest. -/
structure RelT (L : Plain) (T : Tw) (M : Mw) (mm : Mod) : Prop where
  ok : ModOk mm
  i : ModI mm
  e : (loadM mm).2.2.2 = 0
  P : T.P = (loadM mm).1
  PM : M.P = (loadMM mm).1
  src : M.src = mm.funcs.map (·.code)
  mem : M.mem = T.mem
  tok : L.TOk T.P T.mem
theorem RelT.flat {L : Plain} (hR : RefP L) {T : Tw} {M : Mw} {mm : Mod} (h : RelT L T M mm) : M.P.flat = T.P := by rw [h.PM, h.P]; exact (hR.flat mm h.ok h.i h.e).1
theorem RelT.link {L : Plain} (hR : RefP L) {m : Mod} (ok : ModOk m) (i : ModI m) (e : (loadM m).2.2.2 = 0) : RelT L ⟨(loadM m).1, 0, mem0 m, 0⟩ (linkM m) m :=
  ⟨ok, i, e, rfl, rfl, rfl, rfl, L.load m ok i e⟩
theorem src_ok {mm : Mod} (ok : ModOk mm) : ∀ src, src ∈ mm.funcs.map (·.code) → src.length ≤ 1000 ∧ ∀ c, c ∈ src → well c = true := by
  intro src h
  obtain ⟨fn, hfn, rfl⟩ := List.mem_map.1 h
  have := ok.fn fn hfn
  exact ⟨by omega, nest_all_well this.2.2.2.2.2⟩
def DPost (L : Plain) (rb : Nat) (s sm : Seg) (o : Op1) (T' : Tw) (a : Ans) (v : Value) (H : Hp) : Prop :=
  ∃ M' HM mm', v = .agg (ansV a).toArray ∧ H = HM ++ [s, sm] ∧ isMow rb M' HM ∧ RelT L T' M' mm' ∧ (o.kind = 10 → M'.n = T'.steps) ∧ (o.kind ≠ 10 → T'.steps = 0)
theorem key {L : Plain} {rb : Nat} {s sm : Seg} {o : Op1} {T' : Tw} {a a' : Ans} {M' : Mw} {args : List Value} {H0 : Hp} (h : Spec Tryz.prog 25 args H0 (Ret fun v H => ∃ HM, v = .agg (ansV a').toArray ∧ H = HM ++ [s, sm] ∧ isMow rb M' HM)) (ea : a' = a) (hm : ∃ mm', RelT L T' M' mm') (h1 : o.kind = 10 → M'.n = T'.steps) (h2 : o.kind ≠ 10 → T'.steps = 0) : Spec Tryz.prog 25 args H0 (Ret (DPost L rb s sm o T' a)) := by
  subst ea
  refine h.mono ?_
  intro e H hh
  cases e with
  | returned v =>
    obtain ⟨HM, e1, e2, e3⟩ := hh
    obtain ⟨mm', hm'⟩ := hm
    exact ⟨M', HM, mm', e1, e2, e3, hm', h1, h2⟩
  | _ => exact hh
theorem tm_Do (L : Plain) (hR : RefP L) (mm : Mod) (T T' : Tw) (M : Mw) (hT : RelT L T M mm) (h0 : T.steps = 0) (rb pb kb x gb mb : Nat) (fa : Option Addr) (rv : Value) (s0 sx sp sk : Seg) (E : RE) (R : RS) (hp : isPm pb fa M.P 0 sp) (hk : isMm kb M.mem sk) (hx : isR x (pvp pb) rv (pvp kb) E R s0) (hn : R.n = M.n) (hsx : isSrc rv M.src sx)
    (g : Rg) (s sm : Seg) (hg : isRegs gb mb g s sm) (o : Op1) (hO : OpOk o) (ok0 : ModOk g.m) (i0 : ModI g.m) (hal : g.args.length ≤ 100) (hra : ∀ y, y ∈ g.args → i64ok y.v) (a : Ans) (hdo : DoX L T g o T' a) :
    Spec Tryz.prog 25 [pvp rb, .pointer (some ⟨gb, 0, none⟩), .agg (opV o).toArray] [blk rb 66 [pvp pb, pvp kb, pvp x], s0, sx, sp, sk, s, sm]
      (Ret (DPost L rb s sm o T' a)) := by
  have hfl := hT.flat hR
  rcases hdo with ⟨h8, ⟨he, rfl, rfl⟩ | ⟨he, rfl, rfl⟩⟩ | ⟨h10, r, hr, rfl, rfl⟩ | ⟨h11, rfl, rfl⟩ | ⟨h12, rfl, rfl⟩ | ⟨n8, n10, n11, n12, rfl, rfl⟩
  · have hs := hR.same g.m ok0 i0
    have he' : (loadMM g.m).2.2.2 = 0 := by rw [hs]; exact he
    exact key (tm_DoM_loadO rb pb kb x gb mb M fa rv s0 sx sp sk E R hp hk hx hn hsx g s sm hg o h8 ok0 (hR.run g.m ok0) he') rfl ⟨g.m, RelT.link hR ok0 i0 he⟩ (fun h => by omega) (fun _ => rfl)
  · have hs := hR.same g.m ok0 i0
    have he' : (loadMM g.m).2.2.2 ≠ 0 := by rw [hs]; exact he
    refine key (tm_DoM_loadE rb pb kb x gb mb M fa rv s0 sx sp sk E R hp hk hx hn hsx g s sm hg o h8 ok0 (hR.run g.m ok0) he') ?_ ⟨mm, hT⟩ (fun h => by omega) (fun _ => h0)
    rw [hs]
  · have hP := hT.P
    have hC : RC (⟨M.P.flat, M.src, o.b, decide (o.c = 0), o.t⟩ : RE) pb rv sp sx := by
      refine ⟨⟨fa, M.P, 0, hp, rfl, ?_⟩, hsx, hO.b.2, hO.t, ?_, ?_, ?_, ?_, ?_, ?_⟩
      · rw [hT.PM]; exact (hR.flat mm hT.ok hT.i hT.e).2.2
      · show 0 ≤ M.P.flat.nimp ∧ M.P.flat.nimp ≤ 1000; rw [hfl, hP]; exact hR.ni mm hT.ok hT.i hT.e
      · show ∀ g, (M.P.flat.sig g).1.length ≤ 50 ∧ (M.P.flat.sig g).2.1.length ≤ 1 ∧ (M.P.flat.sig g).2.2.1.length ≤ 50; rw [hfl, hP]; exact hR.sl mm hT.ok hT.i hT.e
      · show ∀ g t, t ∈ (M.P.flat.sig g).2.1 → t = 105 ∨ t = 108; rw [hfl, hP]; exact hR.sr mm hT.ok hT.i hT.e
      · show ∀ g t, t ∈ (M.P.flat.sig g).2.2.1 → t = 105 ∨ t = 108; rw [hfl, hP]; exact hR.st mm hT.ok hT.i hT.e
      · show ∀ src, src ∈ M.src → _; rw [hT.src]; exact src_ok hT.ok
      · show M.src.length ≤ 1000; rw [hT.src, List.length_map]; have := hT.ok.nf; omega
    have hps : ∀ t, t ∈ (M.P.flat.sig o.a).1 → t = 105 ∨ t = 108 := by rw [hfl]; exact (L.sg _ _ hT.tok o.a).1
    have hfin := L.fin _ _ _ _ _ hT.tok hO hra hr
    by_cases ho : owed M.P.flat o.a g.args = 0
    · have ho' := ho
      rw [hfl, hP] at ho'
      have hr' := hr
      rw [hP] at hr'
      obtain ⟨n, q, hinv, q1, q2, q3, q4, q5, q6, q7, q8, q9⟩ := hR.call mm o g.args T.mem r hT.ok hT.i hT.e (hP ▸ hT.tok) hO hra ho' hr'
      have hE : (⟨M.P.flat, M.src, o.b, decide (o.c = 0), o.t⟩ : RE) = envM mm o := by rw [hfl, hP, hT.src]
      refine key (tm_DoM_callR rb pb kb x gb mb M fa rv s0 sx sp sk E R hp hk hx hn hsx g s sm hg o h10 hC hO.a hal hra hps ho n q (by rw [hE, hT.mem]; exact hinv) q7 q8 q9) ?_ ⟨mm, ⟨hT.ok, hT.i, hT.e, ?_, hT.PM, hT.src, q5, ?_⟩⟩ (fun _ => q6) (fun h => absurd h10 h)
      · show (⟨q.1, q.2.used, ((resW q).length : Int), valsS ((resW q).map W.val) ++ [124] ++ q.2.trace⟩ : Ans) = ansOf r
        unfold ansOf
        rw [q1, q2, q3, q4, ← q3, List.length_map]
      · rw [hfin.1]; exact hP
      · show L.TOk r.P r.mem; rw [hfin.1]; exact hfin.2.1
    · have ho' := ho
      rw [hfl] at ho'
      rcases hr with ⟨_, rfl⟩ | ⟨h, _⟩ | ⟨h, _⟩
      · refine key (tm_DoM_callO rb pb kb x gb mb M fa rv s0 sx sp sk E R hp hk hx hn hsx g s sm hg o h10 hC hO.a hal hra hps ho) ?_ ⟨mm, ⟨hT.ok, hT.i, hT.e, hP, hT.PM, hT.src, hT.mem, hT.tok⟩⟩ (fun _ => rfl) (fun h => absurd h10 h)
        rw [hfl]
        unfold ansOf traceOf host0
        simp [valsS]
      · exact absurd h ho'
      · exact absurd h ho'
  · have hpb := L.pb _ _ hT.tok
    refine key (tm_DoM_show rb pb kb x gb mb M fa rv s0 sx sp sk E R hp hk hx hn hsx g s sm hg o h11 (by rw [hfl]; exact hpb.1) (by rw [hfl]; exact hpb.2.1) (by rw [hT.mem]; exact hpb.2.2)) ?_ ⟨mm, hT⟩ (fun h => by omega) (fun _ => h0)
    rw [hfl, hT.mem]
  · exact key (tm_DoM_check rb pb kb x gb mb M fa rv s0 sx sp sk E R hp hk hx hn hsx g s sm hg o h12) rfl ⟨mm, hT⟩ (fun h => by omega) (fun _ => h0)
  · exact key (tm_DoM_other rb pb kb x gb mb M fa rv s0 sx sp sk E R hp hk hx hn hsx g s sm hg o ⟨n8, n10, n11, n12⟩) rfl ⟨mm, hT⟩ (fun h => absurd h n10) (fun _ => h0)
end Go.Sl
