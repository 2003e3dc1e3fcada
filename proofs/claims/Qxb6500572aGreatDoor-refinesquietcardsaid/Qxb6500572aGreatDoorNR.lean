/- The two machines: outcomes and jumps. -/
import Derived.Test.Qxb6500572aGreatDoorNQ
namespace Go.Wl
open Go Go.Sl
set_option linter.unusedVariables false
structure EnvOk (E : RE) (m : Mod) (P : Prog) (o : Op1) (mem : Mem) : Prop where
  eP : E.P = P
  src : E.src = m.funcs.map (·.code)
  fuel : E.fuel = o.b
  host : E.host = decide (o.c = 0)
  tape : E.tape = o.t
  L : Loaded m P
  T : TOk P mem
  O : OpOk o
structure Bel (B BM : List W) : Prop where
  l : BM.length ≤ B.length
  m : ∀ y, y ∈ BM → y ∈ B
variable {P : Prog} {k : Nat} {u : Fun} {T : Typ} {B BM : List W} {FB : List Fr} {x y z Z : VM} {R R' R0 : RS} {loc ops loc' ops' : List W} {pc pc' : Nat} {c : Ins} {f : Flat} {mem : Mem} {o : Op1} {args : List Val} {b : Int}
theorem Frm.len (h : Frm P k u T B BM FB x R loc ops pc) (hb : Bel B BM) (hT : TOk P mem) (g : Gd P mem o args x) : R.st.length ≤ 124 ∧ ops.length ≤ 124 := by
  have h1 := g.stl hT
  have h2 := hb.l
  rw [h.st] at h1
  rw [h.rs]
  simp only [List.length_append] at h1 ⊢
  omega
theorem Frm.small (h : Frm P k u T B BM FB x R loc ops pc) (hb : Bel B BM) (hT : TOk P mem) (g : Gd P mem o args x) : R.small = true := by
  rw [small_iff]
  have hh := g.host
  have hk := hh.k
  have htr := hh.tr
  refine ⟨by have := (h.len hb hT g).1; omega, ?_, ?_, ?_, fun y hy => ?_⟩
  · rw [← h.sim.e.tr]
    unfold traceOf
    split
    · omega
    · simp
  · have := h.sim.ak; omega
  · rw [← h.sim.e.used]; exact g.u0.1
  · have hin : y ∈ x.i.st := by
      rw [h.rs] at hy
      rw [h.st]
      rcases List.mem_append.1 hy with hy | hy
      · exact List.mem_append_left _ (List.mem_append_left _ (hb.m y hy))
      · exact List.mem_append_right _ hy
    exact W.ok_rng (g.ok y hin)
theorem Reach.gd (hT : TOk P mem) (hO : OpOk o) (h : Reach o.b x y) (g : Gd P mem o args x) : Gd P mem o args y := by
  induction h with
  | refl => exact g
  | step h _ ih => exact ih (Gd.step hT hO g h).1
/-! Labels. -/
def topC (cs : List Ctl) : Ctl := cs.getD (cs.length - 1) Ctl.nil
def labC (cs : List Ctl) (l : Nat) : Ctl := cs.getD (cs.length - 1 - l) Ctl.nil
theorem topC_snoc (cs : List Ctl) (c : Ctl) : topC (cs ++ [c]) = c := by
  unfold topC
  rw [List.length_append, List.length_singleton, Nat.add_sub_cancel, List.getD_eq_getElem?_getD, List.getElem?_append_right (Nat.le_refl _), Nat.sub_self]; rfl
theorem labC_zero (cs : List Ctl) (c : Ctl) : labC (cs ++ [c]) 0 = c := topC_snoc cs c
theorem labC_succ {cs : List Ctl} (c : Ctl) {l : Nat} (h : l < cs.length) : labC (cs ++ [c]) (l + 1) = labC cs l := by
  unfold labC
  rw [List.length_append, List.length_singleton, List.getD_eq_getElem?_getD, List.getD_eq_getElem?_getD, List.getElem?_append_left (by omega), show cs.length + 1 - 1 - (l + 1) = cs.length - 1 - l by omega]
/-- How a run of instructions may end. -/
inductive Out (P : Prog) (k : Nat) (u : Fun) (T : Typ) (B BM : List W) (FB : List Fr) (b : Int) (src : List Ins) (x : VM) (R : RS) (pe : Nat) (cs : List Ctl) : RR → Prop
  | err (e : Int) (x1 x2 : VM) (R' : RS) (loc' : List W) (h : Reach b x x1) (hs : x1.step b = (x2, some e)) (he : e ≠ 0) (hE : Ends x2 R') : Out P k u T B BM FB b src x R pe cs (-1, e, R', loc')
  | fell (x1 : VM) (R' : RS) (loc' ops' : List W) (h : Reach b x x1) (hu : R.used ≤ R'.used) (f : Frm P k u T B BM FB x1 R' loc' ops' pe) : Out P k u T B BM FB b src x R pe cs (-1, 0, R', loc')
  | br (l : Nat) (x1 : VM) (R' : RS) (loc' ops' : List W) (h : Reach b x x1) (hu : R.used < R'.used) (hl : l < cs.length) (hst : R'.st = BM ++ ops') (hn : ops'.length ≤ 1000) (hh : (labC cs l).height + (labelM (labC cs l)).length ≤ ops'.length)
      (f : Frm P k u T B BM FB x1 { R' with st := BM ++ (ops'.take (labC cs l).height ++ topW ops' (labelM (labC cs l)).length) } loc' (ops'.take (labC cs l).height ++ topW ops' (labelM (labC cs l)).length) (posOf src (endM src (labC cs l)).toNat)) : Out P k u T B BM FB b src x R pe cs (l, 0, R', loc')
  | ret (x1 x2 : VM) (R' : RS) (loc' o1 vals : List W) (h : Reach b x x1) (hu : R.used ≤ R'.used) (hs : x1.step b = (x2, if FB.length = 0 then some 0 else none)) (fr : x2.i.fr = FB) (st : x2.i.st = B ++ vals) (rs : R'.st = BM ++ (o1 ++ vals)) (vt : vals.map W.t = u.results) (sm : Sim P x2 R') (hn : R'.st.length ≤ 1000) : Out P k u T B BM FB b src x R pe cs (-2, 0, R', loc')
variable {src : List Ins} {pe pe' : Nat} {cs : List Ctl} {q : RR}
theorem Out.pre (h : Reach b x y) (hu : R.used ≤ R0.used) (g : Out P k u T B BM FB b src y R0 pe cs q) : Out P k u T B BM FB b src x R pe cs q := by
  cases g with
  | err e x1 x2 R' loc' h1 hs he hE => exact .err e x1 x2 R' loc' (h.trans h1) hs he hE
  | fell x1 R' loc' ops' h1 hu1 f => exact .fell x1 R' loc' ops' (h.trans h1) (by omega) f
  | br l x1 R' loc' ops' h1 hu1 hl hst hn hh f => exact .br l x1 R' loc' ops' (h.trans h1) (by omega) hl hst hn hh f
  | ret x1 x2 R' loc' o1 vals h1 hu1 hs fr st rs vt sm hn => exact .ret x1 x2 R' loc' o1 vals (h.trans h1) (by omega) hs fr st rs vt sm hn
theorem Out.stay (hq : q.2.1 ≠ 0 ∨ q.1 ≠ -1) (g : Out P k u T B BM FB b src x R pe cs q) : Out P k u T B BM FB b src x R pe' cs q := by
  cases g with
  | err e x1 x2 R' loc' h1 hs he hE => exact .err e x1 x2 R' loc' h1 hs he hE
  | fell x1 R' loc' ops' h1 hu1 f => rcases hq with hq | hq <;> exact absurd rfl hq
  | br l x1 R' loc' ops' h1 hu1 hl hst hn hh f => exact .br l x1 R' loc' ops' h1 hu1 hl hst hn hh f
  | ret x1 x2 R' loc' o1 vals h1 hu1 hs fr st rs vt sm hn => exact .ret x1 x2 R' loc' o1 vals h1 hu1 hs fr st rs vt sm hn
/-! One round. -/
section
variable (h : Frm P k u T B BM FB x R loc ops pc) (hu : P.funs[k]? = some u) (hf : u.code[pc]? = some f)
include h hu hf
theorem step_no (h45 : ¬ (f.op = 4 ∨ f.op = 5)) (hb : b ≤ R.used) : x.step b = (x.fetch, some 17) ∧ Ends x.fetch R.tick := by
  refine ⟨?_, h.fetched.sim.e⟩
  unfold VM.step
  rw [h.at_ hu hf, if_neg h45, if_neg (by rw [h.sim.e.used]; omega)]
theorem step_pay (h45 : ¬ (f.op = 4 ∨ f.op = 5)) (hb : R.used < b) : x.step b = x.fetch.pay.exec f := by
  unfold VM.step
  rw [h.at_ hu hf, if_neg h45, if_pos (by rw [h.sim.e.used]; exact hb)]
theorem step_free (h45 : f.op = 4 ∨ f.op = 5) : x.step b = x.fetch.exec f := by
  unfold VM.step
  rw [h.at_ hu hf, if_pos h45]
end
theorem Frm.jump (h : Frm P k u T B BM FB x R loc ops pc) (hfr : Z.i.fr = x.i.fr) (hst : Z.i.st = B ++ loc ++ ops') (hs : Sim P Z R') (hj : JT T (ops'.map W.t) f) :
    Frm P k u T B BM FB (Z.jump f) { R' with st := BM ++ (ops'.take f.cut.toNat ++ topW ops' f.keep.toNat) } loc (ops'.take f.cut.toNat ++ topW ops' f.keep.toNat) f.imm.toNat := by
  obtain ⟨j1, j2, j3, j4, j5⟩ := hj
  rw [List.length_map] at j3 j5
  have hfl : Z.i.top.floor = B.length + loc.length := by rw [top_of_fr hfr, h.topv]
  unfold VM.jump
  refine h.go (Z := VM.setSt Z (Z.i.st.take ((Z.i.top.floor : Int) + f.cut).toNat ++ Z.i.st.drop (Z.i.st.length - f.keep.toNat))) hfr ?_ rfl (hs.st _ _) rfl (Int.toNat_of_nonneg j4).symm ?_
  · show Z.i.st.take _ ++ Z.i.st.drop _ = _
    rw [hfl, hst, show (((B.length + loc.length : Nat) : Int) + f.cut).toNat = (B ++ loc).length + f.cut.toNat by simp; omega]
    rw [List.take_length_add_append, List.append_assoc]
    congr 1
    congr 1
    unfold topW
    rw [List.length_append, show (B ++ loc).length + ops'.length - f.keep.toNat = (B ++ loc).length + (ops'.length - f.keep.toNat) by omega, List.drop_length_add_append]
  · rw [j5]
    unfold topW
    rw [List.map_append, List.map_take, List.map_drop]
theorem Frm.leaves (h : Frm P k u T B BM FB x R loc ops pc) {τ' : List UInt8} (ht : ops.map W.t = τ' ++ u.results) : ∃ o1 vals, ops = o1 ++ vals ∧ vals.map W.t = u.results ∧ x.leave.i.fr = FB ∧ x.leave.i.st = B ++ vals ∧ Sim P x.leave R ∧ x.i.fr.length - 1 = FB.length := by
  obtain ⟨o1, vals, rfl, g1, g2⟩ := map_app ht
  have hl : vals.length = u.results.length := by rw [← g2, List.length_map]
  have hfl : x.i.fr.length - 1 = FB.length := by rw [h.fr]; simp
  refine ⟨o1, vals, rfl, g2, ?_, ?_, ⟨⟨h.sim.e.n, h.sim.e.mem, h.sim.e.used, h.sim.e.tr⟩, h.sim.P, h.sim.ak, h.sim.k6⟩, hfl⟩
  · show x.i.fr.take (x.i.fr.length - 1) = FB
    rw [hfl, h.fr, List.take_left]
  · show x.i.st.take x.i.top.base ++ x.i.st.drop (x.i.st.length - x.i.top.res.length) = _
    rw [h.topv]
    dsimp only
    rw [h.st, List.append_assoc, List.take_left]
    congr 1
    rw [show B ++ (loc ++ (o1 ++ vals)) = (B ++ (loc ++ o1)) ++ vals by simp, ← hl, List.length_append, Nat.add_sub_cancel, List.drop_left]
end Go.Wl
