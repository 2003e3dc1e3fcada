/- Plain: the interpreter and the machine go on together: counting loops. -/
import Derived.Test.Qxb6500573aGreatDoorSim14
import Derived.Test.Qxb6500573aGreatDoorNJ
namespace Go.Wl
open Go Go.Sl Go.Proofs
set_option linter.unusedVariables false
section
variable {c : Cx} {m : VM} {t : Th} {pc : Nat} {x : Int}
theorem Now.for3 (N : Now c m t pc) {op : Int} (hi : InsAt c pc op x) : (op = 30 ∨ op = 31 ∨ op = 32) → plainM c.th c.fs.length c.p op x m = forV c.th (c.B + x.toNat) op m ∧ 0 ≤ x ∧ x + 4 ≤ c.p.nslots := by
  obtain ⟨_, hx, hI⟩ := N.step hi
  intro ho
  have hs : x + 4 ≤ c.p.nslots := by
    cases hI with
    | forC _ h _ _ _ _ => omega
    | forT _ h _ _ _ _ => omega
    | forN _ h _ _ _ _ => omega
    | _ => omega
  have h := plain_in (op := op) N.run hx
  refine ⟨?_, hx.1, hs⟩
  rw [h, N.slotE hx.1]
  rcases ho with q | q | q <;> (subst q; (repeat rw [if_neg (by decide)]); rw [if_pos rfl, if_pos hs])
theorem cmp_zero (n : Nat) : (cmpM 5 n 0 = false ∧ cmpM 3 n 0 = false) ↔ (cmpM 1 n 0 = true ∨ cmpM 2 n n = true) := by
  unfold cmpM
  simp only [show (5:Int) = 1 ↔ False by decide, show (5:Int) = 2 ↔ False by decide, show (5:Int) = 3 ↔ False by decide, show (5:Int) = 4 ↔ False by decide, show (3:Int) = 1 ↔ False by decide, show (3:Int) = 2 ↔ False by decide, show (2:Int) = 1 ↔ False by decide, if_true, if_false, decide_eq_true_eq, decide_eq_false_iff_not]
  by_cases hn : Go.Nm.isNaNW n
  · rw [Go.Nm.ford_nan (.inl hn), Go.Nm.ford_nan (.inl hn)]
    simp
  · rw [Go.Nm.ford_self hn, Go.Nm.ord_key hn (show ¬ Go.Nm.isNaNW 0 by decide)]
    cases Go.Nm.cmpI (Go.Nm.svW n) (Go.Nm.svW 0) <;> simp
theorem Now.gets (N : Now c m t pc) {a : Nat} {v : V} (h : t.stack[a]? = some v) : getS m c.th (a : Nat) = some v := by
  have := N.small
  have := lt_of h
  unfold getS getT
  rw [N.ht, bind1_some]
  exact getI_mk (by omega) (by rw [Int.toNat_natCast]; exact h)
/-- The check of a counting loop, exactly. -/
theorem Now.xchk (N : Now c m t pc) (hi : InsAt c pc 30 x) {v0 v1 v2 : V} (h0 : t.stack[c.B + x.toNat]? = some v0) (h1 : t.stack[c.B + x.toNat + 1]? = some v1) (h2 : t.stack[c.B + x.toNat + 2]? = some v2) (hn : numR v2 = true) : vstepL c.th m = if (v0.t ≠ 2 ∨ v1.t ≠ 2 ∨ v2.t ≠ 2) ∨ (cmpM 5 v2.n.toNat 0 = false ∧ cmpM 3 v2.n.toNat 0 = false) then some (.thr (strV s_for) m) else some (.ok ev0 (upd c m t t.stack (pc + 1))) := by
  obtain ⟨hp, _, _⟩ := N.for3 hi (.inl rfl)
  unfold forV at hp
  rw [if_pos rfl] at hp
  unfold fChk at hp
  rw [N.gets h0, bind1_some] at hp
  have key : plainM c.th c.fs.length c.p 30 x m = if (v0.t ≠ 2 ∨ v1.t ≠ 2 ∨ v2.t ≠ 2) ∨ (cmpM 5 v2.n.toNat 0 = false ∧ cmpM 3 v2.n.toNat 0 = false) then some (.thr (strV s_for) m) else some (.ok () m) := by
    rw [hp]
    by_cases c0 : v0.t ≠ 2
    · rw [if_pos c0, if_pos (.inl (.inl c0))]
    rw [if_neg c0, N.gets h1, bind1_some]
    by_cases c1 : v1.t ≠ 2
    · rw [if_pos c1, if_pos (.inl (.inr (.inl c1)))]
    rw [if_neg c1, N.gets h2, bind1_some]
    by_cases c2 : v2.t ≠ 2
    · rw [if_pos c2, if_pos (.inl (.inr (.inr c2)))]
    rw [if_neg c2, if_pos hn]
    have hz := cmp_zero v2.n.toNat
    by_cases c3 : cmpM 5 v2.n.toNat 0 = false ∧ cmpM 3 v2.n.toNat 0 = false
    · rw [if_pos (.inr c3)]
      rcases hz.1 c3 with q | q
      · rw [q]; rfl
      · rw [q]; cases cmpM 1 v2.n.toNat 0 <;> rfl
    · rw [if_neg (fun q => q.elim (fun q => q.elim c0 fun q => q.elim c1 c2) c3)]
      have n1 : cmpM 1 v2.n.toNat 0 = false := by
        cases q : cmpM 1 v2.n.toNat 0
        · rfl
        · exact absurd (hz.2 (.inl q)) c3
      have n2 : cmpM 2 v2.n.toNat v2.n.toNat = false := by
        cases q : cmpM 2 v2.n.toNat v2.n.toNat
        · rfl
        · exact absurd (hz.2 (.inr q)) c3
      rw [n1, n2]
      rfl
  by_cases cc : (v0.t ≠ 2 ∨ v1.t ≠ 2 ∨ v2.t ≠ 2) ∨ (cmpM 5 v2.n.toNat 0 = false ∧ cmpM 3 v2.n.toNat 0 = false)
  · rw [if_pos cc] at key ⊢
    rw [N.plain hi (by decide), key]
    rfl
  · rw [if_neg cc] at key ⊢
    rw [N.plainO hi (by decide) key N.ht N.fr]
    rfl
/-- The test of a counting loop, exactly. -/
theorem Now.xtest (N : Now c m t pc) (hi : InsAt c pc 31 x) {v0 v1 v2 : V} (h0 : t.stack[c.B + x.toNat]? = some v0) (h1 : t.stack[c.B + x.toNat + 1]? = some v1) (h2 : t.stack[c.B + x.toNat + 2]? = some v2) (hn : numR v0 = true ∧ numR v1 = true ∧ numR v2 = true) : vstepL c.th m = some (.ok ev0 (upd c m t (t.stack ++ [boolV (if cmpM 5 v2.n.toNat 0 = true then cmpM 4 v0.n.toNat v1.n.toNat else cmpM 6 v0.n.toNat v1.n.toNat)]) (pc + 1))) := by
  obtain ⟨hp, _, _⟩ := N.for3 hi (.inr (.inl rfl))
  unfold forV at hp
  rw [if_neg (by decide), if_pos rfl] at hp
  unfold fTest at hp
  have e : cmpM (bif cmpM 5 v2.n.toNat 0 then 4 else 6) v0.n.toNat v1.n.toNat = (if cmpM 5 v2.n.toNat 0 = true then cmpM 4 v0.n.toNat v1.n.toNat else cmpM 6 v0.n.toNat v1.n.toNat) := by
    cases cmpM 5 v2.n.toNat 0 <;> rfl
  rw [N.gets h0, bind1_some, N.gets h1, bind1_some, N.gets h2, bind1_some, if_pos hn, N.pushP, e] at hp
  exact N.plainS hi (by decide) hp
end
end Go.Wl
namespace Go.Sm
open Go Go.Sl Go.Wl Go.Nm Go.Proofs
set_option linter.unusedVariables false
section
variable {K : Cn} {s : RnM} {m : VM} {S : List Nat} {cn : Int} {ρ : Nat → Option Plc} {fi : Nat → List FI} {c : Cx} {t : Th} {l : List FI} {F : FI} {Tk : List TkM} {W low ops : List V}
theorem getD_some {X : List V} {a : Nat} (h : a < X.length) : X[a]? = some (X.getD a V.nil) := by
  rw [List.getD_eq_getElem?_getD, List.getElem?_eq_getElem h]
  rfl
/-- Three hidden locals on top. -/
theorem Vw.hid3 (Y : Vw K s m S cn ρ fi c t l F Tk W low ops) {L : List Nm8} (hL : F.L = L ++ [[], [], []]) (hops : ops = []) : ∃ a b d, low[F.B + L.length]? = some a ∧ low[F.B + L.length + 1]? = some b ∧ low[F.B + L.length + 2]? = some d ∧ hidV low F.B F.L = hidV low F.B L ++ [a, b, d] ∧ VVm m a ∧ VVm m b ∧ VVm m d ∧ (∀ T, vTop 3 (Go.Sm.ms s T (W ++ (hidV low F.B F.L ++ ops))) = some a) ∧ (∀ T, vTop 2 (Go.Sm.ms s T (W ++ (hidV low F.B F.L ++ ops))) = some b) ∧ (∀ T, vTop 1 (Go.Sm.ms s T (W ++ (hidV low F.B F.L ++ ops))) = some d) := by
  have hll := Y.fr.ll
  have hlo := Y.lo
  have hb := Y.base
  rw [hL] at hll
  simp only [List.length_append, List.length_cons, List.length_nil] at hll
  have hsk : t.stack = low := by rw [Y.sk, hops, List.append_nil]
  have e : hidV low F.B F.L = hidV low F.B L ++ [low.getD (F.B + L.length) V.nil, low.getD (F.B + L.length + 1) V.nil, low.getD (F.B + L.length + 2) V.nil] := by
    rw [hL, hidV_app]
    rfl
  have hvv : ∀ a, a < low.length → VVm m (low.getD a V.nil) := fun a ha => Y.N.thr.vv _ (by rw [hsk]; exact List.mem_of_getElem? (getD_some ha))
  have hlen : (W ++ (hidV low F.B F.L ++ ops)).length ≤ 1000000 := by simp only [List.length_append]; omega
  have e2 : W ++ (hidV low F.B F.L ++ ops) = (W ++ hidV low F.B L) ++ [low.getD (F.B + L.length) V.nil, low.getD (F.B + L.length + 1) V.nil, low.getD (F.B + L.length + 2) V.nil] := by rw [hops, List.append_nil, e, List.append_assoc]
  refine ⟨_, _, _, getD_some (by omega), getD_some (by omega), getD_some (by omega), e, hvv _ (by omega), hvv _ (by omega), hvv _ (by omega), fun T => ?_, fun T => ?_, fun T => ?_⟩
  · refine ms_top Y.cur hlen (by rw [e2]; simp; omega) ?_
    rw [e2]
    simp only [List.length_append, List.length_cons, List.length_nil]
    rw [List.getElem?_append_right (by simp only [List.length_append]; omega)]
    simp only [List.length_append]
    rw [show W.length + (hidV low F.B L).length + (0 + 1 + 1 + 1) - 3 - (W.length + (hidV low F.B L).length) = 0 from by omega]
    rfl
  · refine ms_top Y.cur hlen (by rw [e2]; simp; omega) ?_
    rw [e2]
    simp only [List.length_append, List.length_cons, List.length_nil]
    rw [List.getElem?_append_right (by simp only [List.length_append]; omega)]
    simp only [List.length_append]
    rw [show W.length + (hidV low F.B L).length + (0 + 1 + 1 + 1) - 2 - (W.length + (hidV low F.B L).length) = 1 from by omega]
    rfl
  · refine ms_top Y.cur hlen (by rw [e2]; simp; omega) ?_
    rw [e2]
    simp only [List.length_append, List.length_cons, List.length_nil]
    rw [List.getElem?_append_right (by simp only [List.length_append]; omega)]
    simp only [List.length_append]
    rw [show W.length + (hidV low F.B L).length + (0 + 1 + 1 + 1) - 1 - (W.length + (hidV low F.B L).length) = 2 from by omega]
    rfl
theorem sim_forI (Y : Vw K s m S cn ρ fi c t l F Tk W low ops) {p3 p4 p5 m3 m4 w : Nat} {n : Int} {d : Nd} {e : Option Nat} {T : List TkM} {L L1 : List Nm8} (hT : F.T = ⟨15, n, 0, e⟩ :: T) (hL : F.L = L ++ [[], [], []]) (hpc : F.pc = p3 + 1) (hn0 : F.no = 0) (ht0 : F.tb = []) (hd : nd K.ns n = some d) (D : FoD K.ns K.P F.x F.E L d p3 p4 p5 m3 m4 L1) (ve : VOf K s m ρ c F L e) (hb : T.length + 7 * (m4 - m3) + 1 ≤ K.HB) (hiv : ∀ q, q ∈ F.iv → q + 2 ≤ hidN L) (k : KtV K s m ρ c F (some (L.length, p4 + 6)) L (p4 + 6) 0 [] T w) : Prog K F.w s (.run S c.th cn m) := by
  have hops := ops0 Y.toVs hn0
  have htl := Y.tlen hT
  have hsk : t.stack = low := by rw [Y.sk, hops, List.append_nil]
  obtain ⟨a, b, v, h0, h1, h2, e1, va, vb, vv, t3, t2, t1⟩ := Y.hid3 hL hops
  have hj := D.hr.j1
  rw [← hpc] at hj
  have g := Y.N.xchk (Y.ins hj) (v0 := a) (v1 := b) (v2 := v) (by rw [hsk, Y.hB, Int.toNat_natCast]; exact h0) (by rw [hsk, Y.hB, Int.toNat_natCast]; exact h1) (by rw [hsk, Y.hB, Int.toNat_natCast]; exact h2) (Y.numr vv)
  by_cases cc : (a.t ≠ 2 ∨ b.t ≠ 2 ∨ v.t ≠ 2) ∨ (cmpM 5 v.n.toNat 0 = false ∧ cmpM 3 v.n.toNat 0 = false)
  · rw [if_pos cc] at g
    refine Y.throw (S1 := t.stack) (ops' := ops) hT (by intro q; cases q) (Y.nd hd) ?_ (Nat.le_refl _) (v := strV s_for) ?_ (fun _ _ => rfl) k
    · rw [rt15]
      unfold k15
      rw [t3, b1, t2, b1, t1, b1]
      by_cases c1 : a.t ≠ 2 ∨ b.t ≠ 2 ∨ v.t ≠ 2
      · rw [if_pos c1]; rfl
      · rw [if_neg c1, if_pos (Y.numr vv), if_pos (cc.resolve_left c1)]; rfl
    · rw [g, show ({ t with stack := t.stack } : Th) = t from rfl, setTh_same Y.ht]
  · rw [if_neg cc] at g
    refine Y.step (br' := some (L.length, p4 + 6)) (T' := ⟨16, n, 0, e⟩ :: T) (ops' := ops) (pc' := F.pc + 1) (no' := 0) (tb' := []) (w' := w + 1) (Y.task hT (by intro q; cases q) (Y.nd hd) ?_) (by rw [g, Y.sk]) ?_ (by rw [hops]; rfl) tb_nil
    · rw [rt15]
      unfold k15
      rw [t3, b1, t2, b1, t1, b1, if_neg (fun q => cc (.inl q)), if_pos (Y.numr vv), if_neg (fun q => cc (.inr q)), ms_do Y.cur _ _ _ (by omega) ve.rg]
      rfl
    · rw [hL, hpc]
      exact .forT hd D ve hb hiv k
end
end Go.Sm
