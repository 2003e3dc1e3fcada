/- Plain: the interpreter and the machine go on together: operators that may throw. -/
import Derived.Test.Qxb6500573aGreatDoorSim2
namespace Go.Wl
open Go Go.Sl Go.Proofs
set_option linter.unusedVariables false
section
variable {c : Cx} {m : VM} {t : Th} {pc : Nat} {x : Int} {Z : List V} {a b : V}
theorem Now.pop1 (N : Now c m t pc) (hs : t.stack = Z ++ [b]) : popM c.th m = some (b, setTh m c.th { t with stack := Z }) := by
  have := N.small
  exact pop_x N.ht hs (by omega)
theorem Now.pop2 (N : Now c m t pc) (hs : t.stack = Z ++ [a] ++ [b]) : popM c.th m = some (b, setTh m c.th { t with stack := Z ++ [a] }) ∧ popM c.th (setTh m c.th { t with stack := Z ++ [a] }) = some (a, setTh m c.th { t with stack := Z }) := by
  have h1 := N.small
  refine ⟨N.pop1 hs, ?_⟩
  rw [hs] at h1
  simp only [List.length_append, List.length_singleton] at h1
  have := pop_x (m := setTh m c.th { t with stack := Z ++ [a] }) (t := { t with stack := Z ++ [a] }) (th := c.th) (S := Z) (v := a) (setTh_at N.ht) rfl (by dsimp only; rw [List.length_append, List.length_singleton]; omega)
  rw [setTh_2] at this
  exact this
/-- A push upon what is left. -/
theorem Now.pushZ (N : Now c m t pc) (hz : Z.length ≤ 900000) (v : V) : okU () (pushM c.th [v] (setTh m c.th { t with stack := Z })) = some (.ok () (setTh m c.th { t with stack := Z ++ [v] })) := by
  rw [push_x (t := { t with stack := Z }) (setTh_at N.ht) (by simp; omega), setTh_2]
  rfl
theorem Now.zl (N : Now c m t pc) {X : List V} (hs : t.stack = Z ++ X) : Z.length ≤ 900000 := by
  have h1 := N.small
  rw [hs, List.length_append] at h1
  omega
theorem Now.in11 (N : Now c m t pc) (hi : InsAt c pc 11 x) : plainM c.th c.fs.length c.p 11 x m = pGetT c.th m := by
  obtain ⟨_, hx, _⟩ := N.step hi
  rw [plain_in N.run hx, if_neg (by decide), if_neg (by decide), if_neg (by decide), if_neg (by decide), if_neg (by decide), if_neg (by decide), if_neg (by decide), if_neg (by decide), if_neg (by decide), if_neg (by decide), if_pos rfl]
theorem Now.oper (N : Now c m t pc) {op : Int} (ho : 15 ≤ op ∧ op ≤ 20) (hi : InsAt c pc op x) : plainM c.th c.fs.length c.p op x m = operM c.th op x m := by
  obtain ⟨_, hx, _⟩ := N.step hi
  rw [plain_in N.run hx, if_neg (by omega), if_neg (by omega), if_neg (by omega), if_neg (by omega), if_neg (by omega), if_neg (by omega), if_neg (by omega), if_neg (by omega), if_neg (by omega), if_neg (by omega), if_neg (by omega), if_neg (by omega), if_neg (by omega), if_neg (by omega), if_neg (by omega), if_neg (by omega), if_neg (by omega), if_neg (by omega), if_neg (by omega), if_neg (by omega)]
theorem Now.oget (N : Now c m t pc) (hi : InsAt c pc 11 x) (hs : t.stack = Z ++ [a] ++ [b]) : (a.t ≠ 4 → plainM c.th c.fs.length c.p 11 x m = some (.thr (strV s_index) (setTh m c.th { t with stack := Z }))) ∧ (∀ v, a.t = 4 → tget (IntKind.i64.wrap a.n) b m = some v → plainM c.th c.fs.length c.p 11 x m = some (.ok () (setTh m c.th { t with stack := Z ++ [v] }))) := by
  obtain ⟨p1, p2⟩ := N.pop2 hs
  have hz := N.zl (Z := Z) (by rw [hs, List.append_assoc])
  rw [N.in11 hi]
  unfold pGetT
  rw [p1, bind2_some, p2, bind2_some]
  refine ⟨fun h4 => ?_, fun v h4 hv => ?_⟩
  · unfold tabOfM
    rw [if_pos h4]
    rfl
  · unfold tabOfM
    rw [if_neg (fun q => q h4)]
    show bind1 (tget (IntKind.i64.wrap a.n) b (setTh m c.th { t with stack := Z })) _ = _
    have e : tget (IntKind.i64.wrap a.n) b (setTh m c.th { t with stack := Z }) = tget (IntKind.i64.wrap a.n) b m := rfl
    rw [e, hv, bind1_some]
    exact N.pushZ hz v
theorem Now.oarith (N : Now c m t pc) (hi : InsAt c pc 15 x) (hs : t.stack = Z ++ [a] ++ [b]) (ha : numR a = true) (hb : numR b = true) : plainM c.th c.fs.length c.p 15 x m = if a.t ≠ 2 ∨ b.t ≠ 2 then some (.thr (strV s_arith) (setTh m c.th { t with stack := Z })) else some (.ok () (setTh m c.th { t with stack := Z ++ [⟨2, (arithT x a.n.toNat b.n.toNat : Nat), []⟩] })) := by
  obtain ⟨p1, p2⟩ := N.pop2 hs
  have hz := N.zl (Z := Z) (by rw [hs, List.append_assoc])
  rw [N.oper (by decide) hi]
  unfold operM
  rw [p1, bind2_some, if_pos rfl]
  unfold opArith
  rw [p2, bind2_some]
  unfold numOfM
  by_cases h1 : a.t ≠ 2
  · rw [if_pos h1, if_pos (.inl h1)]
    rfl
  · rw [if_neg h1]
    show bindO (some (if b.t ≠ 2 then _ else _)) _ = _
    by_cases h2 : b.t ≠ 2
    · rw [if_pos h2, if_pos (.inr h2)]
      rfl
    · rw [if_neg h2, if_neg (by omega)]
      show (if _ then _ else _) = _
      rw [if_pos ⟨of_decide_eq_true ha, of_decide_eq_true hb⟩]
      exact N.pushZ hz _
theorem Now.ocmp (N : Now c m t pc) (hi : InsAt c pc 16 x) (hs : t.stack = Z ++ [a] ++ [b]) : plainM c.th c.fs.length c.p 16 x m = bindO (compareM x a b (setTh m c.th { t with stack := Z })) fun r m => okU () (pushM c.th [boolV r] m) := by
  obtain ⟨p1, p2⟩ := N.pop2 hs
  rw [N.oper (by decide) hi]
  unfold operM
  rw [p1, bind2_some, if_neg (by decide), if_pos rfl]
  unfold opCmp
  rw [p2, bind2_some]
theorem Now.ocat (N : Now c m t pc) (hi : InsAt c pc 17 x) (hs : t.stack = Z ++ [a] ++ [b]) {la lb : List UInt8} (ha : textM a = some la) (hb : textM b = some lb) (hl : la.length ≤ 1000 ∧ lb.length ≤ 1000) : plainM c.th c.fs.length c.p 17 x m = if (a.t ≠ 3 ∧ a.t ≠ 2) ∨ (b.t ≠ 3 ∧ b.t ≠ 2) then some (.thr (strV s_concat) (setTh m c.th { t with stack := Z })) else if 40 < la.length + lb.length then some (.thr (strV s_long) (setTh m c.th { t with stack := Z })) else some (.ok () (setTh m c.th { t with stack := Z ++ [strV (la ++ lb)] })) := by
  obtain ⟨p1, p2⟩ := N.pop2 hs
  have hz := N.zl (Z := Z) (by rw [hs, List.append_assoc])
  rw [N.oper (by decide) hi]
  unfold operM
  rw [p1, bind2_some, if_neg (by decide), if_neg (by decide), if_pos rfl]
  unfold opCat
  rw [p2, bind2_some]
  by_cases h1 : a.t ≠ 3 ∧ a.t ≠ 2
  · rw [if_pos h1, if_pos (.inl h1)]
  · rw [if_neg h1]
    by_cases h2 : b.t ≠ 3 ∧ b.t ≠ 2
    · rw [if_pos h2, if_pos (.inr h2)]
    · rw [if_neg h2, if_neg (by omega), ha, bind1_some, hb, bind1_some, if_pos ⟨by omega, by omega⟩]
      by_cases h3 : 40 < la.length + lb.length
      · rw [if_pos (by omega), if_pos h3]
      · rw [if_neg (by omega), if_neg h3]
        exact N.pushZ hz _
theorem Now.onot (N : Now c m t pc) (hi : InsAt c pc 18 x) (hs : t.stack = Z ++ [a]) : plainM c.th c.fs.length c.p 18 x m = some (.ok () (setTh m c.th { t with stack := Z ++ [boolV (!truthy a)] })) := by
  have hz := N.zl hs
  rw [N.oper (by decide) hi]
  unfold operM
  rw [N.pop1 hs, bind2_some, if_neg (by decide), if_neg (by decide), if_neg (by decide), if_pos rfl]
  exact N.pushZ hz _
theorem Now.oneg (N : Now c m t pc) (hi : InsAt c pc 19 x) (hs : t.stack = Z ++ [a]) (ha : numR a = true) : plainM c.th c.fs.length c.p 19 x m = if a.t ≠ 2 then some (.thr (strV s_arith) (setTh m c.th { t with stack := Z })) else some (.ok () (setTh m c.th { t with stack := Z ++ [⟨2, (negM a.n.toNat : Nat), []⟩] })) := by
  have hz := N.zl hs
  rw [N.oper (by decide) hi]
  unfold operM
  rw [N.pop1 hs, bind2_some, if_neg (by decide), if_neg (by decide), if_neg (by decide), if_neg (by decide), if_pos rfl]
  unfold opNeg numOfM
  by_cases h1 : a.t ≠ 2
  · rw [if_pos h1, if_pos h1]
    rfl
  · rw [if_neg h1, if_neg h1]
    show (if _ then _ else _) = _
    rw [if_pos (of_decide_eq_true ha)]
    exact N.pushZ hz _
theorem Now.olen (N : Now c m t pc) (hi : InsAt c pc 20 x) (hs : t.stack = Z ++ [a]) {n e : Int} (hl : a.t = 4 → IntKind.i64.wrap a.n = a.n ∧ (0 ≤ a.n ∧ a.n < m.vs.tabs.length ∧ m.vs.tabs.length ≤ 1000) ∧ lenM m.vs.tabs a.n = some (n, e)) : plainM c.th c.fs.length c.p 20 x m = if a.t = 4 then some (.ok () (setTh m c.th { t with stack := Z ++ [numI n] })) else if a.t ≠ 3 then some (.thr (strV s_len) (setTh m c.th { t with stack := Z })) else some (.ok () (setTh m c.th { t with stack := Z ++ [numI a.s.length] })) := by
  have hz := N.zl hs
  rw [N.oper (by decide) hi]
  unfold operM
  rw [N.pop1 hs, bind2_some, if_neg (by decide), if_neg (by decide), if_neg (by decide), if_neg (by decide), if_neg (by decide), if_pos rfl]
  unfold opLen
  by_cases h3 : a.t ≠ 3
  · rw [if_pos h3]
    unfold tabOfM
    by_cases h4 : a.t ≠ 4
    · rw [if_pos h4, if_neg (by omega), if_pos h3]
      rfl
    · obtain ⟨q1, q2, q3⟩ := hl (by omega)
      rw [if_neg h4, if_pos (by omega), q1]
      show (if 0 ≤ a.n ∧ a.n < m.vs.tabs.length ∧ m.vs.tabs.length ≤ 1000 then bind2 (lenM m.vs.tabs a.n) fun l e => okU () (pushM c.th [numI l] (setTh m c.th { t with stack := Z })) else none) = _
      rw [if_pos q2, q3, bind2_some]
      exact N.pushZ hz _
  · rw [if_neg h3, if_neg (by omega), if_neg h3]
    exact N.pushZ hz _
end
end Go.Wl
namespace Go.Sm
open Go Go.Sl Go.Wl Go.Nm Go.Proofs
set_option linter.unusedVariables false
section
variable {K : Cn} {s : RnM} {m : VM} {S : List Nat} {cn : Int} {ρ : Nat → Option Plc} {fi : Nat → List FI} {c : Cx} {t : Th} {l : List FI} {F : FI} {Tk : List TkM} {W low ops : List V}
/-- Where both compute a value out of the top two. -/
theorem Vw.two (Y : Vw K s m S cn ρ fi c t l F Tk W low ops) {q : TkM} {T : List TkM} {d : Nd} {no w : Nat} {op x : Int} (hT : F.T = q :: T) (hq : q.k ≠ 3) (hn : F.no = no + 2) (hd : ndG s q.n = some d) (hi : InsAt c F.pc op x) (hne : (effX op x).1 = 2) (hc : ¬ (21 ≤ op ∧ op ≤ 24) ∧ op ≠ 26 ∧ op ≠ 27) (ht : ∀ p, p ∈ F.tb → p < no) (k : KtV K s m ρ c F F.br F.L (F.pc + 1) (no + 1) F.tb T w)
    (h : ∀ ops' a b, ops = ops' ++ [a] ++ [b] → t.stack = (low ++ ops') ++ [a] ++ [b] → VVm m a → VVm m b →
      (∃ v, rtask q d (Go.Sm.ms s (T ++ Tk) (W ++ (hidV low F.B F.L ++ ops))) = rpush v (Go.Sm.ms s (T ++ Tk) (W ++ (hidV low F.B F.L ++ ops'))) ∧ plainM c.th c.fs.length c.p op x m = some (.ok () (setTh m c.th { t with stack := (low ++ ops') ++ [v] }))) ∨
      (∃ v, rtask q d (Go.Sm.ms s (T ++ Tk) (W ++ (hidV low F.B F.L ++ ops))) = rthrow v (Go.Sm.ms s (T ++ Tk) (W ++ (hidV low F.B F.L ++ ops'))) ∧ plainM c.th c.fs.length c.p op x m = some (.thr v (setTh m c.th { t with stack := low ++ ops' })))) : Prog K F.w s (.run S c.th cn m) := by
  obtain ⟨ops', a, b, ho⟩ := Y.top2 (Y.need hi (n := 2) hne)
  have hno := Y.nops
  have hsk : t.stack = (low ++ ops') ++ [a] ++ [b] := by rw [Y.sk, ho]; simp only [List.append_assoc]
  have hlen : ops.length = ops'.length + 2 := by rw [ho]; simp
  have htbs : ∀ v : V, ∀ p, p ∈ F.tb → ∃ v', (ops' ++ [v])[p]? = some v' ∧ v'.t = 4 := fun v => tb_app (B := [a] ++ [b]) (by rw [← List.append_assoc, ← ho]; exact Y.tbs) fun p hp => by have := ht p hp; omega
  rcases h ops' a b ho hsk (Y.vv (by rw [ho]; simp)) (Y.vv (by rw [ho]; simp)) with ⟨v, h1, h2⟩ | ⟨v, h1, h2⟩
  · refine Y.step (ops' := ops' ++ [v]) (Y.task hT hq hd ?_) ?_ k (by rw [List.length_append, List.length_singleton]; omega) (htbs v)
    · rw [h1, Y.push v (by omega)]
    · rw [Y.N.plainS hi hc h2, List.append_assoc]
  · refine Y.throw hT hq hd h1 (by omega) (Y.plainT (o := .ok () m) hi hc h2) (fun a ha => ?_) k
    rw [Y.sk]; exact low_at ha _
theorem Vw.pop2 (Y : Vw K s m S cn ρ fi c t l F Tk W low ops) {T : List TkM} {ops' : List V} {a b : V} (ho : ops = ops' ++ [a] ++ [b]) : rpop (Go.Sm.ms s T (W ++ (hidV low F.B F.L ++ ops))) = some (b, Go.Sm.ms s T (W ++ (hidV low F.B F.L ++ (ops' ++ [a])))) ∧ rpop (Go.Sm.ms s T (W ++ (hidV low F.B F.L ++ (ops' ++ [a])))) = some (a, Go.Sm.ms s T (W ++ (hidV low F.B F.L ++ ops'))) := by
  have hl : ops.length = ops'.length + 2 := by rw [ho]; simp
  refine ⟨?_, Y.pop a (by omega)⟩
  rw [ho]
  exact Y.pop b (by rw [List.length_append, List.length_singleton]; omega)
theorem sim_idx (Y : Vw K s m S cn ρ fi c t l F Tk W low ops) {T : List TkM} {no w : Nat} (hT : F.T = ⟨28, 0, 0, none⟩ :: T) (hn : F.no = no + 2) (i : insP K.P F.x F.pc = some (11, 0)) (ht : ∀ p, p ∈ F.tb → p < no) (k : KtV K s m ρ c F F.br F.L (F.pc + 1) (no + 1) F.tb T w) : Prog K F.w s (.run S c.th cn m) := by
  refine Y.two hT (by intro q; cases q) hn Y.nd0 (Y.ins i) rfl (by decide) ht k fun ops' a b ho hs ha hb => ?_
  obtain ⟨p1, p2⟩ := Y.pop2 (T := T ++ Tk) ho
  obtain ⟨g1, g2⟩ := Y.N.oget (Y.ins i) hs
  rw [rt28]
  unfold k28
  rw [p1, b2, p2, b2]
  by_cases h4 : a.t ≠ 4
  · rw [if_pos h4]
    exact .inr ⟨_, rfl, g1 h4⟩
  · have h4' : a.t = 4 := by omega
    obtain ⟨t1, t2, t3⟩ := Y.tab ha h4' (T ++ Tk) (W ++ (hidV low F.B F.L ++ ops'))
    obtain ⟨v, v1, v2⟩ := Y.get t2 hb
    rw [if_neg h4, if_pos ⟨t3, Y.numr hb⟩]
    refine .inl ⟨v, ?_, g2 v h4' (by rw [t1]; exact v1)⟩
    show rpush (getW s.ts a.n.toNat b).1 _ = _
    rw [v2]
theorem cmp_eq (op : Int) (a b : V) (m : VM) (ha : a.t = 2 → numR a = true) (hb : b.t = 2 → numR b = true) : ∃ q g, cmpR op a b = some (q, g) ∧ compareM op a b m = some (if g = true then .ok q m else .thr (strV [99, 111, 109, 112, 97, 114, 101]) m) := by
  unfold cmpR compareM
  by_cases h1 : a.t = 2 ∧ b.t = 2
  · rw [if_pos h1, if_pos h1, if_pos ⟨ha h1.1, hb h1.2⟩, if_pos ⟨ha h1.1, hb h1.2⟩]
    exact ⟨_, true, rfl, rfl⟩
  rw [if_neg h1, if_neg h1]
  by_cases h2 : op = 1
  · rw [if_pos h2, if_pos h2]; exact ⟨_, true, rfl, rfl⟩
  rw [if_neg h2, if_neg h2]
  by_cases h3 : op = 2
  · rw [if_pos h3, if_pos h3]; exact ⟨_, true, rfl, rfl⟩
  rw [if_neg h3, if_neg h3]
  by_cases h4 : a.t ≠ 3 ∨ b.t ≠ 3
  · rw [if_pos h4, if_pos h4]; exact ⟨_, false, rfl, rfl⟩
  rw [if_neg h4, if_neg h4]
  by_cases h5 : op = 3
  · rw [if_pos h5, if_pos h5]; exact ⟨_, true, rfl, rfl⟩
  rw [if_neg h5, if_neg h5]
  by_cases h6 : op = 4
  · rw [if_pos h6, if_pos h6]; exact ⟨_, true, rfl, rfl⟩
  rw [if_neg h6, if_neg h6]
  by_cases h7 : op = 5
  · rw [if_pos h7, if_pos h7]; exact ⟨_, true, rfl, rfl⟩
  rw [if_neg h7, if_neg h7]
  exact ⟨_, true, rfl, rfl⟩
theorem sim_bin (Y : Vw K s m S cn ρ fi c t l F Tk W low ops) {n : Int} {d : Nd} {T : List TkM} {no w : Nat} (hT : F.T = ⟨24, n, 0, none⟩ :: T) (hn : F.no = no + 2) (hd : nd K.ns n = some d) (ho : (1 ≤ d.n ∧ d.n ≤ 6) ∨ (11 ≤ d.n ∧ d.n ≤ 16) ∨ d.n = 20) (i : insP K.P F.x F.pc = some (binaryM d.n)) (ht : ∀ p, p ∈ F.tb → p < no) (k : KtV K s m ρ c F F.br F.L (F.pc + 1) (no + 1) F.tb T w) : Prog K F.w s (.run S c.th cn m) := by
  have hdd := Y.nd hd
  rcases ho with ho | ho | ho
  · -- numbers
    have e : binaryM d.n = (15, d.n) := by
      unfold binaryM
      rw [if_neg (by omega), if_neg (by omega), u16_id (by omega)]
    rw [e] at i
    refine Y.two hT (by intro q; cases q) hn hdd (Y.ins i) rfl (by decide) ht k fun ops' a b hop hs ha hb => ?_
    obtain ⟨p1, p2⟩ := Y.pop2 (T := T ++ Tk) hop
    have g1 := Y.N.oarith (Y.ins i) hs (Y.numr ha) (Y.numr hb)
    rw [rt24, p1, b2, p2, b2, if_pos (by omega)]
    unfold rbin
    rw [if_neg (by omega), if_neg (by omega), if_neg (by omega)]
    by_cases h2 : a.t ≠ 2 ∨ b.t ≠ 2
    · rw [if_pos h2] at g1 ⊢
      exact .inr ⟨_, rfl, g1⟩
    · rw [if_neg h2] at g1 ⊢
      rw [if_pos ⟨Y.numr ha, Y.numr hb⟩]
      exact .inl ⟨_, rfl, g1⟩
  · -- comparisons
    have e : binaryM d.n = (16, d.n - 10) := by
      unfold binaryM
      have : d.n = 11 ∨ d.n = 12 ∨ d.n = 13 ∨ d.n = 14 ∨ d.n = 15 ∨ d.n = 16 := by omega
      rcases this with q | q | q | q | q | q <;> rw [q] <;> decide
    rw [e] at i
    refine Y.two hT (by intro q; cases q) hn hdd (Y.ins i) rfl (by decide) ht k fun ops' a b hop hs ha hb => ?_
    obtain ⟨p1, p2⟩ := Y.pop2 (T := T ++ Tk) hop
    have g1 := Y.N.ocmp (Y.ins i) hs
    obtain ⟨q, g, c1, c2⟩ := cmp_eq (d.n - 10) a b (setTh m c.th { t with stack := low ++ ops' }) (fun _ => Y.numr ha) (fun _ => Y.numr hb)
    rw [c2] at g1
    rw [rt24, p1, b2, p2, b2, if_pos (by omega)]
    unfold rbin
    rw [if_neg (by omega), if_neg (by omega), if_pos (by omega), c1, b2]
    cases g with
    | false =>
      rw [if_pos rfl]
      exact .inr ⟨_, rfl, g1⟩
    | true =>
      rw [if_neg (by decide)]
      refine .inl ⟨_, rfl, g1.trans ?_⟩
      exact Y.N.pushZ (Y.N.zl (by rw [hs, List.append_assoc])) _
  · have e : binaryM d.n = (17, 0) := by unfold binaryM; rw [if_pos ho]
    rw [e] at i
    refine Y.two hT (by intro q; cases q) hn hdd (Y.ins i) rfl (by decide) ht k fun ops' a b hop hs ha hb => ?_
    obtain ⟨p1, p2⟩ := Y.pop2 (T := T ++ Tk) hop
    obtain ⟨la, l1, l2⟩ := text_ok ha
    obtain ⟨lb, l3, l4⟩ := text_ok hb
    have g1 := Y.N.ocat (Y.ins i) hs l1 l3 (by omega)
    rw [rt24, p1, b2, p2, b2, if_pos (by omega)]
    unfold rbin
    rw [if_neg (by omega), if_pos ho]
    by_cases h2 : (a.t ≠ 3 ∧ a.t ≠ 2) ∨ (b.t ≠ 3 ∧ b.t ≠ 2)
    · rw [if_pos h2] at g1 ⊢
      exact .inr ⟨_, rfl, g1⟩
    · rw [if_neg h2] at g1 ⊢
      rw [l1, b1, l3, b1, if_neg (fun q => q ⟨by omega, by omega⟩)]
      by_cases h3 : 40 < la.length + lb.length
      · rw [if_pos h3] at g1 ⊢
        exact .inr ⟨_, rfl, g1⟩
      · rw [if_neg h3] at g1 ⊢
        exact .inl ⟨_, rfl, g1⟩
/-- Where both compute a value out of the top. -/
theorem Vw.one (Y : Vw K s m S cn ρ fi c t l F Tk W low ops) {q : TkM} {T : List TkM} {d : Nd} {no w : Nat} {op x : Int} (hT : F.T = q :: T) (hq : q.k ≠ 3) (hn : F.no = no + 1) (hd : ndG s q.n = some d) (hi : InsAt c F.pc op x) (hne : (effX op x).1 = 1) (hc : ¬ (21 ≤ op ∧ op ≤ 24) ∧ op ≠ 26 ∧ op ≠ 27) (ht : ∀ p, p ∈ F.tb → p < no) (k : KtV K s m ρ c F F.br F.L (F.pc + 1) (no + 1) F.tb T w)
    (h : ∀ ops' a, ops = ops' ++ [a] → t.stack = (low ++ ops') ++ [a] → VVm m a →
      (∃ v, rtask q d (Go.Sm.ms s (T ++ Tk) (W ++ (hidV low F.B F.L ++ ops))) = rpush v (Go.Sm.ms s (T ++ Tk) (W ++ (hidV low F.B F.L ++ ops'))) ∧ plainM c.th c.fs.length c.p op x m = some (.ok () (setTh m c.th { t with stack := (low ++ ops') ++ [v] }))) ∨
      (∃ v, rtask q d (Go.Sm.ms s (T ++ Tk) (W ++ (hidV low F.B F.L ++ ops))) = rthrow v (Go.Sm.ms s (T ++ Tk) (W ++ (hidV low F.B F.L ++ ops'))) ∧ plainM c.th c.fs.length c.p op x m = some (.thr v (setTh m c.th { t with stack := low ++ ops' })))) : Prog K F.w s (.run S c.th cn m) := by
  obtain ⟨ops', a, ho⟩ := Y.top1 (Y.need hi (n := 1) hne)
  have hno := Y.nops
  have hsk : t.stack = (low ++ ops') ++ [a] := by rw [Y.sk, ho]; simp only [List.append_assoc]
  have hlen : ops.length = ops'.length + 1 := by rw [ho]; simp
  have htbs : ∀ v : V, ∀ p, p ∈ F.tb → ∃ v', (ops' ++ [v])[p]? = some v' ∧ v'.t = 4 := fun v => tb_app (B := [a]) (by rw [← ho]; exact Y.tbs) fun p hp => by have := ht p hp; omega
  rcases h ops' a ho hsk (Y.vv (by rw [ho]; simp)) with ⟨v, h1, h2⟩ | ⟨v, h1, h2⟩
  · refine Y.step (ops' := ops' ++ [v]) (Y.task hT hq hd ?_) ?_ k (by rw [List.length_append, List.length_singleton]; omega) (htbs v)
    · rw [h1, Y.push v (by omega)]
    · rw [Y.N.plainS hi hc h2, List.append_assoc]
  · refine Y.throw hT hq hd h1 (by omega) (Y.plainT (o := .ok () m) hi hc h2) (fun a ha => ?_) k
    rw [Y.sk]; exact low_at ha _
theorem sim_una (Y : Vw K s m S cn ρ fi c t l F Tk W low ops) {n : Int} {d : Nd} {T : List TkM} {no w : Nat} (hT : F.T = ⟨25, n, 0, none⟩ :: T) (hn : F.no = no + 1) (hd : nd K.ns n = some d) (ho : d.n = 1 ∨ d.n = 2 ∨ d.n = 3) (i : insP K.P F.x F.pc = some (unaryM d.n)) (ht : ∀ p, p ∈ F.tb → p < no) (k : KtV K s m ρ c F F.br F.L (F.pc + 1) (no + 1) F.tb T w) : Prog K F.w s (.run S c.th cn m) := by
  have hdd := Y.nd hd
  have hpop : ∀ {ops' : List V} {a : V}, ops = ops' ++ [a] → rpop (Go.Sm.ms s (T ++ Tk) (W ++ (hidV low F.B F.L ++ ops))) = some (a, Go.Sm.ms s (T ++ Tk) (W ++ (hidV low F.B F.L ++ ops'))) := fun {ops' a} hop => by
    have := Y.pop (T := T ++ Tk) (ops' := ops') a (by rw [hop]; simp)
    rw [← hop] at this
    exact this
  rcases ho with ho | ho | ho
  · rw [show unaryM d.n = (19, 0) from by unfold unaryM; rw [if_pos ho]] at i
    refine Y.one hT (by intro q; cases q) hn hdd (Y.ins i) rfl (by decide) ht k fun ops' a hop hs ha => ?_
    have g1 := Y.N.oneg (Y.ins i) hs (Y.numr ha)
    rw [rt25, hpop hop, b2, if_pos (by omega)]
    unfold run1
    rw [if_neg (by omega), if_pos ho]
    by_cases h2 : a.t ≠ 2
    · rw [if_pos h2] at g1 ⊢
      exact .inr ⟨_, rfl, g1⟩
    · rw [if_neg h2] at g1 ⊢
      rw [if_pos (Y.numr ha)]
      exact .inl ⟨_, rfl, g1⟩
  · rw [show unaryM d.n = (18, 0) from by unfold unaryM; rw [if_neg (by omega), if_pos ho]] at i
    refine Y.one hT (by intro q; cases q) hn hdd (Y.ins i) rfl (by decide) ht k fun ops' a hop hs ha => ?_
    have g1 := Y.N.onot (Y.ins i) hs
    rw [rt25, hpop hop, b2, if_pos (by omega)]
    unfold run1
    rw [if_pos ho]
    exact .inl ⟨_, rfl, g1⟩
  · rw [show unaryM d.n = (20, 0) from by unfold unaryM; rw [if_neg (by omega), if_neg (by omega)]] at i
    refine Y.one hT (by intro q; cases q) hn hdd (Y.ins i) rfl (by decide) ht k fun ops' a hop hs ha => ?_
    have htn := Y.N.run.mi.tn
    rw [rt25, hpop hop, b2, if_pos (by omega)]
    unfold run1
    rw [if_neg (by omega), if_neg (by omega), if_pos ho]
    by_cases h4 : a.t = 4
    · obtain ⟨t1, t2, t3⟩ := Y.tab ha h4 (T ++ Tk) (W ++ (hidV low F.B F.L ++ ops'))
      obtain ⟨nl, l1, _⟩ := lenM_ok Y.N.run.mi.tb t2
      have hw := len_all Y.R.ts (fun tb htb e he => ((Y.N.run.mi.tb tb htb).ord e he).2) (j := a.n.toNat) (by omega) (by rw [Int.toNat_of_nonneg t2.1]; exact l1)
      have g1 := Y.N.olen (Y.ins i) hs (n := (nl : Int)) (e := 0) (fun _ => ⟨t1, ⟨t2.1, t2.2, by omega⟩, l1⟩)
      rw [if_pos h4] at g1 ⊢
      rw [if_pos t3]
      refine .inl ⟨_, ?_, g1⟩
      show rpush ⟨2, (FloatKind.f64.nearest (lenW s.ts a.n.toNat) : Nat), []⟩ _ = _
      rw [hw]
      rfl
    · have g1 := Y.N.olen (Y.ins i) hs (n := 0) (e := 0) (fun q => absurd q h4)
      rw [if_neg h4] at g1 ⊢
      by_cases h3 : a.t ≠ 3
      · rw [if_pos h3] at g1 ⊢
        exact .inr ⟨_, rfl, g1⟩
      · rw [if_neg h3] at g1 ⊢
        rw [if_pos (Y.okv ha).2.2]
        exact .inl ⟨_, rfl, g1⟩
theorem sim_log (Y : Vw K s m S cn ρ fi c t l F Tk W low ops) {n op kk : Int} {d : Nd} {e : Option Nat} {T : List TkM} {lo hi q no w : Nat} (hT : F.T = ⟨kk, n, 0, e⟩ :: T) (hn : F.no = no + 1) (hd : nd K.ns n = some d) (hk : (kk = 26 ∧ op = 23) ∨ (kk = 27 ∧ op = 24)) (i : insP K.P F.x F.pc = some (op, (q : Int))) (h : Sp K.ns K.P .ex lo hi F.x F.E F.L (F.pc + 1) d.b q) (ve : VOf K s m ρ c F F.L e) (hb : T.length + 7 * (hi - lo) ≤ K.HB) (ht : ∀ p, p ∈ F.tb → p < no) (k : KtV K s m ρ c F F.br F.L q (no + 1) F.tb T w) : Prog K F.w s (.run S c.th cn m) := by
  have hdd := Y.nd hd
  have hr := h.reg.2.2 rfl
  have htl := Y.tlen hT
  have hno := Y.nops
  have hbase := Y.base
  obtain ⟨ops', v, ho⟩ := Y.top1 (Y.need (Y.ins i) (n := 1) (by rcases hk with ⟨_, rfl⟩ | ⟨_, rfl⟩ <;> rfl))
  have hlen : ops.length = ops'.length + 1 := by rw [ho]; simp
  have hsk : t.stack = (low ++ ops') ++ [v] := by rw [Y.sk, ho]; simp only [List.append_assoc]
  have hpop : rpop (Go.Sm.ms s (T ++ Tk) (W ++ (hidV low F.B F.L ++ ops))) = some (v, Go.Sm.ms s (T ++ Tk) (W ++ (hidV low F.B F.L ++ ops'))) := by
    have := Y.pop (T := T ++ Tk) (ops' := ops') v (by omega)
    rw [← ho] at this
    exact this
  have htop : vTop 1 (Go.Sm.ms s (T ++ Tk) (W ++ (hidV low F.B F.L ++ ops))) = some v := ms_top Y.cur (by simp only [List.length_append]; omega) (by simp only [List.length_append]; omega) (by
    rw [ho, ← List.append_assoc, ← List.append_assoc, List.length_append, List.length_singleton, Nat.add_sub_cancel, List.getElem?_append_right (Nat.le_refl _), Nat.sub_self]
    rfl)
  have hgo : ∀ fl : Bool, (op = 23 ∧ fl = false) ∨ (op = 24 ∧ fl = true) → (rtask ⟨kk, n, 0, e⟩ d (Go.Sm.ms s (T ++ Tk) (W ++ (hidV low F.B F.L ++ ops))) = if truthy v = fl then some (Go.Sm.ms s (T ++ Tk) (W ++ (hidV low F.B F.L ++ ops))) else rdo 2 d.b 0 e (Go.Sm.ms s (T ++ Tk) (W ++ (hidV low F.B F.L ++ ops')))) → Prog K F.w s (.run S c.th cn m) := fun fl hf hm => by
    have hq3 : (⟨kk, n, 0, e⟩ : TkM).k ≠ 3 := by dsimp only; omega
    have hx := Y.N.xjk hf (Y.ins i) (by omega) hsk
    by_cases hv : truthy v = fl
    · rw [if_pos hv] at hm hx
      refine Y.step (ops' := ops) (Y.task hT hq3 hdd hm) ?_ k (by omega) Y.tbs
      rw [hx, Y.sk]
    · rw [if_neg hv] at hm hx
      refine Y.step (T' := ⟨2, d.b, 0, e⟩ :: T) (ops' := ops') (Y.task hT hq3 hdd ?_) hx (.eval h ve hb ht k) (by omega) (tb_cut (B := [v]) (by rw [← ho]; exact Y.tbs) fun p hp => by have := ht p hp; omega)
      rw [hm, ms_do Y.cur _ _ _ (by omega) ve.rg]
      rfl
  rcases hk with ⟨rfl, rfl⟩ | ⟨rfl, rfl⟩
  · refine hgo false (.inl ⟨rfl, rfl⟩) ?_
    rw [rt26, htop, b1]
    cases hv : truthy v with
    | false => rw [if_neg (by decide), if_pos rfl]
    | true => rw [if_pos rfl, if_neg (by decide), hpop, b2]
  · refine hgo true (.inr ⟨rfl, rfl⟩) ?_
    rw [rt27, htop, b1]
    cases hv : truthy v with
    | false => rw [if_pos rfl, if_neg (by decide), hpop, b2]
    | true => rw [if_neg (by decide), if_pos rfl]
end
end Go.Sm
