/- Plain: the interpreter and the machine go on together: calls that answer at once. -/
import Derived.Test.Qxb6500573aGreatDoorSim22
namespace Go.Wl
open Go Go.Sl Go.Proofs
set_option linter.unusedVariables false
theorem fin_x {m : VM} {th : Nat} {t : Th} (ht : m.vs.threads[th]? = some t) {Z R : List V} (hs : t.stack = Z ++ R) (hl : t.stack.length ≤ 900000) (p q : V) : finM th Z.length (p, q) m = some (.ok ev0 (setTh m th { t with stack := Z ++ [p, q] })) := by
  have hz : Z.length ≤ t.stack.length := by rw [hs, List.length_append]; omega
  unfold finM getT
  rw [ht, bind1_some, if_pos hz]
  rw [push_x (setTh_at ht) (by dsimp only; rw [List.length_take]; simp; omega), bind1_some, setTh_2]
  dsimp only
  rw [hs, List.take_left]
end Go.Wl
namespace Go.Sm
open Go Go.Sl Go.Wl Go.Nm Go.Proofs
set_option linter.unusedVariables false
section
variable {K : Cn} {s : RnM} {m : VM} {S : List Nat} {cn : Int} {ρ : Nat → Option Plc} {fi : Nat → List FI} {c : Cx} {t : Th} {l : List FI} {F : FI} {Tk : List TkM} {W low ops : List V}
/-- The interpreter at a call with fuel left. -/
theorem Vw.apply (Y : Vw K s m S cn ρ fi c t l F Tk W low ops) {j : Nat} {n : Int} {e : Option Nat} {d : Nd} {T : List TkM} {ops' args : List V} {f : V} (hT : F.T = ⟨22, n, (j : Int), e⟩ :: T) (hd : Go.Wl.nd K.ns n = some d) (hj : j ≤ 3) (ho : ops = ops' ++ [f] ++ args) (hl : args.length = j) (hf : 0 < s.fuel ∧ s.fuel ≤ 9223372036854775807) {s' : RnM}
    (h : (if f.t = 5 then (if 8 ≤ (thG s).depth then rraise [100, 101, 112, 116, 104] (Go.Sm.ms { s with fuel := s.fuel - 1 } (T ++ Tk) (W ++ (hidV low F.B F.L ++ ops'))) else if 0 ≤ f.n ∧ f.n < 1000000 then renter f.n args 0 (Go.Sm.ms { s with fuel := s.fuel - 1 } (T ++ Tk) (W ++ (hidV low F.B F.L ++ ops'))) else none)
      else if f.t ≠ 6 then rraise [99, 97, 108, 108] (Go.Sm.ms { s with fuel := s.fuel - 1 } (T ++ Tk) (W ++ (hidV low F.B F.L ++ ops')))
      else if 0 ≤ f.n ∧ f.n < 1000000 then rbuilt f.n (args.getD 0 V.nil) (args.getD 1 V.nil) (Go.Sm.ms { s with fuel := s.fuel - 1 } (T ++ Tk) (W ++ (hidV low F.B F.L ++ ops'))) else none) = some s') : MS s s' := by
  have hb := Y.base
  have hlen : ops.length = ops'.length + 1 + j := by rw [ho]; simp [hl]; omega
  refine Y.task hT (by intro q; cases q) (Y.nd hd) ?_
  rw [rt22]
  unfold rapply
  have hcur : curOk { s with fuel := s.fuel - 1 } := Y.cur
  rw [burn_ok hf, b2, if_neg (by intro q; cases q), if_neg (fun q => q ⟨ms_cur hcur _ _, by omega⟩), Int.toNat_natCast, ho]
  have e1 : W ++ (hidV low F.B F.L ++ (ops' ++ [f] ++ args)) = (W ++ (hidV low F.B F.L ++ ops') ++ [f]) ++ args := by simp only [List.append_assoc]
  rw [e1, ← hl, pops hcur _ args _ (by simp only [List.length_append, List.length_singleton]; omega), b2, ms_pop hcur f (by simp only [List.length_append]; omega), b2, if_neg (fun q => q ⟨ms_cur hcur _ _, rfl⟩), ms_th hcur]
  exact h
/-- A call without fuel. -/
theorem Vw.dry (Y : Vw K s m S cn ρ fi c t l F Tk W low ops) {j : Nat} {n : Int} {e : Option Nat} {d : Nd} {T : List TkM} (hT : F.T = ⟨22, n, (j : Int), e⟩ :: T) (hd : Go.Wl.nd K.ns n = some d) (hf : s.fuel = 0) (hv : vstepL c.th m = some (.trp 9 m)) : Prog K F.w s (.run S c.th cn m) := by
  refine Y.trap (e := 9) (s1 := Go.Sm.ms s (T ++ Tk) (W ++ (hidV low F.B F.L ++ ops))) (m1 := m) (Y.task hT (by intro q; cases q) (Y.nd hd) ?_) Y.R.fu Y.R.ou rfl hv ⟨_, Y.R.ts⟩
  rw [rt22]
  unfold rapply
  rw [burn_no hf, b2, if_pos rfl]
/-- Both answer two values at once. -/
theorem Vw.res (Y : Vw K s m S cn ρ fi c t l F Tk W low ops) {T : List TkM} {ops' : List V} {r1 r2 : V} {no w : Nat} {ou : List UInt8} {tb : List Tb} {ts : List Row} (hTs : TsX tb ts) (hx : ∀ t k, NxOk m.vs.tabs t k → NxOk tb t k) (hno : no = ops'.length) (hl : ops'.length ≤ ops.length) (htb : ∀ p, p ∈ F.tb → p < no) (hpre : ∃ B, ops = ops' ++ B)
    (hm : ∀ s', rfin2 r1 r2 (Go.Sm.ms { s with fuel := m.vs.fuel - 1, out := ou, ts := ts } (T ++ Tk) (W ++ (hidV low F.B F.L ++ ops'))) = some s' → MS s s') (hv : vstepL c.th m = some (.ok ev0 (upd c { m with vs := { m.vs with fuel := m.vs.fuel - 1, out := ou, tabs := tb } } t (low ++ (ops' ++ [r1, r2])) (F.pc + 1)))) (k : KtV K s m ρ c F F.br F.L (F.pc + 1) (no + 2) F.tb T w) : Prog K F.w s (.run S c.th cn m) := by
  have hb := Y.base
  obtain ⟨B, hB⟩ := hpre
  have hcur : curOk { s with fuel := m.vs.fuel - 1, out := ou, ts := ts } := Y.cur
  refine Y.stepG (fu := m.vs.fuel - 1) (ou := ou) hTs hx (ops' := ops' ++ [r1, r2]) (hm _ ?_) hv k (by rw [List.length_append, hno]; rfl) (tb_app (B := B) (by rw [← hB]; exact Y.tbs) (by rw [← hno]; exact htb))
  unfold rfin2
  rw [ms_push hcur _ (by simp only [List.length_append]; omega), b1, ms_push hcur _ (by simp only [List.length_append, List.length_singleton]; omega)]
  simp only [List.append_assoc, List.cons_append, List.nil_append]
end
end Go.Sm
