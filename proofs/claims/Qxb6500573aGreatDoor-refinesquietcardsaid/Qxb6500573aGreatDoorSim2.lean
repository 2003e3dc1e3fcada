/- Plain: the interpreter and the machine go on together: operators. -/
import Derived.Test.Qxb6500573aGreatDoorSimR
namespace Go.Sm
open Go Go.Sl Go.Wl Go.Nm Go.Proofs
set_option linter.unusedVariables false
section
variable {K : Cn} {s : RnM} {m : VM} {S : List Nat} {cn : Int} {ρ : Nat → Option Plc} {fi : Nat → List FI} {c : Cx} {t : Th} {l : List FI} {F : FI} {Tk : List TkM} {W low ops : List V}
/-- Both throw. -/
theorem Vw.throw (Y : Vw K s m S cn ρ fi c t l F Tk W low ops) {q : TkM} {T : List TkM} {d : Nd} {v : V} {ops' S1 : List V} {w : Nat} {br' : Brk} {L' : List Nm8} {pc' no' : Nat} {tb' : List Nat} (hT : F.T = q :: T) (hq : q.k ≠ 3) (hd : ndG s q.n = some d) (hm : rtask q d (Go.Sm.ms s (T ++ Tk) (W ++ (hidV low F.B F.L ++ ops))) = rthrow v (Go.Sm.ms s (T ++ Tk) (W ++ (hidV low F.B F.L ++ ops')))) (ho : ops'.length ≤ ops.length) (hv : vstepL c.th m = some (.thr v (setTh m c.th { t with stack := S1 }))) (hS : ∀ a, a < low.length → S1[a]? = t.stack[a]?) (k : KtV K s m ρ c F br' L' pc' no' tb' T w) : Prog K F.w s (.run S c.th cn m) := by
  obtain ⟨o, g1, g2⟩ := step_ok Y.N.go
  rw [hv] at g1
  injection g1 with g1
  subst g1
  obtain ⟨c', ty, q1, q2, q3, q4, q5, q6, q7, q8⟩ := g2
  have htl := Y.tlen hT
  have hb := Y.base
  obtain ⟨cfg, s', w', y1, y2, y3⟩ := thrown Y.kok Y.toVs (t1 := { t with stack := S1 }) (f1 := c.f) Y.hfr ⟨rfl, rfl, rfl⟩ (fun a ha => hS a (by have := Y.lo; omega)) (fun a ha => hS a (Y.liveLow ha)) ⟨rfl, rfl⟩ q4 ⟨q1.trans Y.kg, q2.trans Y.kp, q3⟩ q5 k.len (X := W ++ (hidV low F.B F.L ++ ops')) (List.prefix_append _ _) (by simp only [List.length_append]; omega) (by omega)
  exact ⟨1, s', cfg, w', Y.task hT hq hd (hm.trans y1), .one (by rw [gstep_thr hv]; exact y2), y3, .inl (Nat.le_refl _)⟩
/-- Both end. -/
theorem Vw.trap (Y : Vw K s m S cn ρ fi c t l F Tk W low ops) {s1 : RnM} {m1 : VM} {e : Int} (hm : MS s (rfin e [45] s1)) (h1 : s1.fuel = m1.vs.fuel) (h2 : s1.out = m1.vs.out) (h3 : s1.first = s.first) (hv : vstepL c.th m = some (.trp e m1)) (h4 : ∃ rs, TsX m1.vs.tabs rs) : Prog K F.w s (.run S c.th cn m) := by
  refine ⟨1, _, _, 0, hm, .one (gstep_trp hv), .fin rfl ?_ h4, .inl (Nat.le_refl _)⟩
  unfold rfin ansOf
  dsimp only
  rw [if_pos rfl, h1, h2, h3, Y.R.fr]
  rfl
/-- A plain instruction that throws. -/
theorem Vw.plainT (Y : Vw K s m S cn ρ fi c t l F Tk W low ops) {op x : Int} {o : Out Unit} (hi : InsAt c F.pc op x) (hc : ¬ (21 ≤ op ∧ op ≤ 24) ∧ op ≠ 26 ∧ op ≠ 27) {v : V} {m1 : VM} (hp : plainM c.th c.fs.length c.p op x m = some (.thr v m1)) : vstepL c.th m = some (.thr v m1) := by
  rw [Y.N.plain hi hc, hp]
  rfl
theorem Vw.plainX (Y : Vw K s m S cn ρ fi c t l F Tk W low ops) {op x : Int} (hi : InsAt c F.pc op x) (hc : ¬ (21 ≤ op ∧ op ≤ 24) ∧ op ≠ 26 ∧ op ≠ 27) {e : Int} {m1 : VM} (hp : plainM c.th c.fs.length c.p op x m = some (.trp e m1)) : vstepL c.th m = some (.trp e m1) := by
  rw [Y.N.plain hi hc, hp]
  rfl
theorem Vw.okv (Y : Vw K s m S cn ρ fi c t l F Tk W low ops) {v : V} (h : VVm m v) : okV v := by
  have h1 := Y.N.run.mi.tn
  have h2 := Y.N.run.mi.cn
  have h3 := Y.N.run.mi.hn
  exact okV_of h (by omega) (by omega) (by omega)
theorem Vw.numr (Y : Vw K s m S cn ρ fi c t l F Tk W low ops) {v : V} (h : VVm m v) : numR v = true := decide_eq_true (Y.okv h).2.1
/-- A table. -/
theorem Vw.tab (Y : Vw K s m S cn ρ fi c t l F Tk W low ops) {a : V} (ha : VVm m a) (h4 : a.t = 4) (T : List TkM) (X : List V) : IntKind.i64.wrap a.n = a.n ∧ (0 ≤ a.n ∧ a.n < m.vs.tabs.length) ∧ tbOk (Go.Sm.ms s T X) a := by
  have htn := Y.N.run.mi.tn
  obtain ⟨h1, h2, h3⟩ := tabOf_ok ha h4 htn.2
  have hts := Y.R.ts
  have hln := hts.len
  refine ⟨h1, ⟨h2, h3⟩, ⟨h2, by show a.n < (s.ts.length : Int); omega⟩, by show s.ts.length ≤ 1000; omega, ?_⟩
  show (s.ts.getD a.n.toNat []).length ≤ 1000
  obtain ⟨r1, _, _⟩ := hts.row (j := a.n.toNat) (by omega)
  rw [r1]
  have := (Y.N.run.mi.tb _ (List.getElem_mem (show a.n.toNat < m.vs.tabs.length by omega))).len
  omega
theorem Vw.tab0 (Y : Vw K s m S cn ρ fi c t l F Tk W low ops) (T : List TkM) (X : List V) : (0 < m.vs.tabs.length) ∧ tbOk (Go.Sm.ms s T X) ⟨4, 0, []⟩ := by
  have htn := Y.N.run.mi.tn
  have hts := Y.R.ts
  have hln := hts.len
  refine ⟨by omega, ⟨by decide, by show (0 : Int) < (s.ts.length : Int); omega⟩, by show s.ts.length ≤ 1000; omega, ?_⟩
  show (s.ts.getD 0 []).length ≤ 1000
  obtain ⟨r1, _, _⟩ := hts.row (j := 0) (by omega)
  rw [r1]
  have := (Y.N.run.mi.tb _ (List.getElem_mem (show 0 < m.vs.tabs.length by omega))).len
  omega
theorem Vw.get (Y : Vw K s m S cn ρ fi c t l F Tk W low ops) {j : Int} (hj : 0 ≤ j ∧ j < m.vs.tabs.length) {k : V} (hk : VVm m k) : ∃ v, tget j k m = some v ∧ (getW s.ts j.toNat k).1 = v := by
  have htn := Y.N.run.mi.tn
  obtain ⟨v, h1, h2⟩ := getM_ok Y.N.run.mi.tb hj hk
  refine ⟨v, ?_, ?_⟩
  · unfold tget
    rw [if_pos ⟨hj.1, hj.2, by omega, hk.nn⟩, h1, bind2_some]
  · have := get_all Y.R.ts (j := j.toNat) (by omega) hk (by rw [Int.toNat_of_nonneg hj.1]; exact h1)
    rw [this]
theorem low_at {low ops' : List V} {a : Nat} (h : a < low.length) (ops : List V) : (low ++ ops')[a]? = (low ++ ops)[a]? := by
  rw [List.getElem?_append_left h, List.getElem?_append_left h]
theorem Vw.nilnd (Y : Vw K s m S cn ρ fi c t l F Tk W low ops) : ndG s 0 = some Go.Wl.nd0 := Y.nd0
theorem sim_pop (Y : Vw K s m S cn ρ fi c t l F Tk W low ops) {T : List TkM} {no w : Nat} (hT : F.T = ⟨5, 0, 0, none⟩ :: T) (hn : F.no = no + 1) (i : insP K.P F.x F.pc = some (25, 0)) (ht : ∀ p, p ∈ F.tb → p < no) (k : KtV K s m ρ c F F.br F.L (F.pc + 1) no F.tb T w) : Prog K F.w s (.run S c.th cn m) := by
  obtain ⟨ops', v, rfl⟩ := Y.top1 (Y.need (Y.ins i) (n := 1) rfl)
  have hno := Y.nops
  refine Y.step (ops' := ops') (Y.task hT (by intro q; cases q) Y.nd0 ?_) (Y.N.xpop (Y.ins i) (by rw [Y.sk, List.append_assoc])) k (by simp at hno; omega) (tb_cut Y.tbs fun p hp => by have := ht p hp; simp at hno; omega)
  rw [rt5, Y.pop v (by simp), b2]
theorem sim_jmp (Y : Vw K s m S cn ρ fi c t l F Tk W low ops) {q w : Nat} (i : insP K.P F.x F.pc = some (21, (q : Int))) (hq : F.pc < q) (k : KtV K s m ρ c F F.br F.L q F.no F.tb F.T w) : Prog K F.w s (.run S c.th cn m) := by
  refine Y.step (ops' := ops) ?_ ?_ k Y.nops Y.tbs
  · rw [Y.ms]; exact .refl _
  · rw [Y.N.xjmp (Y.ins i) hq, Y.sk]
theorem sim_hid (Y : Vw K s m S cn ρ fi c t l F Tk W low ops) {w : Nat} (hn1 : F.no = 1) (i : insP K.P F.x F.pc = some (6, (F.L.length : Int))) (k : KtV K s m ρ c F F.br (F.L ++ [[]]) (F.pc + 1) 0 [] F.T w) : Prog K F.w s (.run S c.th cn m) := by
  have hno := Y.nops
  obtain ⟨v, rfl⟩ : ∃ v, ops = [v] := by
    match ops, hno with
    | [v], _ => exact ⟨v, rfl⟩
    | [], h => rw [hn1] at h; cases h
    | _ :: _ :: _, h => rw [hn1] at h; simp at h
  obtain ⟨g1, g2, g3, g4⟩ := Y.N.xsetL (Y.ins i) (S := low) (v := v) Y.sk
  have hlo := Y.lo
  have hn := Y.hn
  have hB := Y.hB
  have hk1 : F.L.length + 1 ≤ F.nsl := by omega
  rw [Int.toNat_natCast, hB] at g1
  have hset : (low.set (F.B + F.L.length) v).take F.B = low.take F.B := by rw [List.take_set_of_le (by omega)]
  have ehid : hidV (low.set (F.B + F.L.length) v) F.B (F.L ++ [[]]) ++ [] = hidV low F.B F.L ++ [v] := by
    rw [hidV_app, List.append_nil]
    congr 1
    · exact hidV_congr _ _ fun k hk => by rw [List.getElem?_set_ne (by have := lt_of hk; omega)]
    · show [(low.set (F.B + F.L.length) v).getD (F.B + F.L.length) V.nil] ++ [] = [v]
      rw [List.getD_eq_getElem?_getD, List.getElem?_set_self (by omega)]
      rfl
  have R' := Y.loc (L' := F.L ++ [[]]) (ops' := []) (low' := low.set (F.B + F.L.length) v) (by simp) hset (fun k nm h1 h2 => ⟨by rw [List.getElem?_append_left (lt_of h1)]; exact h1, by rw [List.getElem?_set_ne (by have := lt_of h1; omega)]⟩) (by simpa using hk1) k rfl tb_nil (fun q hq => ⟨by have := (Y.ivs q hq).1; rw [hidN_app]; omega, by rw [← List.append_nil (hidV _ _ (F.L ++ [[]])), ehid]; exact (Y.ivs q hq).2.app _⟩)
  rw [ehid, Y.ms] at R'
  rw [← List.append_nil (low.set (F.B + F.L.length) v)] at g1
  exact Y.step1 (.refl _) g1 (upd_at c m Y.ht _ _) rfl (fun _ _ h => h) R' (fiUp_at _ _ _)
end
end Go.Sm
