/- Plain: package vm, calls. -/
import Derived.Test.Qxb6500573aGreatDoorBA
namespace Go.Wl
open Go Go.Sl Go.Proofs
set_option linter.unusedVariables false
def outE (x : Option VM) : Option (Out Ev) := bind1 x fun m => some (.ok ev0 m)
def finM (th at_ : Nat) (p : V × V) (m : VM) : Option (Out Ev) := bind1 (getT m th) fun t => if at_ ≤ t.stack.length then bind1 (pushM th [p.1, p.2] (setTh m th { t with stack := t.stack.take at_ })) fun m => some (.ok ev0 m) else none
def cPcall (th at_ : Nat) (a c : V) (m : VM) : Option (Out Ev) := bind1 (getT m th) fun t => if a.t = 5 then (if (t.frames.length : Int) < 8 then (if 0 ≤ a.n ∧ a.n ≤ 1000000000 then outE (enterM th a.n [c] at_ true m) else none) else finM th at_ (v1, strV s_depth) m) else finM th at_ (v1, strV s_call) m
def cResume (th at_ : Nat) (a c : V) (m : VM) : Option (Out Ev) := if a.t ≠ 7 then some (.thr (strV s_co) m) else bind1 (getI m.vs.threads a.n) fun u => if u.st = 1 ∨ u.st = 2 then bind1 (getT m th) fun t => (if at_ ≤ t.stack.length then some (.ok ⟨4, a.n, 0, c, V.nil⟩ (setTh m th { t with st := 3, stack := t.stack.take at_ })) else none) else finM th at_ (v1, strV (statusName u.st)) m
def cYield (th at_ : Nat) (a : V) (m : VM) : Option (Out Ev) := if (th : Int) = 0 then some (.thr (strV s_yield) m) else bind1 (getT m th) fun t => if at_ ≤ t.stack.length then some (.ok ⟨3, 0, 0, a, V.nil⟩ (setTh m th { t with st := 2, stack := t.stack.take at_ })) else none
def callB (th at_ : Nat) (k : Int) (a c : V) (m : VM) : Option (Out Ev) := if k = 6 then cPcall th at_ a c m else if k = 9 then cResume th at_ a c m else if k = 10 then cYield th at_ a m else
  if k = 1 then bindO (bPrintM a m) (finM th at_) else if k = 2 then bindO (bStrM a m) (finM th at_) else if k = 3 then bindO (bNumM a m) (finM th at_) else if k = 4 then bindO (bTypeM a m) (finM th at_) else if k = 5 then bindO (bErrorM a m) (finM th at_) else
  if k = 7 then bindO (bNextM a c m) (finM th at_) else if k = 8 then bindO (bCreateM a m) (finM th at_) else if k = 11 then bindO (bStatusM a m) (finM th at_) else some (.thr (strV s_call) m)
def callF (th at_ : Nat) (f : V) (args : List V) (m : VM) : Option (Out Ev) := if f.t = 5 then bind1 (getT m th) fun t => (if 8 ≤ (t.frames.length : Int) then some (.thr (strV s_depth) m) else if 0 ≤ f.n ∧ f.n ≤ 1000000000 then outE (enterM th f.n args at_ false m) else none) else if f.t ≠ 6 then some (.thr (strV s_call) m) else callB th at_ f.n (args.getD 0 V.nil) (args.getD 1 V.nil) m
def vcallM (th i : Nat) (n : Int) (m : VM) : Option (Out Ev) := bindO (burnM m) fun _ m => bind1 (getT m th) fun t => if 0 ≤ n ∧ n ≤ 900 ∧ n + 1 ≤ t.stack.length ∧ t.stack.length ≤ 1000000 then
  bind1 (getI t.stack ((t.stack.length : Int) - n - 1)) fun f => bind1 (nextPc th i m) fun m => callF th (t.stack.length - n.toNat - 1) f (t.stack.drop (t.stack.length - n.toNat)) m else none
section
variable (b : VB) (ph : PH)
def outXR {α : Type} (val : α → Value) (o : Out α) (v : Value) (H : Hp) : Prop := ∃ a m', o = .ok a m' ∧ v = val a ∧ ∃ hh' seg, isVM b ph hh' m' seg ∧ H = [seg]
def outXP {α : Type} (o : Out α) (c : List PanicEntry) (H : Hp) : Prop := ∃ e hh' seg, o = escO e ∧ c = escC e ∧ isVM b ph hh' e.m seg ∧ H = [seg, escS e]
abbrev outX {α : Type} (val : α → Value) (o : Out α) : Ending → Hp → Prop := RetP (outXR b ph val o) (outXP b ph o)
end
def evA (x : Ev) : Value := .agg (evV x).toArray
/-- The thread's stack is cut: what lay in it lies there still. -/
theorem isVM.cutK {b : VB} {ph : PH} {hh : List TH} {m : VM} {seg : Seg} (hM : isVM b ph hh m seg) {th : Nat} {t : Th} {g : TH} (ht : m.vs.threads[th]? = some t) (hg : hh[th]? = some g) {j : Nat} (hj : j ≤ t.stack.length) :
    ∃ (pre post : List Value) (na : Option Addr) (nc : Nat) (seg' : Seg), pre.length = 0 + th * 5 ∧ (∀ H : Hp, Upd (seg :: H) b.thb 263 (pre ++ trow t g na nc ++ post) (pre ++ (trow t g na nc).set 2 (.slice g.sa j g.sc) ++ post) (seg' :: H)) ∧ isVM b ph hh (setTh m th { t with stack := t.stack.take j }) seg' ∧
      ∀ q, g.sa = some ⟨q, 0, none⟩ → ∀ H : Hp, Cells (seg' :: H) q 0 (t.stack.flatMap valV) := by
  obtain ⟨na, nc, r, ss, sf, sn, s0, s2, c0, c2, rfl, hpre, hss, hsf, hsn, hput⟩ := hM.opnT ht hg
  have hA := hss.cut hj
  rw [flat_take valV_len hj] at hA
  have hl : (t.stack.take j).length = j := by rw [List.length_take]; omega
  have hM2 := hput { t with stack := t.stack.take j } g na nc ss sf sn (by dsimp only; rw [hl]; exact hA) hsf hsn
  rw [set_same hg] at hM2
  dsimp only at hM2
  rw [hl] at hM2
  refine ⟨c0, c2, na, nc, _, hpre, fun H => Upd.flat (by exact U1), hM2, fun q hq H => ?_⟩
  rcases hss.2 with ⟨h1, _⟩ | ⟨q', sp, hq', _, _, rfl⟩
  · rw [h1] at hq; cases hq
  · rw [hq] at hq'
    injection hq' with hq'
    injection hq' with hq'
    subst hq'
    exact seg_cells (s := blk q 42 (t.stack.flatMap valV ++ sp)) (by simp) (Cells.head (H := []) (by rw [List.drop_zero]; simp))
/-- A window of the stack, as arguments. -/
theorem ArgW.win {hh : List TH} {th : Nat} {m : VM} {t : Th} {g : TH} (hg : hh[th]? = some g) (ht : m.vs.threads[th]? = some t) {k n : Nat} (hk : k + n = t.stack.length) (hsa : n ≠ 0 → ∃ q, g.sa = some ⟨q, 0, none⟩) : ArgW hh th m (t.stack.drop k) (winA g.sa 3 (k + n) k) [] := by
  by_cases h0 : n = 0
  · exact .inl (List.drop_eq_nil_of_le (by omega))
  · obtain ⟨q, hq⟩ := hsa h0
    refine .inr ⟨q, 0 + k * 3, by rw [hq, winA_some (by omega)], .inl ⟨g, t, k, hg, ht, hq, rfl, fun j v h => ?_⟩⟩
    rw [List.getElem?_drop] at h
    exact h
theorem ArgW.sub1 {hh : List TH} {th : Nat} {m : VM} {args : List V} {q o : Nat} {sx : Seg} (h : ArgW hh th m args (some ⟨q, o, none⟩) sx) {v : V} (hv : args[1]? = some v) : ArgW hh th m [v] (some ⟨q, o + (1 : Int).toNat * 3, none⟩) sx := by
  rcases h with rfl | ⟨q', o', e, h⟩
  · cases hv
  · injection e with e
    injection e with e1 e2
    subst e1 e2
    refine .inr ⟨q, _, rfl, ?_⟩
    rcases h with ⟨g, t, i0, h1, h2, h3, h4, h5⟩ | h
    · refine .inl ⟨g, t, i0 + 1, h1, h2, h3, by rw [h4]; show 0 + i0 * 3 + 1 * 3 = _; omega, fun j w hw => ?_⟩
      cases j with
      | zero => simp only [List.getElem?_cons_zero, Option.some.injEq] at hw; subst hw; exact h5 1 v hv
      | succ j => simp at hw
    · refine .inr ?_
      match args, hv with
      | a :: c :: l, hv =>
        simp only [List.getElem?_cons_succ, List.getElem?_cons_zero, Option.some.injEq] at hv
        subst hv
        exact Cells.sub (k := 3) h (by simp [List.flatMap_cons, valV])
theorem ArgW.three {b : VB} {ph : PH} {hh : List TH} {th : Nat} {m : VM} {args : List V} {aa : Option Addr} {sx seg : Seg} (h : ArgW hh th m args aa sx) (hM : isVM b ph hh m seg) (h3 : 3 ≤ args.length) : ∃ q o, aa = some ⟨q, o, none⟩ ∧ Args3 seg sx q o (args.getD 0 V.nil) (args.getD 1 V.nil) (args.getD 2 V.nil) := by
  rcases h.cells hM with rfl | ⟨q, o, rfl, hc⟩
  · simp at h3
  · refine ⟨q, o, rfl, fun H => ?_⟩
    match args, h3 with
    | a :: c :: d :: l, _ => exact Cells.sub (k := 0) (hc H) (by simp [List.flatMap_cons, valV])
theorem nextPc_th {m m' : VM} {th i : Nat} {t : Th} (h : nextPc th i m = some m') (ht : m.vs.threads[th]? = some t) : ∃ f t', getF m th i = some f ∧ (0 ≤ f.pc ∧ f.pc ≤ 1000000000) ∧ pcM th i (f.pc + 1) m = some m' ∧ m'.vs.threads[th]? = some t' ∧ t'.stack = t.stack := by
  unfold nextPc at h
  obtain ⟨f, hf, h⟩ := bnd1 h
  have hr : 0 ≤ f.pc ∧ f.pc ≤ 1000000000 := Decidable.byContradiction fun q => by rw [if_neg q] at h; cases h
  rw [if_pos hr] at h
  have h0 := h
  unfold pcM at h
  rw [hf] at h
  obtain ⟨f', hf', h⟩ := bnd1 (show bind1 (some f) _ = some m' from h)
  unfold setF getT at h
  obtain ⟨t1, ht1, h⟩ := bnd1 h
  rw [ht] at ht1
  injection ht1 with ht1
  subst ht1
  have hi : i < t.frames.length := Decidable.byContradiction fun q => by rw [if_neg q] at h; cases h
  rw [if_pos hi] at h
  injection h with h
  subst h
  have hl := (List.getElem?_eq_some_iff.1 ht).1
  exact ⟨f, { t with frames := t.frames.set i { f' with pc := f.pc + 1 } }, hf, hr, h0, by unfold setTh; dsimp only; rw [List.getElem?_set_self hl], rfl⟩
theorem ArgW.cut3 {hh : List TH} {th : Nat} {m : VM} {args : List V} {q o : Nat} {sx seg' : Seg} {t : Th} {g : TH} (h : ArgW hh th m args (some ⟨q, o, none⟩) sx) (hg : hh[th]? = some g) (ht : m.vs.threads[th]? = some t) (hk : ∀ q, g.sa = some ⟨q, 0, none⟩ → ∀ H : Hp, Cells (seg' :: H) q 0 (t.stack.flatMap valV)) (h3 : 3 ≤ args.length) : Args3 seg' sx q o (args.getD 0 V.nil) (args.getD 1 V.nil) (args.getD 2 V.nil) := by
  rcases h with rfl | ⟨q', o', e, h⟩
  · simp at h3
  · injection e with e
    injection e with e1 e2
    subst e1 e2
    match args, h3 with
    | a :: c :: d :: l, _ =>
      rcases h with ⟨g', t', i0, h1, h2, hsa, ho, hj⟩ | h
      · rw [hg] at h1
        rw [ht] at h2
        injection h1 with h1
        injection h2 with h2
        subst h1 h2
        intro H
        have h0 := hk q hsa (sx :: H)
        have e0 := hj 0 a rfl
        have e1 := hj 1 c rfl
        have e2 := hj 2 d rfl
        have hl : i0 + 3 ≤ t.stack.length := (List.getElem?_eq_some_iff.1 e2).1
        have hd : t.stack.drop i0 = a :: c :: d :: t.stack.drop (i0 + 3) := by
          have q0 := (List.getElem?_eq_some_iff.1 e0).2
          have q1 := (List.getElem?_eq_some_iff.1 e1).2
          have q2 := (List.getElem?_eq_some_iff.1 e2).2
          rw [List.drop_eq_getElem_cons (by omega), List.drop_eq_getElem_cons (i := i0 + 1) (by omega), List.drop_eq_getElem_cons (i := i0 + 1 + 1) (by omega)]
          simp only [Nat.add_zero] at q0
          rw [q0, q1, show t.stack[i0 + 1 + 1] = d from q2]
        have h9 := Cells.sub (k := i0 * 3) (vs := valV a ++ valV c ++ valV d) h0 (by rw [flat_drop valV_len, hd]; simp [List.flatMap_cons, valV])
        rw [ho]
        exact h9
      · intro H
        obtain ⟨c', T', fz, k1, k2⟩ := Cells.sub (k := 0) (vs := valV a ++ valV c ++ valV d) h (by simp [List.flatMap_cons, valV])
        refine ⟨c', T', fz, ?_, k2⟩
        have k3 : (q, Obj.cells c' T' fz) ∈ List.flatten [sx] := k1
        show (q, Obj.cells c' T' fz) ∈ List.flatten (seg' :: sx :: H)
        simp only [List.flatten_cons, List.flatten_nil, List.append_nil, List.mem_append] at k3 ⊢
        exact .inr (.inl k3)
end Go.Wl
