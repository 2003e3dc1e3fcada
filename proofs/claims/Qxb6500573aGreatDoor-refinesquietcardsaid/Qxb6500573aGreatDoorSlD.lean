/- The rules of the operations that write or make memory; a function's entry and its results. -/
import Derived.Test.Qxb6500573aGreatDoorSlC
namespace Go.Sl
open Go

section
variable {P : Program} {n : Nat} {Q : Post} {D : Defs} {ρ : Env} {H : Hp} {ty : TypeId} {K : Kont} {d : Nat} {pos : String} {af : Array Edge} {g : Option (Nat × Bool)}

/-- An operation that makes one block. -/
theorem SP1_new {op : Op} {x : Obj} {v : Nat → Value} (hd : Nat.ble (d + 1) n = true) (hrun : ∀ a w, Fits n D ρ a → runs P op ty a.eval w = .ok (.value (v w.heap.size)) (w.alloc x))
    (k : ∀ b, K D ((d, v b) :: ρ) ([(b, x)] :: H)) : SP1 P n { dst := some d, op := op, type := ty, pos := pos, after := af, guard := g } Q K D ρ H :=
  fun A F a w hf ho => by
    have h1 : (execOp a.eval { dst := some d, op := op, type := ty, pos := pos, after := af, guard := g }).run P w = .ok (.value (v w.heap.size)) (w.alloc x) := hrun a w hf
    unfold Oper.wp
    rw [h1]
    refine ⟨_, _, by rw [show (a.put (some d) (v w.heap.size)).defers = D from hf.defers]; exact hf.put hd _, ?_, by rw [show (a.put (some d) (v w.heap.size)).defers = D from hf.defers]; exact k w.heap.size⟩
    simpa using ho.alloc x

theorem SP1_alloc {t : TypeId} {l : List Value} {z : Value} (hz : ∀ w, (zeroValue t).run P w = .ok z w) (hl : z.cells = l.toArray) (hd : Nat.ble (d + 1) n = true)
    (k : ∀ b, K D ((d, .pointer (some ⟨b, 0, none⟩)) :: ρ) (blk b t l :: H)) : SP1 P n { dst := some d, op := .alloc t, type := ty, pos := pos, after := af, guard := g } Q K D ρ H :=
  SP1_new (x := .cells l.toArray t (0, 0)) (v := fun b => .pointer (some ⟨b, 0, none⟩)) hd (fun a w _ => by
    simp [runs, execOp, Instr.alloc, hz, newVar, newRow, hl]) k

theorem SP1_box {t : TypeId} {x : Operand} {v : Value} {l : List Value} (hx : ev ρ x = some v) (hl : v.cells = l.toArray) (hd : Nat.ble (d + 1) n = true)
    (k : ∀ b, K D ((d, .pointer (some ⟨b, 0, none⟩)) :: ρ) (blk b t l :: H)) : SP1 P n { dst := some d, op := .box t x, type := ty, pos := pos, after := af, guard := g } Q K D ρ H :=
  SP1_new (x := .cells l.toArray t (0, 0)) (v := fun b => .pointer (some ⟨b, 0, none⟩)) hd (fun a w hf => by
    simp [runs, execOp, Instr.box, hf.ev hx, newVar, newRow, hl]) k

/-! ### Stores -/

theorem Own.upd {A w : World} {F : Seg} {H : Hp} {b : Nat} {T : TypeId} {l l' : List Value} {H' : Hp} (u : Upd H b T l l' H') (o : Own A w (H.flatten ++ F)) :
    ∃ R, Own A w ((b, .cells l.toArray T (0, 0)) :: R) ∧ ∀ w', Own A w' ((b, .cells l'.toArray T (0, 0)) :: R) → Own A w' (H'.flatten ++ F) := by
  obtain ⟨R, h1, h2⟩ := u
  refine ⟨R ++ F, ?_, fun w' o' => ?_⟩
  · have := o.perm (List.Perm.append_right F h1)
    simpa [blk] using this
  · refine Own.perm (h := blk b T l' ++ R ++ F) ?_ (List.Perm.append_right F h2.symm)
    simpa [blk] using o'

theorem run_storeCells {A : World} {b o : Nat} {T : TypeId} {R : Seg} : ∀ (vs : List Value) (i : Nat) (l : List Value) (w : World), (∀ v, v ∈ vs → v.oneCell' = true) → o + (i + vs.length) ≤ l.length →
    Own A w ((b, .cells l.toArray T (0, 0)) :: R) →
    ∃ w', (storeCells ⟨b, o, none⟩ vs i).run P w = .ok () w' ∧ Own A w' ((b, .cells (l.take (o + i) ++ vs ++ l.drop (o + i + vs.length)).toArray T (0, 0)) :: R)
  | [], i, l, w, _, _, ho => ⟨w, by simp [storeCells], by simpa using ho⟩
  | v :: vs, i, l, w, h1, hl, ho => by
    simp only [List.length_cons] at hl
    have hlt : o + i < l.length := by omega
    have hc := ho.cell (b := b) (off := o + i) (List.mem_cons_self) (v := l[o + i]) (by simp [hlt])
    have hfz := ho.frozen (b := b) (off := o + i) (List.mem_cons_self)
    have ho' := ho.setCell (off := o + i) v
    have e : (l.toArray.setIfInBounds (o + i) v) = (l.set (o + i) v).toArray := by simp
    rw [e] at ho'
    obtain ⟨w', hr, ho''⟩ := run_storeCells (o := o) vs (i + 1) (l.set (o + i) v) _ (fun u hu => h1 u (List.mem_cons_of_mem _ hu)) (by simp; omega) ho'
    refine ⟨w', ?_, ?_⟩
    · simp only [storeCells, Sem.run_bind, Addr_add]
      rw [run_store P w _ v _ (h1 v (List.mem_cons_self)), hc]
      simp [hfz, hr]
    · have e2 : (l.set (o + i) v).take (o + (i + 1)) ++ vs ++ (l.set (o + i) v).drop (o + (i + 1) + vs.length) = l.take (o + i) ++ (v :: vs) ++ l.drop (o + i + (v :: vs).length) := by
        rw [List.drop_set_of_lt (by omega), show o + (i + 1) = o + i + 1 from by omega, List.take_succ_eq_append_getElem (by simpa using hlt), List.take_set_of_le (by omega)]
        simp [show o + i + (vs.length + 1) = o + i + 1 + vs.length from by omega]
      rw [e2] at ho''
      exact ho''

/-- A store: the row's cells from 'o' on are written anew. -/
theorem SP1_stores {t : TypeId} {x y : Operand} {b o k : Nat} {T : TypeId} {v : Value} {vs l l' : List Value} {H' : Hp} (hz : ∀ w, (sizeOf t).run P w = .ok k w) (hx : ev ρ x = some (.pointer (some ⟨b, o, none⟩))) (hy : ev ρ y = some v)
    (hv : v.cells = vs.toArray) (hk : vs.length = k) (h1 : ∀ u, u ∈ vs → u.oneCell' = true) (hu : Upd H b T l l' H') (hlen : o + vs.length ≤ l.length) (hl' : l' = l.take o ++ vs ++ l.drop (o + vs.length))
    (kk : K D ρ H') : SP1 P n { dst := none, op := .store t x y, type := ty, pos := pos, after := af, guard := g } Q K D ρ H :=
  fun A F a w hf ho => by
    obtain ⟨R, o1, o2⟩ := Own.upd hu ho
    obtain ⟨w', hr, ho'⟩ := run_storeCells (P := P) (o := o) vs 0 l w h1 (by simpa using hlen) o1
    have hrun : (execOp a.eval { dst := none, op := .store t x y, type := ty, pos := pos, after := af, guard := g }).run P w = .ok .skip w' := by
      simp [execOp, hf.ev hx, hf.ev hy, Instr.storeAt, Instr.sureAddr, storeVar, hz, hv, hk, hr]
    unfold Oper.wp
    rw [hrun]
    refine ⟨ρ, H', by rw [show (a.put none undef).defers = D from hf.defers]; exact hf, o2 _ ?_, by rw [show (a.put none undef).defers = D from hf.defers]; exact kk⟩
    rw [hl']
    simpa using ho'

/-- One cell. -/
theorem SP1_store {t : TypeId} {x y : Operand} {b o : Nat} {T : TypeId} {v : Value} {l : List Value} {H' : Hp} (hz : ∀ w, (sizeOf t).run P w = .ok 1 w) (hx : ev ρ x = some (.pointer (some ⟨b, o, none⟩))) (hy : ev ρ y = some v)
    (h1 : v.oneCell' = true) (hu : Upd H b T l (l.set o v) H') (hlt : Nat.ble (o + 1) l.length = true)
    (kk : K D ρ H') : SP1 P n { dst := none, op := .store t x y, type := ty, pos := pos, after := af, guard := g } Q K D ρ H := by
  have hlt : o < l.length := Nat.le_of_ble_eq_true hlt
  refine SP1_stores (vs := [v]) hz hx hy ?_ rfl (by simpa using h1) hu (by simp only [List.length_cons, List.length_nil]; omega) ?_ kk
  · cases v <;> first | rfl | (simp [Value.oneCell'] at h1)
  · simp only [List.append_assoc, List.cons_append, List.nil_append, List.length_cons, List.length_nil]
    rw [List.set_eq_take_append_cons_drop, if_pos hlt]

/-- The whole row of a variable. -/
theorem SP1_storeAll {t : TypeId} {x y : Operand} {b k : Nat} {T : TypeId} {v : Value} {vs l : List Value} {H' : Hp} (hz : ∀ w, (sizeOf t).run P w = .ok k w) (hx : ev ρ x = some (.pointer (some ⟨b, 0, none⟩))) (hy : ev ρ y = some v)
    (hv : v.cells = vs.toArray) (hk : vs.length = k) (h1 : vs.all Value.oneCell' = true) (hu : Upd H b T l vs H') (hl : l.length = k)
    (kk : K D ρ H') : SP1 P n { dst := none, op := .store t x y, type := ty, pos := pos, after := af, guard := g } Q K D ρ H :=
  SP1_stores hz hx hy hv hk (fun u hu => List.all_eq_true.1 h1 u hu) hu (by omega) (by simp [hk, ← hl]) kk

/-! ### A function's entry and its results -/

def enterEnv : Nat → List Value → Env
  | _, [] => []
  | i, v :: l => (i, v) :: enterEnv (i + 1) l

theorem look_enterEnv : ∀ (l : List Value) (i j : Nat) (v : Value), look (enterEnv i l) j = some v → i ≤ j ∧ l[j - i]? = some v
  | [], _, _, _, h => by simp [enterEnv, look] at h
  | u :: l, i, j, v, h => by
    simp only [enterEnv] at h
    rw [look_cons] at h
    by_cases e : i = j
    · subst e; simp at h; simp [h]
    · rw [if_neg e] at h
      obtain ⟨h1, h2⟩ := look_enterEnv l (i + 1) j v h
      refine ⟨by omega, ?_⟩
      rw [show j - i = (j - (i + 1)) + 1 from by omega]
      simpa using h2

/-- What a function hands back, read off frame and heap. -/
def Res (P : Program) (fn : Func) (ρ : Env) (H : Hp) (v : Value) : Prop :=
  ∀ n D a A h w, Fits n D ρ a → Own A w h → (∀ p, p ∈ List.flatten H → p ∈ h) → (results fn a.tmps).run P w = .ok v w

def bodyP (P : Program) (fn : Func) (R : Ending → Hp → Prop) : Post
  | .normal, D, ρ, H | .ret, D, ρ, H => D = [] ∧ ∃ v H' rest, Res P fn ρ H v ∧ Part H H' rest ∧ R (.returned v) H'
  | .panic c, D, _, H => D = [] ∧ ∃ H' rest, Part H H' rest ∧ R (.panicked c) H'
  | _, _, _, _ => False

theorem bodyP_ret {fn : Func} {R : Ending → Hp → Prop} {v : Value} {H' rest : Hp} (hr : Res P fn ρ H v) (hp : Part H H' rest) (h : R (.returned v) H') : bodyP P fn R .ret [] ρ H := ⟨rfl, v, H', rest, hr, hp, h⟩
theorem bodyP_end {fn : Func} {R : Ending → Hp → Prop} {v : Value} {H' rest : Hp} (hr : Res P fn ρ H v) (hp : Part H H' rest) (h : R (.returned v) H') : bodyP P fn R .normal [] ρ H := ⟨rfl, v, H', rest, hr, hp, h⟩
theorem bodyP_panic {fn : Func} {R : Ending → Hp → Prop} {c : List PanicEntry} {H' rest : Hp} (hp : Part H H' rest) (h : R (.panicked c) H') : bodyP P fn R (.panic c) [] ρ H := ⟨rfl, H', rest, hp, h⟩

theorem Spec_enter {f : FuncId} {fn : Func} {c : Code} {args : List Value} {R : Ending → Hp → Prop} (hf : P.funcs[f]? = some fn) (hb : fn.body = some c) (hn : fn.ntmps = n) (hle : Nat.ble args.length n = true)
    (h : SP P n c (bodyP P fn R) [] (enterEnv 0 args) H) : Spec P f args H R := by
  intro A F w ho
  have hle' : args.length ≤ n := Nat.le_of_ble_eq_true hle
  refine calls_of_wp hf hb (wp_mono (h A F _ w ⟨?_, rfl, ?_⟩ ho) ?_)
  · simp [hn]; omega
  · intro i v hv
    obtain ⟨_, h2⟩ := look_enterEnv args 0 i v hv
    simp only [Nat.sub_zero] at h2
    have hlt := (List.getElem?_eq_some_iff.1 h2).1
    rw [Array.getElem?_append_left (by simpa using hlt)]
    simpa using h2
  · intro e a w' ⟨ρ, H, h1, h2, h3⟩
    have hs : ∀ {H' rest : Hp}, Part H H' rest → Own A w' (H'.flatten ++ F) := fun hp => hp.drop h2
    cases e with
    | normal => obtain ⟨hd, v, H', rest, hr, hp, hR⟩ := h3; exact ⟨hd, v, hr n _ a A _ w' h1 h2 (fun p hp => List.mem_append_left _ hp), H', hR, hs hp⟩
    | ret => obtain ⟨hd, v, H', rest, hr, hp, hR⟩ := h3; exact ⟨hd, v, hr n _ a A _ w' h1 h2 (fun p hp => List.mem_append_left _ hp), H', hR, hs hp⟩
    | panic c => obtain ⟨hd, H', rest, hp, hR⟩ := h3; exact ⟨hd, H', hR, hs hp⟩
    | exit id => exact h3.elim
    | goto l => exact h3.elim
    | outgrown => exact h3.elim

theorem Fits.getD {n : Nat} {D : Defs} {ρ : Env} {a : Act} (f : Fits n D ρ a) {t : Nat} {v : Value} (h : look ρ t = some v) : a.tmps.getD t undef = v := by
  have := f.get t v h; simp [this]

theorem Res0 {fn : Func} (h : fn.results = #[]) : Res P fn ρ H (.tuple #[]) := fun _ _ a _ _ w _ _ _ => results_none h a.tmps P w
theorem Res1 {fn : Func} {t : Nat} {v : Value} (h : fn.results = #[.tmp t]) (hv : look ρ t = some v) : Res P fn ρ H v := fun _ _ a _ _ w hf _ _ => by rw [results_tmp h a.tmps P w, hf.getD hv]
theorem Res2 {fn : Func} {t u : Nat} {v x : Value} (h : fn.results = #[.tmp t, .tmp u]) (hv : look ρ t = some v) (hx : look ρ u = some x) : Res P fn ρ H (.tuple #[v, x]) :=
  fun _ _ a _ _ w hf _ _ => by rw [results_tmp2 h a.tmps P w, hf.getD hv, hf.getD hx]
theorem Res3 {fn : Func} {t u s : Nat} {v x y : Value} (h : fn.results = #[.tmp t, .tmp u, .tmp s]) (hv : look ρ t = some v) (hx : look ρ u = some x) (hy : look ρ s = some y) : Res P fn ρ H (.tuple #[v, x, y]) :=
  fun _ _ a _ _ w hf _ _ => by simp [results, h, -Array.getD_eq_getD_getElem?, hf.getD hv, hf.getD hx, hf.getD hy]
theorem Res4 {fn : Func} {t u s r : Nat} {v x y z : Value} (h : fn.results = #[.tmp t, .tmp u, .tmp s, .tmp r]) (hv : look ρ t = some v) (hx : look ρ u = some x) (hy : look ρ s = some y) (hz : look ρ r = some z) : Res P fn ρ H (.tuple #[v, x, y, z]) :=
  fun _ _ a _ _ w hf _ _ => by simp [results, h, -Array.getD_eq_getD_getElem?, hf.getD hv, hf.getD hx, hf.getD hy, hf.getD hz]
/-- One result, a struct that lies in memory. -/
theorem ResC {fn : Func} {t : Nat} {T : TypeId} {b k : Nat} {vs : List Value} (h : fn.results = #[.cell t T]) (hv : look ρ t = some (.pointer (some ⟨b, 0, none⟩))) (ha : ∀ w, (isAgg T).run P w = .ok true w) (hz : ∀ w, (sizeOf T).run P w = .ok k w)
    (hl : vs.length = k) (hc : Cells H b 0 vs) : Res P fn ρ H (.agg vs.toArray) := fun _ _ a _ _ w hf ho hs => by
  have h1 := run_loadCellsFrom (P := P) (b := b) (o := 0) k 0 vs #[] hl (fun j v hj => by simpa using hc.at ho hs j v hj)
  have h2 := hf.getD hv
  simp only [Array.getD_eq_getD_getElem?] at h2
  simp [results, h, h2, asAddr, loadVar, ha, hz, loadCells, h1]
end
end Go.Sl
