/- Plain: package vm, contracts. -/
import Derived.Test.Qxb6500573aGreatDoorAV
import Derived.Test.Qxb6500573aGreatDoorSlBs
namespace Go.Wl
open Go Go.Sl Go.Proofs
set_option linter.unusedVariables false
/-- The frames stand where they stood. -/
def KF (hh hh' : List TH) : Prop := hh'.map (fun g => (g.fa, g.fc)) = hh.map (fun g => (g.fa, g.fc))
theorem KF.refl (hh : List TH) : KF hh hh := rfl
theorem KF.trans {a c d : List TH} (h : KF a c) (k : KF c d) : KF a d := Eq.trans k h
theorem KF.at_ {hh hh' : List TH} (h : KF hh hh') {th : Nat} {g : TH} (hg : hh[th]? = some g) : ∃ g', hh'[th]? = some g' ∧ g'.fa = g.fa ∧ g'.fc = g.fc := by
  have e : (hh'.map (fun g => (g.fa, g.fc)))[th]? = (hh.map (fun g => (g.fa, g.fc)))[th]? := by rw [h]
  rw [List.getElem?_map, List.getElem?_map, hg] at e
  cases hx : hh'[th]? with
  | none => rw [hx] at e; cases e
  | some g' =>
    rw [hx] at e
    injection e with e
    injection e with e1 e2
    exact ⟨g', rfl, e1, e2⟩
theorem KF.set {hh : List TH} {th : Nat} {g g' : TH} (hg : hh[th]? = some g) (h1 : g'.fa = g.fa) (h2 : g'.fc = g.fc) : KF hh (hh.set th g') := by
  unfold KF
  rw [List.map_set]
  apply List.ext_getElem?
  intro i
  rw [List.getElem?_set]
  by_cases e : th = i
  · subst e
    have := (List.getElem?_eq_some_iff.1 hg).1
    rw [if_pos rfl, if_pos (by simpa using this), List.getElem?_map, hg, h1, h2]; rfl
  · rw [if_neg e]
/-- A frame's address. -/
def FP (hh : List TH) (th i : Nat) (v : Value) : Prop := ∃ g q, hh[th]? = some g ∧ g.fa = some ⟨q, 0, none⟩ ∧ v = .pointer (some ⟨q, 0 + i * 5, none⟩)
theorem FP.keep {hh hh' : List TH} {th i : Nat} {v : Value} (h : FP hh th i v) (k : KF hh hh') : FP hh' th i v := by
  obtain ⟨g, q, hg, hq, rfl⟩ := h
  obtain ⟨g', h1, h2, _⟩ := k.at_ hg
  exact ⟨g', q, h1, by rw [h2, hq], rfl⟩
def PP (ph : PH) (j : Nat) (v : Value) : Prop := ∃ q, ph.pa = some ⟨q, 0, none⟩ ∧ v = .pointer (some ⟨q, 0 + j * 8, none⟩)
/-- A call that does not return. -/
inductive Esc where
  | thr (v : V) (m : VM) (bb : Nat)
  | trp (e : Int) (m : VM)
def Esc.m : Esc → VM
  | .thr _ m _ => m
  | .trp _ m => m
def escO {α : Type} : Esc → Out α
  | .thr v m _ => .thr v m
  | .trp e m => .trp e m
def escC : Esc → List PanicEntry
  | .thr _ _ bb => [{ v := .iface 332 (pt bb), recovered := false }]
  | .trp e _ => [{ v := .iface 336 (I e), recovered := false }]
def escS : Esc → Seg
  | .thr v _ bb => blk bb 335 (valV v)
  | .trp _ _ => []
theorem bindO_esc {α β : Type} (e : Esc) (k : α → VM → Option (Out β)) : bindO (some (escO e : Out α)) k = some (escO e) := by cases e <;> rfl
theorem bndO {α β : Type} {x : Option (Out α)} {k : α → VM → Option (Out β)} {r : Out β} (h : bindO x k = some r) : ∃ o, x = some o ∧ bindO (some o) k = some r := by
  cases x with
  | none => cases h
  | some o => exact ⟨o, rfl, h⟩
section
variable (b : VB) (ph : PH) (hh : List TH)
def outRet {α : Type} (val : α → Value) (o : Out α) (v : Value) (H : Hp) : Prop := ∃ a m', o = .ok a m' ∧ v = val a ∧ ∃ hh' seg, KF hh hh' ∧ isVM b ph hh' m' seg ∧ H = [seg]
def outPan {α : Type} (o : Out α) (c : List PanicEntry) (H : Hp) : Prop := ∃ e hh' seg, o = escO e ∧ c = escC e ∧ KF hh hh' ∧ isVM b ph hh' e.m seg ∧ H = [seg, escS e]
abbrev outR {α : Type} (val : α → Value) (o : Out α) : Ending → Hp → Prop := RetP (outRet b ph hh val o) (outPan b ph hh o)
/-- A call that returns and moves neither stacks nor frames. -/
def vOk (m : VM) (v0 : Value) (v : Value) (H : Hp) : Prop := v = v0 ∧ ∃ seg, isVM b ph hh m seg ∧ H = [seg]
def vOkK (m : VM) (v0 : Value) (v : Value) (H : Hp) : Prop := v = v0 ∧ ∃ hh' seg, KF hh hh' ∧ isVM b ph hh' m seg ∧ H = [seg]
end
theorem getF_some {m : VM} {th i : Nat} {f : Fr} (h : getF m th i = some f) : ∃ t, m.vs.threads[th]? = some t ∧ ∃ hi : i < t.frames.length, t.frames[i] = f := by
  unfold getF getT at h
  obtain ⟨t, ht, h⟩ := bnd1 h
  obtain ⟨h1, h2⟩ := List.getElem?_eq_some_iff.1 h
  exact ⟨t, ht, h1, h2⟩
/-- A frame's cells. -/
theorem isVM.fr {b : VB} {ph : PH} {hh : List TH} {m : VM} {seg : Seg} (hM : isVM b ph hh m seg) {th i : Nat} {f : Fr} (hf : getF m th i = some f) {g : TH} {q : Nat} (hg : hh[th]? = some g) (hq : g.fa = some ⟨q, 0, none⟩) {H : Hp} : Cells (seg :: H) q (0 + i * 5) (frV f) := by
  obtain ⟨t, ht, hi, he⟩ := getF_some hf
  obtain ⟨na, nc, r, ss, sf, sn, s0, s2, c0, c2, rfl, hpre, hss, hsf, hsn, hput⟩ := hM.opnT ht hg
  obtain ⟨q', sp, hq', _, _, rfl⟩ := hsf.row (by omega)
  rw [hq] at hq'
  injection hq' with hq'
  injection hq' with hq'
  subst hq'
  have := flat_cellsE (b := q) (T := 331) (sp := sp) (H := []) frV_len (j := (i : Int)) rfl hi he
  exact seg_cells (s := blk q 331 (t.frames.flatMap frV ++ sp)) (by simp) this
theorem isVM.frF {b : VB} {ph : PH} {hh : List TH} {m : VM} {seg : Seg} (hM : isVM b ph hh m seg) {th i : Nat} {f : Fr} (hf : getF m th i = some f) {g : TH} {q : Nat} (hg : hh[th]? = some g) (hq : g.fa = some ⟨q, 0, none⟩) {H : Hp} {k : Nat} {v : Value} (hv : (frV f)[k]? = some v) : Cell (seg :: H) q (0 + i * 5 + k) v := (hM.fr hf hg hq).cell hv
/-- A cell, to be read and written. -/
theorem isVM.celW {b : VB} {ph : PH} {hh : List TH} {m : VM} {seg : Seg} (hM : isVM b ph hh m seg) {i : Int} {p : Ce} (hp : getI m.vs.cells i = some p) : ∃ q lc, (∀ H : Hp, Cell (seg :: H) b.vb (0 + 8) (.slice (some ⟨q, 0, none⟩) m.vs.cells.length lc)) ∧ (∀ H : Hp, Cells (seg :: H) q (0 + i.toNat * 5) (ceV p)) ∧
    ∃ r sp r2, seg = List.flatten [r, blk q 287 (m.vs.cells.flatMap ceV ++ sp), r2] ∧ ∀ cells' : List Ce, cells'.length = m.vs.cells.length → isVM b ph hh { m with vs := { m.vs with cells := cells' } } (List.flatten [r, blk q 287 (cells'.flatMap ceV ++ sp), r2]) := by
  obtain ⟨h, rfl, hO⟩ := hM
  obtain ⟨q, hq, hc2⟩ := arr_at ceV_len hO.ces hp
  obtain ⟨_, hlt, _⟩ := getI_some hp
  obtain ⟨q', sp, hq', hec, hesp, hse⟩ := hO.ces.row (by omega)
  rw [hq] at hq'
  injection hq' with hq'
  injection hq' with hq'
  subst hq'
  refine ⟨q, h.ec, fun H => seg_cell (s := vhead b ph m h) (List.mem_cons_self) (Cell.head (by rw [← hq]; rfl)), fun H => seg_cells (s := h.se) (by simp) hc2, ?_⟩
  obtain ⟨la, lc, ua, uc, ea, ec, xa, xc, s1, sd, sk, sc, sl, su, se, cs, st, sx, stb, sq⟩ := h
  obtain ⟨h1, h2, h3, h4, h5, h6, h7, h8, h9, h10, h11⟩ := hO
  dsimp only at hq hse hec hesp
  subst hq hse
  refine ⟨List.flatten [vhead b ph m ⟨la, lc, ua, uc, some ⟨q, 0, none⟩, ec, xa, xc, s1, sd, sk, sc, sl, su, blk q 287 (m.vs.cells.flatMap ceV ++ sp), cs, st, sx, stb, sq⟩, s1, sd, sk, sc, sl, su], sp, List.flatten [blk b.thb 263 cs, st, sx, stb, sq], by simp, fun cells' hl => ?_⟩
  refine ⟨⟨la, lc, ua, uc, some ⟨q, 0, none⟩, ec, xa, xc, s1, sd, sk, sc, sl, su, blk q 287 (cells'.flatMap ceV ++ sp), cs, st, sx, stb, sq⟩, by simp [vsegs, vhead, hl], ⟨h1, h2, h3, h4, h5, h6, ?_, h8, h9, h10, h11⟩⟩
  exact Arr.mk (by rw [flat_len ceV_len]) (by rw [hl]; exact hec) (by rw [hl]; exact hesp)
theorem _root_.Go.Sl.Cells.sub {H : Hp} {b o k : Nat} {ws vs : List Value} (h : Cells H b o ws) (hv : (ws.drop k).take vs.length = vs) : Cells H b (o + k) vs := by
  obtain ⟨c, T, fz, h1, h2⟩ := h
  refine ⟨c, T, fz, h1, fun j v hj => ?_⟩
  have hlt := (List.getElem?_eq_some_iff.1 hj).1
  rw [← hv, List.getElem?_take_of_lt hlt, List.getElem?_drop] at hj
  have := h2 (k + j) v hj
  rwa [← Nat.add_assoc] at this
theorem _root_.Go.Sl.Upd.flat {H pre pre' : Hp} {b : Nat} {T : TypeId} {l l' : List Value} (h : Upd (pre ++ H) b T l l' (pre' ++ H)) : Upd (List.flatten pre :: H) b T l l' (List.flatten pre' :: H) := by
  obtain ⟨R, h1, h2⟩ := h
  exact ⟨R, by simpa using h1, by simpa using h2⟩
theorem _root_.Go.Sl.Cells.opened {H pre : Hp} {b o : Nat} {vs : List Value} (h : Cells [List.flatten pre] b o vs) : Cells (pre ++ H) b o vs := by
  obtain ⟨c, T, fz, h1, h2⟩ := h
  refine ⟨c, T, fz, ?_, h2⟩
  have h3 : (b, Obj.cells c T fz) ∈ List.flatten pre := by simpa [Has] using h1
  show (b, Obj.cells c T fz) ∈ List.flatten (pre ++ H)
  rw [List.flatten_append]
  exact List.mem_append_left _ h3
theorem _root_.Go.Sl.Cell.opened {H pre : Hp} {b o : Nat} {v : Value} (h : Cell [List.flatten pre] b o v) : Cell (pre ++ H) b o v := by
  obtain ⟨c, T, fz, h1, h2⟩ := h
  refine ⟨c, T, fz, ?_, h2⟩
  have h3 : (b, Obj.cells c T fz) ∈ List.flatten pre := by simpa [Has] using h1
  show (b, Obj.cells c T fz) ∈ List.flatten (pre ++ H)
  rw [List.flatten_append]
  exact List.mem_append_left _ h3
/-- The arguments of a call: a window of the stack, or cells of their own. -/
def ArgW (hh : List TH) (th : Nat) (m : VM) (args : List V) (aa : Option Addr) (sx : Seg) : Prop :=
  args = [] ∨ ∃ q o, aa = some ⟨q, o, none⟩ ∧ ((∃ g t i0, hh[th]? = some g ∧ m.vs.threads[th]? = some t ∧ g.sa = some ⟨q, 0, none⟩ ∧ o = 0 + i0 * 3 ∧ ∀ j v, args[j]? = some v → t.stack[i0 + j]? = some v) ∨ Cells [sx] q o (args.flatMap valV))
theorem flat_drop {α : Type} {f : α → List Value} {k : Nat} (hf : ∀ x, (f x).length = k) : ∀ (i : Nat) (l : List α), (l.flatMap f).drop (i * k) = (l.drop i).flatMap f
  | 0, l => by simp
  | i + 1, [] => by simp
  | i + 1, x :: l => by
    rw [List.flatMap_cons, Nat.succ_mul, List.drop_succ_cons, ← flat_drop hf i l, show i * k + k = (f x).length + i * k from by rw [hf]; omega, List.drop_length_add_append]
theorem seg_cells1 {s : Seg} {H : Hp} {b o : Nat} {vs : List Value} (h : Cells [s] b o vs) : Cells (s :: H) b o vs := by
  obtain ⟨c, T, fz, h1, h2⟩ := h
  refine ⟨c, T, fz, ?_, h2⟩
  have h3 : (b, Obj.cells c T fz) ∈ s := by simpa [Has] using h1
  exact List.mem_flatten.2 ⟨_, List.mem_cons_self, h3⟩
theorem Cells_wide {sx old : Seg} {q o : Nat} {vs : List Value} (h : Cells [sx] q o vs) : Cells [sx ++ old] q o vs := by
  obtain ⟨c, T, fz, h1, h2⟩ := h
  refine ⟨c, T, fz, ?_, h2⟩
  have h3 : (q, Obj.cells c T fz) ∈ sx := by simpa [Has] using h1
  simp [Has, h3]
theorem Cells_wide2 {sx old : Seg} {q o : Nat} {vs : List Value} (h : Cells [old] q o vs) : Cells [sx ++ old] q o vs := by
  obtain ⟨c, T, fz, h1, h2⟩ := h
  refine ⟨c, T, fz, ?_, h2⟩
  have h3 : (q, Obj.cells c T fz) ∈ old := by simpa [Has] using h1
  simp [Has, h3]
theorem stack_cells {st args : List V} {sp : List Value} {q i0 : Nat} {T : TypeId} (h : ∀ (j : Nat) (v : V), args[j]? = some v → st[i0 + j]? = some v) : Cells [blk q T (st.flatMap valV ++ sp)] q (0 + i0 * 3) (args.flatMap valV) := by
  refine Cells.head ?_
  have hsub : (st.drop i0).take args.length = args := by
    apply List.ext_getElem?
    intro j
    by_cases hj : j < args.length
    · rw [List.getElem?_take_of_lt hj, List.getElem?_drop, List.getElem?_eq_getElem hj]
      exact h j _ (List.getElem?_eq_getElem hj)
    · rw [List.getElem?_eq_none (by simp; omega), List.getElem?_eq_none (by omega)]
  by_cases h0 : args = []
  · subst h0; simp
  · have hlen : i0 + args.length ≤ st.length := by
      have : 0 < args.length := by cases args with | nil => exact absurd rfl h0 | cons _ _ => simp
      have := h (args.length - 1) _ (List.getElem?_eq_getElem (by omega))
      have := (List.getElem?_eq_some_iff.1 this).1
      omega
    rw [Nat.zero_add, List.drop_append_of_le_length (by rw [flat_len valV_len]; omega), flat_drop valV_len, flat_len valV_len, List.take_append_of_le_length (by rw [flat_len valV_len, List.length_drop]; omega), flat_take valV_len (by rw [List.length_drop]; omega), hsub]
theorem ArgW.push {hh : List TH} {th : Nat} {m : VM} {args : List V} {aa : Option Addr} {sx : Seg} (h : ArgW hh th m args aa sx) {t : Th} {g : TH} (ht : m.vs.threads[th]? = some t) (hg : hh[th]? = some g) {l : List V} {sa1 : Option Addr} {sc1 c : Nat} {old ss : Seg}
    (hss : Arr 42 3 g.sa t.stack.length c (t.stack.flatMap valV) ss) (hk : (sa1 = g.sa ∧ old = []) ∨ old = ss) : ArgW (hh.set th { g with sa := sa1, sc := sc1 }) th (setTh m th { t with stack := t.stack ++ l }) args aa (sx ++ old) := by
  rcases h with rfl | ⟨q, o, rfl, h⟩
  · exact .inl rfl
  · by_cases h0 : args = []
    · exact .inl h0
    rcases h with ⟨g', t', i0, hg', ht', hsa, ho, hj⟩ | h
    · rw [hg] at hg'; injection hg' with hg'; subst hg'
      rw [ht] at ht'; injection ht' with ht'; subst ht'
      refine .inr ⟨q, o, rfl, ?_⟩
      rcases hk with ⟨rfl, rfl⟩ | rfl
      · refine .inl ⟨{ g with sa := g.sa, sc := sc1 }, { t with stack := t.stack ++ l }, i0, List.getElem?_set_self (List.getElem?_eq_some_iff.1 hg).1, ?_, hsa, ho, fun j v hv => ?_⟩
        · show (m.vs.threads.set th _)[th]? = _
          exact List.getElem?_set_self (List.getElem?_eq_some_iff.1 ht).1
        · have := hj j v hv
          show (t.stack ++ l)[i0 + j]? = some v
          rw [List.getElem?_append_left (List.getElem?_eq_some_iff.1 this).1, this]
      · have hl : 0 < t.stack.length := by
          have : 0 < args.length := by cases args with | nil => exact absurd rfl h0 | cons _ _ => simp
          have := hj 0 _ (List.getElem?_eq_getElem this)
          have := (List.getElem?_eq_some_iff.1 this).1
          omega
        obtain ⟨q', sp, hq', _, _, rfl⟩ := hss.row hl
        rw [hsa] at hq'
        injection hq' with hq'
        injection hq' with hq'
        subst hq'
        rw [ho]
        exact .inr (Cells_wide2 (stack_cells hj))
    · exact .inr ⟨q, o, rfl, .inr (Cells_wide h)⟩
theorem ArgW.cells {b : VB} {ph : PH} {hh : List TH} {th : Nat} {m : VM} {args : List V} {aa : Option Addr} {sx seg : Seg} (h : ArgW hh th m args aa sx) (hM : isVM b ph hh m seg) : args = [] ∨ ∃ q o, aa = some ⟨q, o, none⟩ ∧ ∀ H : Hp, Cells (seg :: sx :: H) q o (args.flatMap valV) := by
  rcases h with h | ⟨q, o, rfl, h⟩
  · exact .inl h
  · by_cases h0 : args = []
    · exact .inl h0
    refine .inr ⟨q, o, rfl, fun H => ?_⟩
    rcases h with ⟨g, t, i0, hg, ht, hsa, rfl, hj⟩ | h
    · obtain ⟨na, nc, r, ss, sf, sn, s0, s2, c0, c2, rfl, hpre, hss, hsf, hsn, hput⟩ := hM.opnT ht hg
      have hl : 0 < t.stack.length := by
        have : 0 < args.length := by cases args with | nil => exact absurd rfl h0 | cons _ _ => simp
        have := hj 0 _ (List.getElem?_eq_getElem this)
        have := (List.getElem?_eq_some_iff.1 this).1
        omega
      obtain ⟨q', sp, hq', _, _, rfl⟩ := hss.row hl
      rw [hsa] at hq'
      injection hq' with hq'
      injection hq' with hq'
      subst hq'
      exact seg_cells (s := blk q 42 (t.stack.flatMap valV ++ sp)) (by simp) (stack_cells hj)
    · exact Cells.tail (seg_cells1 h)
theorem setTh_setTh {m : VM} {th : Nat} {s t : Th} : setTh (setTh m th s) th t = setTh m th t := by simp [setTh]
theorem setTh_get {m : VM} {th : Nat} {s t : Th} (h : m.vs.threads[th]? = some s) : (setTh m th t).vs.threads[th]? = some t := by
  show (m.vs.threads.set th t)[th]? = some t
  exact List.getElem?_set_self (List.getElem?_eq_some_iff.1 h).1
theorem setTh_self {m : VM} {th : Nat} {t : Th} (h : m.vs.threads[th]? = some t) : setTh m th t = m := by
  obtain ⟨h1, h2⟩ := List.getElem?_eq_some_iff.1 h
  unfold setTh
  rw [← h2, List.set_getElem_self]
theorem argw_at {H : Hp} {q o i : Nat} {l : List V} {v : V} (h : Cells H q o (l.flatMap valV)) (hv : l[i]? = some v) : Cells H q (o + ((i : Nat) : Int).toNat * 3) (valV v) := by
  refine Cells.sub h ?_
  obtain ⟨hi, he⟩ := List.getElem?_eq_some_iff.1 hv
  rw [Int.toNat_natCast, flat_drop valV_len, List.drop_eq_getElem_cons hi, he, List.flatMap_cons, List.take_left' rfl]
theorem _root_.Go.Sl.Src.empty {P : Program} {H : Hp} {k : Nat} {aa : Option Addr} : Src P H k (.slice aa 0 0) 0 [] :=
  ⟨by simp, fun w => by simp [Builtin.lenOf], fun r hr A h w ho hs => by
    obtain rfl : r = 0 := by omega
    cases aa <;> simp [Builtin.firstCells, loadCells, loadCellsFrom]⟩
theorem ArgW.src {b : VB} {ph : PH} {hh : List TH} {th : Nat} {m : VM} {args : List V} {aa : Option Addr} {sx seg : Seg} (h : ArgW hh th m args aa sx) (hM : isVM b ph hh m seg) {H : Hp} (hH : ∀ q o ws, (∀ H', Cells (seg :: sx :: H') q o ws) → Cells H q o ws) : Src Tryz.prog H 3 (.slice aa args.length args.length) args.length (args.flatMap valV) := by
  rcases h.cells hM with rfl | ⟨q, o, rfl, hc⟩
  · exact Src.empty
  · exact Src.slice (by rw [flat_len valV_len]) (hH q o _ hc)
theorem ArgW.own {hh : List TH} {th : Nat} {m : VM} {args : List V} {aa : Option Addr} {c : Nat} {sx : Seg} (h : Arr 42 3 aa args.length c (args.flatMap valV) sx) : ArgW hh th m args aa sx := by
  by_cases h0 : args = []
  · exact .inl h0
  · have hl : 0 < args.length := by cases args with | nil => exact absurd rfl h0 | cons _ _ => simp
    obtain ⟨q, sp, rfl, _, _, rfl⟩ := h.row hl
    refine .inr ⟨q, 0, rfl, .inr ?_⟩
    exact Cells.head (by rw [List.drop_zero, List.take_left' rfl])
/-- What Tabs.Next answers. -/
def NextSpec : Prop := ∀ (b nb : Nat) (ts : List Tb) (s : Seg) (_ : isTabs b nb ts s) (_ : ts.length ≤ 1000) (j : Nat) (_ : j < ts.length) (k : V) (_ : 0 ≤ k.n) (r : V × V × Int) (_ : nextM ts j k = some r), Go.Sl.Spec Tryz.prog 303 [pt b, I j, .agg (valV k).toArray] [s] (Ret fun v H => v = .tuple #[.agg (valV r.1).toArray, .agg (valV r.2.1).toArray, I r.2.2] ∧ ∃ s', isTabs b nb ts s' ∧ H = [s'])
def u0 : Unit → Value := fun _ => .tuple #[]
end Go.Wl
