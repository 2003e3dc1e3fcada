/- From the given memory to the walks, and back: the script and the three listed variables; the whole heap is kept. -/
import Derived.Test.Qxb6500573aGreatDoorAL
import Derived.Test.Qxb6500573aGreatDoorRows
import Derived.ChangeSame
import Derived.ChangeVars
import Derived.ChangeArms
import Derived.ChangeOld
import Derived.ReadAgain
import Derived.JoinedOf
import Derived.RowKit
import Derived.RowKitTokens
import Derived.LaidLaws
import Derived.LaidHandle
import Derived.MakeChecks
import Derived.Stop.Joined
namespace Go.Proofs.Qxb6500573aGreatDoor
open Go Go.Sl Go.Wl Go.ChangeShapes Go.WideShapes Go.RowKit
set_option linter.unusedSimpArgs false
set_option linter.unusedSectionVars false
set_option linter.unusedVariables false
set_option maxRecDepth 100000
theorem zOwn : ownKnob Tryz.prog.godebug = none := by kernel_rfl
theorem zG1 : Tryz.prog.globalNamed "e2e/syntax.keywords" = some 1 := by kernel_rfl
theorem zG2 : Tryz.prog.globalNamed "e2e/syntax.signs" = some 2 := by kernel_rfl
theorem zG3 : Tryz.prog.globalNamed "e2e/syntax.bindings" = some 3 := by kernel_rfl
theorem zT1 : (Tryz.prog.globals[1]?).map (·.type) = some 88 := by kernel_rfl
theorem zT2 : (Tryz.prog.globals[2]?).map (·.type) = some 88 := by kernel_rfl
theorem zT3 : (Tryz.prog.globals[3]?).map (·.type) = some 377 := by kernel_rfl
theorem zSize : Tryz.prog.types.size = 456 := by kernel_rfl
theorem zC29 : Tryz.prog.cellsOf 29 = 6 := by kernel_rfl
theorem zC376 : Tryz.prog.cellsOf 376 = 3 := by kernel_rfl
theorem zC3 : Tryz.prog.cellsOf 3 = 1 := by kernel_rfl
theorem zC40 : Tryz.prog.cellsOf 40 = 1 := by kernel_rfl
theorem zC9 : Tryz.prog.cellsOf 9 = 1 := by kernel_rfl
theorem zKids : Kids Tryz.prog (· < Tryz.prog.types.size) := kids_rows (by kernel_rfl) (by kernel_rfl)
theorem zFull : ∀ t e, t < Tryz.prog.types.size → Tryz.prog.underlying t = some (.slice e) → 0 < Tryz.prog.cellsOf e := slices_full_of _ (by kernel_rfl)
abbrev laid3 : List (String × DataW Unit) := [("e2e/syntax.keywords", Rows.laid_e2e_syntax_keywords), ("e2e/syntax.signs", Rows.laid_e2e_syntax_signs), ("e2e/syntax.bindings", Rows.laid_e2e_syntax_bindings)]
/-- All of a heap as one segment. -/
def allSeg (W : World) : Seg := W.heap.toList.zipIdx.map fun p => (p.2, p.1)
theorem allSeg_mem {W : World} {i : Nat} {x : Obj} : (i, x) ∈ allSeg W ↔ W.heap[i]? = some x := by
  unfold allSeg
  rw [List.mem_map]
  constructor
  · rintro ⟨⟨y, j⟩, hy, he⟩
    cases he
    have := List.mem_zipIdx_iff_getElem?.1 hy
    simpa using this
  · intro h
    exact ⟨(x, i), List.mem_zipIdx_iff_getElem?.2 (by simpa using h), rfl⟩
theorem allSeg_own (W : World) : Own W W (allSeg W) := by
  refine ⟨rfl, rfl, rfl, ?_, fun p hp => allSeg_mem.1 hp⟩
  unfold allSeg
  rw [List.map_map]
  have : (Prod.fst ∘ fun (p : Obj × Nat) => (p.2, p.1)) = Prod.snd := rfl
  rw [this, List.zipIdx_map_snd]
  exact List.nodup_range'
theorem cell_block {W : World} {b o : Nat} {v : Value} (h : W.cell? ⟨b, o, none⟩ = some v) : ∃ c T fz, W.heap[b]? = some (.cells c T fz) ∧ c[o]? = some v := by
  unfold World.cell? at h
  dsimp only at h
  cases hb : W.heap[b]? with
  | none => rw [hb] at h; cases h
  | some x =>
    rw [hb] at h
    cases x with
    | cells c T fz => exact ⟨c, T, fz, rfl, by simpa using h⟩
    | _ => cases h
theorem gcell {W : World} {b o : Nat} {v : Value} (h : W.cell? ⟨b, o, none⟩ = some v) : GCell (allSeg W) b o v := by
  obtain ⟨c, T, fz, h1, h2⟩ := cell_block h
  exact ⟨c, T, fz, allSeg_mem.2 h1, h2⟩
/-- A slice's address is plain where a cell of it is read. -/
theorem spot_none {W : World} {a : Addr} {v : Value} (h : W.cell? a = some v) : a.spot = none := by
  unfold World.cell? at h
  cases hsp : a.spot with
  | none => rfl
  | some x =>
    rw [hsp] at h
    revert h
    split <;> intro h <;> cases h
section
variable {W : World}
/-- A listed slice of strings. -/
theorem open_strs {fuel : Nat} {cs : List Value} {L : List (List UInt8)} {p : List MemPlace} (hL : L ≠ []) (h : DataW.trod (fun _ => ()) Tryz.prog W 0 (fun _ => true) false fuel 88 cs = some (.slice (L.map fun s => .lit (.string s)) [], p)) :
    ∃ b o c, cs = [.slice (some ⟨b, o, none⟩) L.length c] ∧ ∀ i (hi : i < L.length), W.cell? ⟨b, o + i, none⟩ = some (S L[i]) := by
  rcases DataW.trod_slice Tryz.underlying88 h with ⟨hc, hx⟩ | ⟨a, len, cap, elems, rest, n, rfl, hc, hx, _, hle, _, hel, hr, _, _⟩
  · cases hx
  · have hd : (DataW.slice (L.map fun s => .lit (.string s)) [] : DataW Unit) = .slice (elems.map (·.1)) (rest.map (·.1)) := congrArg Prod.fst hx
    injection hd with hd1 hd2
    have hlen : L.length = len := by have := congrArg List.length hd1; simp only [List.length_map] at this; omega
    have hone : ∀ i (hi : i < L.length), W.cell? (a.add i) = some (S L[i]) := by
      intro i hi
      have h1 := hr i (by omega)
      rw [zC9, Nat.mul_one] at h1
      have hei : elems[i]? = some elems[i] := List.getElem?_eq_getElem (by omega)
      rw [hei] at h1
      obtain ⟨ds, h2, h3⟩ := Option.bind_eq_some_iff.1 h1
      obtain ⟨s, rfl, h5, _⟩ := DataW.trod_string Tryz.underlying9 h3
      have h6 : (L.map fun s => (DataW.lit (.string s) : DataW Unit))[i]? = (elems.map (·.1))[i]? := by rw [hd1]
      rw [List.getElem?_map, List.getElem?_map, hei, List.getElem?_eq_getElem hi, h5] at h6
      have h7 : L[i] = s.data.toList := by
        injection h6 with h6
        injection h6 with h6
        injection h6
      obtain ⟨_, _, hci⟩ := World.cells?_some h2
      have := hci 0 (by decide)
      have e : (a.add i).add 0 = a.add i := rfl
      rw [e] at this
      rw [this, h7]
      rfl
    have h0 : 0 < L.length := List.length_pos_iff.2 hL
    have hsp : a.spot = none := by
      have := hone 0 h0
      exact spot_none (a := a.add 0) this
    obtain ⟨b, o, spot⟩ := a
    dsimp only at hsp
    subst hsp
    exact ⟨b, o, cap, by rw [hc, hlen], fun i hi => by
      have := hone i hi
      rwa [add_plain] at this⟩
/-- A listed slice of bindings. -/
theorem open_bind {fuel : Nat} {cs : List Value} {x y : Int} {z : Int} {p : List MemPlace} (h : DataW.trod (fun _ => ()) Tryz.prog W 0 (fun _ => true) false fuel 376 cs = some (.agg [.lit (.int .i64 x), .lit (.int .i64 y), .lit (.int .u64 z)], p)) :
    cs = [I x, I y, .int .u64 z] := by
  obtain ⟨xs, m, rfl, hy, hl, hxl, hf⟩ := DataW.trod_struct Tryz.underlying376 h
  rw [zC376] at hl
  match cs, hl with
  | [c0, c1, c2], _ =>
    match xs, hxl with
    | [x0, x1, x2], _ =>
      have f0 := hf 0 _ rfl
      have f1 := hf 1 _ rfl
      have f2 := hf 2 _ rfl
      simp only [zC3, zC40, List.drop_zero, List.take_succ_cons, List.take_zero, List.drop_succ_cons, List.getElem?_cons_zero, List.getElem?_cons_succ] at f0 f1 f2
      obtain ⟨n0, e0, v0, _⟩ := DataW.trod_int Tryz.underlying3 f0
      obtain ⟨n1, e1, v1, _⟩ := DataW.trod_int Tryz.underlying3 f1
      obtain ⟨n2, e2, v2, _⟩ := DataW.trod_int Tryz.underlying40 f2
      cases e0; cases e1; cases e2
      rw [v0, v1, v2] at hy
      have hd := congrArg Prod.fst hy
      dsimp only [List.map_cons, List.map_nil] at hd
      cases hd
      rfl
theorem open_binds {fuel : Nat} {cs : List Value} {L : List (Int × Int × Int)} {p : List MemPlace} (hL : L ≠ []) (h : DataW.trod (fun _ => ()) Tryz.prog W 0 (fun _ => true) false fuel 377 cs = some (.slice (L.map fun x => .agg [.lit (.int .i64 x.1), .lit (.int .i64 x.2.1), .lit (.int .u64 x.2.2)]) [], p)) :
    ∃ b o c, cs = [.slice (some ⟨b, o, none⟩) L.length c] ∧ ∀ i (hi : i < L.length), ∀ q v, ([I L[i].1, I L[i].2.1, .int .u64 L[i].2.2] : List Value)[q]? = some v → W.cell? ⟨b, o + i * 3 + q, none⟩ = some v := by
  rcases DataW.trod_slice Tryz.underlying377 h with ⟨hc, hx⟩ | ⟨a, len, cap, elems, rest, n, rfl, hc, hx, _, hle, _, hel, hr, _, _⟩
  · cases hx
  · have hd : (DataW.slice (L.map fun x => .agg [.lit (.int .i64 x.1), .lit (.int .i64 x.2.1), .lit (.int .u64 x.2.2)]) [] : DataW Unit) = .slice (elems.map (·.1)) (rest.map (·.1)) := congrArg Prod.fst hx
    injection hd with hd1 hd2
    have hlen : L.length = len := by have := congrArg List.length hd1; simp only [List.length_map] at this; omega
    have hone : ∀ i (hi : i < L.length), W.cells? 0 (a.add (i * 3)) 3 = some [I L[i].1, I L[i].2.1, .int .u64 L[i].2.2] := by
      intro i hi
      have h1 := hr i (by omega)
      rw [zC376] at h1
      have hei : elems[i]? = some elems[i] := List.getElem?_eq_getElem (by omega)
      rw [hei] at h1
      obtain ⟨ds, h2, h3⟩ := Option.bind_eq_some_iff.1 h1
      have h6 : (L.map fun x => (DataW.agg [.lit (.int .i64 x.1), .lit (.int .i64 x.2.1), .lit (.int .u64 x.2.2)] : DataW Unit))[i]? = (elems.map (·.1))[i]? := by rw [hd1]
      rw [List.getElem?_map, List.getElem?_map, hei, List.getElem?_eq_getElem hi] at h6
      have h7 : (DataW.agg [.lit (.int .i64 L[i].1), .lit (.int .i64 L[i].2.1), .lit (.int .u64 L[i].2.2)] : DataW Unit) = elems[i].1 := Option.some.inj h6
      have h8 : elems[i] = (DataW.agg [.lit (.int .i64 L[i].1), .lit (.int .i64 L[i].2.1), .lit (.int .u64 L[i].2.2)], elems[i].2) := Prod.ext h7.symm rfl
      rw [h8] at h3
      rw [h2, open_bind h3]
    have h0 : 0 < L.length := List.length_pos_iff.2 hL
    have hsp : a.spot = none := by
      obtain ⟨_, _, hc0⟩ := World.cells?_some (hone 0 h0)
      exact spot_none (a := (a.add (0 * 3)).add 0) ((hc0 0 (by decide)).trans rfl)
    obtain ⟨b, o, spot⟩ := a
    dsimp only at hsp
    subst hsp
    refine ⟨b, o, cap, by rw [hc, hlen], fun i hi q v hq => ?_⟩
    obtain ⟨_, _, hci⟩ := World.cells?_some (hone i hi)
    have hql := (List.getElem?_eq_some_iff.1 hq).1
    have := hci q (by simpa using hql)
    rw [add_plain, add_plain] at this
    rw [this]; exact hq
theorem laid_kw : (Rows.laid_e2e_syntax_keywords : DataW Unit) = .slice (kwL.map fun s => .lit (.string s)) [] := rfl
theorem laid_sg : (Rows.laid_e2e_syntax_signs : DataW Unit) = .slice (sgL.map fun s => .lit (.string s)) [] := rfl
theorem laid_bd : (Rows.laid_e2e_syntax_bindings : DataW Unit) = .slice (bindsL.map fun x => .agg [.lit (.int .i64 x.1), .lit (.int .i64 x.2.1), .lit (.int .u64 x.2.2)]) [] := rfl
/-- What the condition gives. -/
theorem of_laid (h : laidMetH Tryz.prog laid3 W) : GOk (allSeg W) := by
  rw [MakeChecks.laidMetH_plain _ _ _ (by kernel_rfl)] at h
  obtain ⟨ps, ⟨g1, t1, cs1, f1, p1, q1, a1, b1, c1, d1, ⟨g2, t2, cs2, f2, p2, q2, a2, b2, c2, d2, ⟨g3, t3, cs3, f3, p3, q3, a3, b3, c3, d3, _, _⟩, _⟩, _⟩, _, _⟩ := h
  obtain rfl := Option.some.inj (zG1.symm.trans a1)
  obtain rfl := Option.some.inj (zG2.symm.trans a2)
  obtain rfl := Option.some.inj (zG3.symm.trans a3)
  obtain rfl := Option.some.inj (zT1.symm.trans b1)
  obtain rfl := Option.some.inj (zT2.symm.trans b2)
  obtain rfl := Option.some.inj (zT3.symm.trans b3)
  have hcell : ∀ {n : String} {g : Nat} {cs : Array Value} {v : Value} (_ : Tryz.prog.globalNamed n = some g) (_ : W.var? Tryz.prog n = some cs) (_ : cs.toList = [v]), W.cell? ⟨g, 0, none⟩ = some v := by
    intro n g cs v hg hv hl
    rw [World.var?_cell hg hv 0, ← Array.getElem?_toList, hl]; rfl
  rw [laid_kw] at d1
  rw [laid_sg] at d2
  rw [laid_bd] at d3
  obtain ⟨b1, o1, k1, e1, z1⟩ := open_strs (by decide) d1
  obtain ⟨b2, o2, k2, e2, z2⟩ := open_strs (by decide) d2
  obtain ⟨b3, o3, k3, e3, z3⟩ := open_binds (by decide) d3
  refine ⟨⟨b1, o1, k1, gcell (hcell zG1 c1 e1), fun i hi => gcell (z1 i hi)⟩, ⟨b2, o2, k2, gcell (hcell zG2 c2 e2), fun i hi => gcell (z2 i hi)⟩, ⟨b3, o3, k3, gcell (hcell zG3 c3 e3), fun i hi => ?_⟩⟩
  obtain ⟨c, T, fz, h3, _⟩ := cell_block (z3 i hi 0 _ rfl)
  refine ⟨c, T, fz, allSeg_mem.2 h3, fun q v hq => ?_⟩
  obtain ⟨c', T', fz', h4, h5⟩ := cell_block (z3 i hi q v hq)
  rw [h3] at h4; cases h4
  exact h5
end
end Go.Proofs.Qxb6500573aGreatDoor
