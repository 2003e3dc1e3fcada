/- From the given memory to the walks, and back: the script lies in a slice of structs; the whole heap is kept. -/
import Derived.Test.Qxb6500572aGreatDoorPlainV
import Derived.Test.Qxb6500572aGreatDoorRows
import Derived.ChangeSame
import Derived.ChangeVars
import Derived.ChangeArms
import Derived.ChangeOld
import Derived.ReadAgain
import Derived.JoinedOf
import Derived.RowKit
import Derived.RowKitTokens
import Derived.LaidLaws
import Derived.LaidHandle
import Derived.Stop.Joined
namespace Go.Proofs.Qxb6500572aGreatDoor
open Go Go.Sl Go.Wl Go.ChangeShapes Go.WideShapes Go.RowKit

theorem zOwn : ownKnob Tryz.prog.godebug = none := by kernel_rfl
theorem zEt : Tryz.prog.globalNamed "errors.errorType" = some 0 := by kernel_rfl
def rtName : String := match (Rows.laid_errors_errorType : DataW Unit) with
  | .iface n _ => n
  | _ => ""
theorem zRt : (Tryz.prog.cutTypes.find? (·.1 == rtName)).map (·.2) = some 239 := by kernel_rfl
set_option maxRecDepth 100000 in
theorem zOneRow : ((List.range 320).filter fun t => Tryz.prog.rowNamed t [101, 114, 114, 111, 114]) = [39] := by kernel_rfl
theorem zSize : Tryz.prog.types.size = 320 := by kernel_rfl
theorem zC43 : Tryz.prog.cellsOf 43 = 6 := by kernel_rfl
theorem zC3 : Tryz.prog.cellsOf 3 = 1 := by kernel_rfl
theorem zC9 : Tryz.prog.cellsOf 9 = 1 := by kernel_rfl
theorem zKids : Kids Tryz.prog (· < Tryz.prog.types.size) := kids_rows (by kernel_rfl) (by kernel_rfl)
theorem zFull : ∀ t e, t < Tryz.prog.types.size → Tryz.prog.underlying t = some (.slice e) → 0 < Tryz.prog.cellsOf e := slices_full_of _ (by kernel_rfl)

/-- What the condition gives: the variable's one cell. -/
theorem handle_of_laid {W : World} (h : laidMetH Tryz.prog [("errors.errorType", Rows.laid_errors_errorType)] W) : W.cell? ⟨0, 0, none⟩ = some (rt 39) := by
  have h' : laidMet Tryz.prog [] W ∧ handlesMet Tryz.prog [("errors.errorType", Rows.laid_errors_errorType)] W := h
  obtain ⟨name, u, ty, e1, e2, e3, e4, e5⟩ := h'.2 _ (List.mem_singleton.2 rfl)
  have en : name = [101, 114, 114, 111, 114] := (Option.some.inj e1).symm
  subst en
  obtain rfl := Option.some.inj (zRt.symm.trans e2)
  have hm : ty ∈ (List.range 320).filter fun t => Tryz.prog.rowNamed t [101, 114, 114, 111, 114] := List.mem_filter.2 ⟨List.mem_range.2 (by rw [← zSize]; exact e3), e4⟩
  rw [zOneRow] at hm
  obtain rfl := List.mem_singleton.1 hm
  have hh : typeHandle Tryz.prog 39 = .pointer (some ⟨1, 39, none⟩) := by kernel_rfl
  rw [hh] at e5
  have := World.var?_cell zEt e5 0
  unfold rt
  simpa using this

/-- All of a heap as one segment. -/
def allSeg (W : World) : Seg := W.heap.toList.zipIdx.map fun p => (p.2, p.1)
theorem allSeg_mem {W : World} {i : Nat} {x : Obj} : (i, x) ∈ allSeg W ↔ W.heap[i]? = some x := by
  unfold allSeg
  rw [List.mem_map]
  constructor
  · rintro ⟨⟨y, j⟩, hy, he⟩
    cases he
    have := List.mem_zipIdx_iff_getElem?.1 hy
    simpa using this
  · intro h
    exact ⟨(x, i), List.mem_zipIdx_iff_getElem?.2 (by simpa using h), rfl⟩
theorem allSeg_own (W : World) : Own W W (allSeg W) := by
  refine ⟨rfl, rfl, rfl, ?_, fun p hp => allSeg_mem.1 hp⟩
  unfold allSeg
  rw [List.map_map]
  have : (Prod.fst ∘ fun (p : Obj × Nat) => (p.2, p.1)) = Prod.snd := rfl
  rw [this, List.zipIdx_map_snd]
  exact List.nodup_range'
/-- The script, by cells. -/
def Lies (W : World) (sa : Option Addr) (script : List Op1) : Prop := ∀ (i : Nat) (hi : i < script.length), ∃ b o, sa = some ⟨b, o, none⟩ ∧ ∀ q v, (opV script[i])[q]? = some v → W.cell? ⟨b, o + i * 6 + q, none⟩ = some v
theorem cell_block {W : World} {b o : Nat} {v : Value} (h : W.cell? ⟨b, o, none⟩ = some v) : ∃ c T fz, W.heap[b]? = some (.cells c T fz) ∧ c[o]? = some v := by
  unfold World.cell? at h
  dsimp only at h
  cases hb : W.heap[b]? with
  | none => rw [hb] at h; cases h
  | some x =>
    rw [hb] at h
    cases x with
    | cells c T fz => exact ⟨c, T, fz, rfl, by simpa using h⟩
    | _ => cases h
theorem keeps_calls (W : World) (sa : Option Addr) (sc : Nat) (script : List Op1) (hs : Lies W sa script) (hop : ∀ o, o ∈ script → OpOk o) (hg : W.cell? ⟨0, 0, none⟩ = some (rt 39)) :
    Calls Tryz.prog 5 #[.slice sa script.length sc] W fun e W' => e = .returned (.bool true) ∧ W'.os = W.os ∧ W'.output = W.output ∧ ∀ i : Nat, i < W.heap.size → W'.heap[i]? = W.heap[i]? := by
  have hso : ScriptAt sa script (allSeg W) := by
    intro i hi
    obtain ⟨b, o, h1, h2⟩ := hs i hi
    refine ⟨b, o, h1, fun H => ?_⟩
    obtain ⟨c, T, fz, h3, _⟩ := cell_block (h2 0 _ rfl)
    refine ⟨c, T, fz, by simp [Has, allSeg_mem, h3], fun q v hq => ?_⟩
    obtain ⟨c', T', fz', h4, h5⟩ := cell_block (h2 q v hq)
    rw [h3] at h4; cases h4
    exact h5
  have hG : isG (allSeg W) := by
    obtain ⟨c, T, fz, h3, h4⟩ := cell_block hg
    exact ⟨c, T, fz, allSeg_mem.2 h3, h4⟩
  have h := keeps_true sa sc script (allSeg W) hso hop hG W [] W (by simpa using allSeg_own W)
  refine h.mono fun e W' hx => ?_
  obtain ⟨H', h1, h2⟩ := hx
  cases e with
  | returned v =>
    obtain ⟨rfl, rfl⟩ := h1
    refine ⟨rfl, h2.os, h2.out, fun i hi => ?_⟩
    have hgi : W.heap[i]? = some W.heap[i] := Array.getElem?_eq_getElem hi
    rw [hgi]
    exact h2.has (i, W.heap[i]) (by simp [allSeg_mem, hgi])
  | _ => exact h1.elim
end Go.Proofs.Qxb6500572aGreatDoor
