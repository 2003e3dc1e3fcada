/- Results in cells. -/
import Derived.Test.Qxb6500573aGreatDoorSlAp
namespace Go.Sl
open Go Go.Proofs
section
variable {P : Program} {ρ : Env} {H : Hp}
/-- Two structs that lie in memory. -/
theorem Res2C {fn : Func} {t u : Nat} {T U : TypeId} {b c k l : Nat} {vs xs : List Value} (h : fn.results = #[.cell t T, .cell u U]) (hv : look ρ t = some (.pointer (some ⟨b, 0, none⟩))) (hx : look ρ u = some (.pointer (some ⟨c, 0, none⟩))) (ha : ∀ w, (isAgg T).run P w = .ok true w) (hb : ∀ w, (isAgg U).run P w = .ok true w) (hz : ∀ w, (sizeOf T).run P w = .ok k w) (hy : ∀ w, (sizeOf U).run P w = .ok l w)
    (hl : vs.length = k) (hm : xs.length = l) (hc : Cells H b 0 vs) (hd : Cells H c 0 xs) : Res P fn ρ H (.tuple #[.agg vs.toArray, .agg xs.toArray]) := fun _ _ a _ _ w hf ho hs => by
  have h1 := run_loadCellsFrom (P := P) (b := b) (o := 0) k 0 vs #[] hl (fun j v hj => by simpa using hc.at ho hs j v hj)
  have h4 := run_loadCellsFrom (P := P) (b := c) (o := 0) l 0 xs #[] hm (fun j v hj => by simpa using hd.at ho hs j v hj)
  have h2 := hf.getD hv
  have h3 := hf.getD hx
  simp only [Array.getD_eq_getD_getElem?] at h2 h3
  simp [results, h, h2, h3, asAddr, loadVar, ha, hb, hz, hy, loadCells, h1, h4]
/-- A struct and a value, both in memory. -/
theorem ResAC {fn : Func} {t u : Nat} {T U : TypeId} {b c k : Nat} {vs : List Value} {x : Value} (h : fn.results = #[.cell t T, .cell u U]) (hv : look ρ t = some (.pointer (some ⟨b, 0, none⟩))) (hx : look ρ u = some (.pointer (some ⟨c, 0, none⟩))) (ha : ∀ w, (isAgg T).run P w = .ok true w) (hb : ∀ w, (isAgg U).run P w = .ok false w) (hz : ∀ w, (sizeOf T).run P w = .ok k w)
    (hl : vs.length = k) (hc : Cells H b 0 vs) (hd : Cell H c 0 x) : Res P fn ρ H (.tuple #[.agg vs.toArray, x]) := fun _ _ a _ _ w hf ho hs => by
  have h1 := run_loadCellsFrom (P := P) (b := b) (o := 0) k 0 vs #[] hl (fun j v hj => by simpa using hc.at ho hs j v hj)
  have h4 := hd.at ho hs
  have h2 := hf.getD hv
  have h3 := hf.getD hx
  simp only [Array.getD_eq_getD_getElem?] at h2 h3
  simp [results, h, h2, h3, asAddr, loadVar, ha, hb, hz, loadCells, h1, h4]
end
end Go.Sl
