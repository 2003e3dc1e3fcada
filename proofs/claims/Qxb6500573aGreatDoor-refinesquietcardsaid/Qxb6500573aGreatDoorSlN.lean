/- Contracts framed and weakened; results of two kinds. -/
import Derived.Test.Qxb6500573aGreatDoorSlM
namespace Go.Sl
open Go

section
variable {P : Program} {n : Nat} {Q : Post} {D : Defs} {ρ : Env} {H : Hp} {ty : TypeId}

theorem Spec_post {f : FuncId} {args : List Value} {R R' : Ending → Hp → Prop} (h : Spec P f args H R) (imq : ∀ e H', R e H' → ∃ H'' rest, R' e H'' ∧ Part H' H'' rest) : Spec P f args H R' :=
  fun A F w ho => (h A F w ho).mono fun e w' ⟨H', h1, h2⟩ => by
    obtain ⟨H'', rest, h3, h4⟩ := imq e H' h1
    exact ⟨H'', h3, h4.drop h2⟩
theorem Spec_pre {f : FuncId} {args : List Value} {R : Ending → Hp → Prop} {pre rest : Hp} (hp : Part H pre rest) (h : Spec P f args (pre ++ rest) R) : Spec P f args H R :=
  fun A F w ho => h A F w (by
    have := hp.own ho
    rw [List.flatten_append, List.append_assoc]; exact this)
theorem Spec_frame {f : FuncId} {args : List Value} {R : Value → Hp → Prop} {pre rest : Hp} (h : Spec P f args pre (Ret R)) (hp : Part H pre rest) {R' : Value → Hp → Prop} (imq : ∀ v post, R v post → ∃ H'' rest', R' v H'' ∧ Part (post ++ rest) H'' rest') :
    Spec P f args H (Ret R') :=
  fun A F w ho => (h A (rest.flatten ++ F) w (hp.own ho)).mono fun e w' ⟨H', h1, h2⟩ => by
    have h2' : Own A w' ((H' ++ rest).flatten ++ F) := by rw [List.flatten_append, List.append_assoc]; exact h2
    cases e with
    | returned v =>
      obtain ⟨H'', rest', h3, h4⟩ := imq v H' h1
      exact ⟨H'', h3, h4.drop h2'⟩
    | panicked c => exact h1.elim
    | outgrown => exact h1.elim
/-- A struct that lies in memory, and a value. -/
theorem ResCT {fn : Func} {t u : Nat} {T : TypeId} {b k : Nat} {vs : List Value} {x : Value} (h : fn.results = #[.cell t T, .tmp u]) (hv : look ρ t = some (.pointer (some ⟨b, 0, none⟩))) (hx : look ρ u = some x) (ha : ∀ w, (isAgg T).run P w = .ok true w) (hz : ∀ w, (sizeOf T).run P w = .ok k w)
    (hl : vs.length = k) (hc : Cells H b 0 vs) : Res P fn ρ H (.tuple #[.agg vs.toArray, x]) := fun _ _ a _ _ w hf ho hs => by
  have h1 := run_loadCellsFrom (P := P) (b := b) (o := 0) k 0 vs #[] hl (fun j v hj => by simpa using hc.at ho hs j v hj)
  have h2 := hf.getD hv
  have h3 := hf.getD hx
  simp only [Array.getD_eq_getD_getElem?] at h2 h3
  simp [results, h, h2, h3, asAddr, loadVar, ha, hz, loadCells, h1]
end
end Go.Sl
