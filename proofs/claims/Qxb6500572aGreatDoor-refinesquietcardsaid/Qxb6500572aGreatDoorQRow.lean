/- The row of towerlaw.RefinesQuiet. -/
import Derived.Test.Qxb6500572aGreatDoorKRowB
import Derived.Test.Qxb6500572aGreatDoorNW
namespace Go.Proofs.Qxb6500572aGreatDoor
open Go Go.Sl Go.Wl Go.ChangeShapes Go.WideShapes Go.RowKit
set_option linter.unusedSimpArgs false
theorem refinesQuiet_calls (W : World) (sa : Option Addr) (sc : Nat) (script : List Op1) (hs : Lies W sa script) (hop : ∀ o, o ∈ script → OpOk o) (hg : W.cell? ⟨0, 0, none⟩ = some (rt 39)) :
    Calls Tryz.prog 4 #[.slice sa script.length sc] W fun e W' => e = .returned (.bool true) ∧ W'.os = W.os ∧ W'.output = W.output ∧ ∀ i : Nat, i < W.heap.size → W'.heap[i]? = W.heap[i]? := by
  have hso : ScriptAt sa script (allSeg W) := by
    intro i hi
    obtain ⟨b, o, h1, h2⟩ := hs i hi
    refine ⟨b, o, h1, fun H => ?_⟩
    obtain ⟨c, T, fz, h3, _⟩ := cell_block (h2 0 _ rfl)
    refine ⟨c, T, fz, by simp [Has, allSeg_mem, h3], fun q v hq => ?_⟩
    obtain ⟨c', T', fz', h4, h5⟩ := cell_block (h2 q v hq)
    rw [h3] at h4; cases h4
    exact h5
  have hG : isG (allSeg W) := by
    obtain ⟨c, T, fz, h3, h4⟩ := cell_block hg
    exact ⟨c, T, fz, allSeg_mem.2 h3, h4⟩
  have h := refinesQuiet_true sa sc script (allSeg W) hso hop hG W [] W (by simpa using allSeg_own W)
  refine h.mono fun e W' hx => ?_
  obtain ⟨H', h1, h2⟩ := hx
  cases e with
  | returned v =>
    obtain ⟨rfl, rfl⟩ := h1
    refine ⟨rfl, h2.os, h2.out, fun i hi => ?_⟩
    have hgi : W.heap[i]? = some W.heap[i] := Array.getElem?_eq_getElem hi
    rw [hgi]
    exact h2.has (i, W.heap[i]) (by simp [allSeg_mem, hgi])
  | _ => exact h1.elim
set_option maxRecDepth 100000 in
theorem refinesQuiet_lifted (os : Os) (started : os.Started) (H : Type) (enc : TypeId × Value → H) :
    ReturnsInHanded {} Tryz.checked os 4 .any (fun w args => (Rows.refinesQuietSpec.pre enc Tryz.prog Tryz.f4 [] false w args ∧ laidMetH Tryz.prog [("errors.errorType", Rows.laid_errors_errorType)] w) ∧ sizedMet enc Tryz.prog Tryz.f4 (OpenSpec.ofChange Rows.refinesQuietSpec) false w args)
      (Rows.refinesQuietSpec.post enc Tryz.prog Tryz.f4 false true false false) := by
  refine returnsInHanded_of_change_and (C := Tryz.checked) (X := fun w _ => laidMetH Tryz.prog [("errors.errorType", Rows.laid_errors_errorType)] w) (fun _ _ _ hh h => h.of_heap hh) zOwn started (by kernel_rfl) Tryz.func4
    (ChangeSpec.witness_at (enc := enc) (C := Tryz.checked) (os := os) (X := fun w _ => laidMetH Tryz.prog [("errors.errorType", Rows.laid_errors_errorType)] w) false (laidWorld Tryz.prog os) #[.slice none 0 0] 8 rfl (by kernel_rfl) (by kernel_rfl) (by kernel_rfl) (by kernel_rfl) (by kernel_rfl) (laidWorld_met os _)) ?_
  intro W base args ds gs before hval0 hW _ hwt hL _
  have hval : ∀ (j : Nat) t v, Tryz.f4.params[j]? = some t → args[j]? = some v → Value.okWide Tryz.prog W .any base t v := hval0
  have hW' := hW
  obtain ⟨p, q, hA0, hV0, rfl, hfz, hnd⟩ := hW
  have hA : DataW.TrodAll enc Tryz.prog W 0 (fun _ => true) true Tryz.f4.params.toList args.toList ds p := hA0
  have hV : DataW.TrodVars enc Tryz.prog W (fun _ => true) [] gs q := hV0
  have hA' := hA
  rw [Tryz.params4] at hA hval
  obtain ⟨v0, d0, rfl, rfl, h0⟩ := trodAll_one hA
  obtain ⟨rfl, rfl⟩ := trodVars_none hV
  have hw0 : (d0.weights Tryz.prog 22).all (· ≤ reachBytes) = true := by
    have : (DataW.weightsEach Tryz.prog ([22] ++ []) ([d0] ++ [])).all (· ≤ reachBytes) = true := hwt
    simpa [DataW.weightsEach] using this
  obtain ⟨sa, sc, script, hv, hs, hop⟩ := open_script (okWide_slice Tryz.underlying22 (hval 0 22 v0 rfl rfl)) h0 hw0
  subst hv
  have e1 : Rows.refinesQuietSpec.fn H ([d0] ++ []) = { results := [.lit (.bool true)], args := [d0] } := by simp [Rows.refinesQuietSpec]
  refine (refinesQuiet_calls W sa sc script hs hop (handle_of_laid hL)).mono fun e W' hx => ?_
  obtain ⟨rfl, ho, hout, hk⟩ := hx
  have hlt : ∀ x ∈ p, x.block < W.heap.size := fun x hx => DataW.TrodAll.lt hA' x hx
  have hsame : ∀ x ∈ p, W.sameAt W' x := fun x hx => by
    have := hk x.block (hlt x hx)
    cases x with
    | cell b o => show W'.cell? ⟨b, o, none⟩ = W.cell? ⟨b, o, none⟩; unfold World.cell?; dsimp only; rw [show W'.heap[b]? = W.heap[b]? from this]
    | map b => exact this
  have hAW : DataW.Trod enc Tryz.prog W' 0 (fun _ => true) true 22 (.slice sa script.length sc) d0 p := by
    obtain ⟨n, hn⟩ := h0
    exact ⟨n, DataW.trod_carry n _ _ _ hn hsame⟩
  refine ⟨_, rfl, [d0], [], p ++ [], [], p, [], hW', ?_, ?_, ?_, ⟨ho, hout, fun i hi => ?_⟩, fun h => by cases h⟩
  · rw [e1]; exact trodAll_mk1 (shut_bool Tryz.underlying4 true)
  · rw [e1]
    exact trodAll_mk1 (hAW.respare zKids zFull (by rw [zSize]; decide) (fun x hx => by simpa using hlt x hx))
  · rw [e1]; rfl
  · have := hk i hi
    rw [this]
    cases W.heap[i]? with
    | none => rfl
    | some x => cases x with
      | cells c t fr => exact ⟨rfl, rfl, rfl, fun _ _ => rfl⟩
      | map es cl => exact .inr ⟨rfl, rfl⟩
      | _ => rfl
theorem refinesQuiet_holds : Rows.RefinesQuietSaid :=
  OpenClaim.holds_of_wide 4 Tryz.f4 rfl rfl rfl rfl rfl rfl rfl ⟨rfl, rfl, rfl, rfl, rfl⟩ rfl rfl rfl rfl rfl (by kernel_rfl) Tryz.func4 (by kernel_rfl)
    (of_decide_eq_true (by kernel_rfl)) (by unfold Func.isWrapper; rw [if_neg (of_decide_eq_false (by kernel_rfl))]; exact ⟨rfl, rfl⟩)
    (fun os started H enc _ => refinesQuiet_lifted os started H enc)
end Go.Proofs.Qxb6500572aGreatDoor
