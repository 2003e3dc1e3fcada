/- The law RefinesQuiet: the input opened. -/
import Derived.Test.Qxb6500573aGreatDoorQRowB
namespace Go.Proofs.Qxb6500573aGreatDoor
open Go Go.Sl Go.Wl Go.Nm Go.ChangeShapes Go.WideShapes Go.RowKit
set_option linter.unusedVariables false
set_option linter.unusedSimpArgs false
variable {H : Type} {enc : TypeId × Value → H} {W : World}
set_option maxRecDepth 100000 in
theorem refinesQuiet_lifted (os : Os) (started : os.Started) (H : Type) (enc : TypeId × Value → H) :
    ReturnsInHanded {} Tryz.checked os 4 .any (fun w args => (Rows.refinesQuietSpec.pre enc Tryz.prog Tryz.f4 [] false w args ∧ laidMetH Tryz.prog laid3 w) ∧ sizedMet enc Tryz.prog Tryz.f4 (OpenSpec.ofChange Rows.refinesQuietSpec) false w args)
      (Rows.refinesQuietSpec.post enc Tryz.prog Tryz.f4 false true false false) := by
  refine returnsInHanded_of_change_and (C := Tryz.checked) (X := fun w _ => laidMetH Tryz.prog laid3 w) (fun _ _ _ hh h => h.of_heap hh) zOwn started (by kernel_rfl) Tryz.func4
    (ChangeSpec.witness_shaped (enc := enc) (C := Tryz.checked) (os := os) (X := fun w _ => laidMetH Tryz.prog laid3 w) false (World.laidAll Tryz.prog os laid3) #[.slice none 0 0] 8 (World.laidAll_os _ _ _) (laid_shaped os) (by kernel_rfl) (by kernel_rfl) (by kernel_rfl) (laid_met os _)) ?_
  intro W base args ds gs before hval0 hW _ _ hL _
  have hval : ∀ (j : Nat) t v, Tryz.f4.params[j]? = some t → args[j]? = some v → Value.okWide Tryz.prog W .any base t v := hval0
  have hW' := hW
  obtain ⟨p, q, hA0, hV0, rfl, hfz, hnd⟩ := hW
  have hA : DataW.TrodAll enc Tryz.prog W 0 (fun _ => true) true Tryz.f4.params.toList args.toList ds p := hA0
  have hV : DataW.TrodVars enc Tryz.prog W (fun _ => true) [] gs q := hV0
  have hA' := hA
  rw [Tryz.params4] at hA hval
  obtain ⟨v0, d0, rfl, rfl, h0⟩ := trodAll_one hA
  obtain ⟨rfl, rfl⟩ := trodVars_none hV
  obtain ⟨sa, sc, script, hv, hs, hops⟩ := open_scriptK (okWide_slice Tryz.underlying22 (hval 0 22 v0 rfl rfl)) h0
  subst hv
  have e1 : Rows.refinesQuietSpec.fn H ([d0] ++ []) = { results := [.lit (.bool true)], args := [d0] } := by simp [Rows.refinesQuietSpec]
  refine (refinesQuiet_calls W sa sc script hs hops (of_laid hL)).mono fun e W' hx => ?_
  obtain ⟨rfl, ho, hout, hk⟩ := hx
  have hlt : ∀ x ∈ p, x.block < W.heap.size := fun x hx => DataW.TrodAll.lt hA' x hx
  have hsame : ∀ x ∈ p, W.sameAt W' x := fun x hx => by
    have := hk x.block (hlt x hx)
    cases x with
    | cell b o => show W'.cell? ⟨b, o, none⟩ = W.cell? ⟨b, o, none⟩; unfold World.cell?; dsimp only; rw [show W'.heap[b]? = W.heap[b]? from this]
    | map b => exact this
  have hAW : DataW.Trod enc Tryz.prog W' 0 (fun _ => true) true 22 (.slice sa script.length sc) d0 p := by
    obtain ⟨n, hn⟩ := h0
    exact ⟨n, DataW.trod_carry n _ _ _ hn hsame⟩
  refine ⟨_, rfl, [d0], [], p ++ [], [], p, [], hW', ?_, ?_, ?_, ⟨ho, hout, fun i hi => ?_⟩, fun h => by cases h⟩
  · rw [e1]; exact trodAll_mk1 (shut_bool Tryz.underlying4 true)
  · rw [e1]
    exact trodAll_mk1 (hAW.respare zKids zFull (by rw [zSize]; decide) (fun x hx => by simpa using hlt x hx))
  · rw [e1]; rfl
  · have := hk i hi
    rw [this]
    cases W.heap[i]? with
    | none => rfl
    | some x => cases x with
      | cells c t fr => exact ⟨rfl, rfl, rfl, fun _ _ => rfl⟩
      | map es cl => exact .inr ⟨rfl, rfl⟩
      | _ => rfl
end Go.Proofs.Qxb6500573aGreatDoor
