/- The input's data, opened. -/
import Derived.Test.Qxb6500573aGreatDoorKRowB
import Derived.Test.Qxb6500573aGreatDoorSRowW
namespace Go.Proofs.Qxb6500573aGreatDoor
open Go Go.Sl Go.Wl Go.ChangeShapes Go.WideShapes Go.RowKit
set_option linter.unusedSimpArgs false
theorem i64_of_wfK {n : Int} (h : (Lit.int .i64 n).wf = true) : i64r n := by
  unfold Lit.wf at h
  rw [Bool.and_eq_true] at h
  exact ⟨of_decide_eq_true h.1, of_decide_eq_true h.2⟩
variable {H : Type} {enc : TypeId × Value → H} {W : World}
theorem choose_listK {α : Type} {Q : Nat → α → Prop} : ∀ n : Nat, (∀ i, i < n → ∃ o, Q i o) → ∃ l : List α, l.length = n ∧ ∀ (i : Nat) (hi : i < l.length), Q i l[i]
  | 0, _ => ⟨[], rfl, fun i hi => by simp at hi⟩
  | n + 1, h => by
    obtain ⟨l, h1, h2⟩ := choose_listK n (fun i hi => h i (by omega))
    obtain ⟨o, ho⟩ := h n (by omega)
    refine ⟨l ++ [o], by simp [h1], fun i hi => ?_⟩
    by_cases e : i < l.length
    · rw [List.getElem_append_left e]; exact h2 i e
    · have : i = l.length := by simp at hi; omega
      subst this
      rw [List.getElem_append_right (Nat.le_refl _)]
      simp only [Nat.sub_self, List.getElem_cons_zero]
      rw [h1]; exact ho
set_option maxRecDepth 100000 in
theorem open_opK {sp : Nat → Bool} {n : Nat} {cs : List Value} {y : DataW H × List MemPlace} (h : DataW.trod enc Tryz.prog W 0 sp true n 29 cs = some y) : ∃ o : Op1, cs = opV o ∧ OpOk o := by
  obtain ⟨xs, m, rfl, hy, hl, hxl, hf⟩ := DataW.trod_struct Tryz.underlying29 h
  rw [zC29] at hl
  match cs, hl with
  | [c0, c1, c2, c3, c4, c5], _ =>
    match xs, hxl with
    | [x0, x1, x2, x3, x4, x5], _ =>
      have f0 := hf 0 _ rfl
      have f1 := hf 1 _ rfl
      have f2 := hf 2 _ rfl
      have f3 := hf 3 _ rfl
      have f4 := hf 4 _ rfl
      have f5 := hf 5 _ rfl
      simp only [zC3, zC9, List.drop_zero, List.take_succ_cons, List.take_zero, List.drop_succ_cons, List.getElem?_cons_zero, List.getElem?_cons_succ] at f0 f1 f2 f3 f4 f5
      obtain ⟨n0, e0, _, w0⟩ := DataW.trod_int Tryz.underlying3 f0
      obtain ⟨n1, e1, _, w1⟩ := DataW.trod_int Tryz.underlying3 f1
      obtain ⟨n2, e2, _, w2⟩ := DataW.trod_int Tryz.underlying3 f2
      obtain ⟨n3, e3, _, w3⟩ := DataW.trod_int Tryz.underlying3 f3
      obtain ⟨s4, e4, v4, _⟩ := DataW.trod_string Tryz.underlying9 f4
      obtain ⟨s5, e5, v5, _⟩ := DataW.trod_string Tryz.underlying9 f5
      cases e0; cases e1; cases e2; cases e3; cases e4; cases e5
      exact ⟨⟨n0, n1, n2, n3, s4.data.toList, s5.data.toList⟩, rfl, i64_of_wfK w0, i64_of_wfK w1⟩
theorem open_scriptK {v : Value} {d : DataW H} {ps : List MemPlace} (hv : ∃ a len cap, v = .slice a len cap) (h : DataW.Trod enc Tryz.prog W 0 (fun _ => true) true 22 v d ps) :
    ∃ (sa : Option Addr) (sc : Nat) (script : List Op1), v = .slice sa script.length sc ∧ LiesK W sa script ∧ ∀ o, o ∈ script → OpOk o := by
  obtain ⟨va, vl, vc, rfl⟩ := hv
  obtain ⟨fuel, hd⟩ := h
  rcases DataW.trod_slice Tryz.underlying22 hd with ⟨hc, hx⟩ | ⟨a, len, cap, elems, rest, n, rfl, hc, hx, _, hle, _, hel, hr, _, _⟩
  · have hc' : [Value.slice va vl vc] = [.slice none 0 0] := hc
    cases hc'
    exact ⟨none, 0, [], rfl, (fun i hi => by simp at hi), fun o ho => by cases ho⟩
  · have hc' : [Value.slice va vl vc] = [.slice (some a) len cap] := hc
    cases hc'
    have hstep : ∀ i, i < vl → ∃ o : Op1, ((W.cells? 0 (a.add (i * 6)) 6) = some (opV o) ∧ OpOk o) := by
      intro i hi
      have hi' := hr i hi
      rw [zC29] at hi'
      have hgi : elems[i]? = some elems[i] := List.getElem?_eq_getElem (by omega)
      rw [hgi] at hi'
      obtain ⟨cs, h1, h2⟩ := Option.bind_eq_some_iff.1 hi'
      obtain ⟨o, rfl, ho⟩ := open_opK h2
      exact ⟨o, h1, ho⟩
    obtain ⟨script, hsl, hsq⟩ := choose_listK vl hstep
    refine ⟨some a, vc, script, by rw [hsl], fun i hi => ?_, fun o ho => ?_⟩
    case refine_2 =>
      obtain ⟨i, hi, rfl⟩ := List.mem_iff_getElem.1 ho
      exact (hsq i hi).2
    have hspot : a.spot = none := by
      obtain ⟨_, _, hc0⟩ := World.cells?_some (hsq 0 (by omega)).1
      exact spot_none (a := (a.add (0 * 6)).add 0) ((hc0 0 (by decide)).trans rfl)
    obtain ⟨b, o, spot⟩ := a
    dsimp only at hspot
    subst hspot
    refine ⟨b, o, rfl, fun q v hq => ?_⟩
    obtain ⟨_, _, hci⟩ := World.cells?_some (hsq i hi).1
    have hql := (List.getElem?_eq_some_iff.1 hq).1
    have := hci q (by simpa [opV] using hql)
    rw [add_plain, add_plain] at this
    rw [this]; exact hq
set_option maxRecDepth 100000 in
theorem keeps_lifted (os : Os) (started : os.Started) (H : Type) (enc : TypeId × Value → H) :
    ReturnsInHanded {} Tryz.checked os 5 .any (fun w args => (Rows.keepsSpec.pre enc Tryz.prog Tryz.f5 [] false w args ∧ laidMetH Tryz.prog laid3 w) ∧ sizedMet enc Tryz.prog Tryz.f5 (OpenSpec.ofChange Rows.keepsSpec) false w args)
      (Rows.keepsSpec.post enc Tryz.prog Tryz.f5 false true false false) := by
  refine returnsInHanded_of_change_and (C := Tryz.checked) (X := fun w _ => laidMetH Tryz.prog laid3 w) (fun _ _ _ hh h => h.of_heap hh) zOwn started (by kernel_rfl) Tryz.func5
    (ChangeSpec.witness_shaped (enc := enc) (C := Tryz.checked) (os := os) (X := fun w _ => laidMetH Tryz.prog laid3 w) false (World.laidAll Tryz.prog os laid3) #[.slice none 0 0] 8 (World.laidAll_os _ _ _) (laid_shaped os) (by kernel_rfl) (by kernel_rfl) (by kernel_rfl) (laid_met os _)) ?_
  intro W base args ds gs before hval0 hW _ _ hL _
  have hval : ∀ (j : Nat) t v, Tryz.f5.params[j]? = some t → args[j]? = some v → Value.okWide Tryz.prog W .any base t v := hval0
  have hW' := hW
  obtain ⟨p, q, hA0, hV0, rfl, hfz, hnd⟩ := hW
  have hA : DataW.TrodAll enc Tryz.prog W 0 (fun _ => true) true Tryz.f5.params.toList args.toList ds p := hA0
  have hV : DataW.TrodVars enc Tryz.prog W (fun _ => true) [] gs q := hV0
  have hA' := hA
  rw [Tryz.params5] at hA hval
  obtain ⟨v0, d0, rfl, rfl, h0⟩ := trodAll_one hA
  obtain ⟨rfl, rfl⟩ := trodVars_none hV
  obtain ⟨sa, sc, script, hv, hs, hops⟩ := open_scriptK (okWide_slice Tryz.underlying22 (hval 0 22 v0 rfl rfl)) h0
  subst hv
  have e1 : Rows.keepsSpec.fn H ([d0] ++ []) = { results := [.lit (.bool true)], args := [d0] } := by simp [Rows.keepsSpec]
  refine (keeps_calls W sa sc script hs hops (of_laid hL)).mono fun e W' hx => ?_
  obtain ⟨rfl, ho, hout, hk⟩ := hx
  have hlt : ∀ x ∈ p, x.block < W.heap.size := fun x hx => DataW.TrodAll.lt hA' x hx
  have hsame : ∀ x ∈ p, W.sameAt W' x := fun x hx => by
    have := hk x.block (hlt x hx)
    cases x with
    | cell b o => show W'.cell? ⟨b, o, none⟩ = W.cell? ⟨b, o, none⟩; unfold World.cell?; dsimp only; rw [show W'.heap[b]? = W.heap[b]? from this]
    | map b => exact this
  have hAW : DataW.Trod enc Tryz.prog W' 0 (fun _ => true) true 22 (.slice sa script.length sc) d0 p := by
    obtain ⟨n, hn⟩ := h0
    exact ⟨n, DataW.trod_carry n _ _ _ hn hsame⟩
  refine ⟨_, rfl, [d0], [], p ++ [], [], p, [], hW', ?_, ?_, ?_, ⟨ho, hout, fun i hi => ?_⟩, fun h => by cases h⟩
  · rw [e1]; exact trodAll_mk1 (shut_bool Tryz.underlying4 true)
  · rw [e1]
    exact trodAll_mk1 (hAW.respare zKids zFull (by rw [zSize]; decide) (fun x hx => by simpa using hlt x hx))
  · rw [e1]; rfl
  · have := hk i hi
    rw [this]
    cases W.heap[i]? with
    | none => rfl
    | some x => cases x with
      | cells c t fr => exact ⟨rfl, rfl, rfl, fun _ _ => rfl⟩
      | map es cl => exact .inr ⟨rfl, rfl⟩
      | _ => rfl
end Go.Proofs.Qxb6500573aGreatDoor
