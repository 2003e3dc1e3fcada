/- Plain: the compiler and numbers: it tells numbers apart and nothing more. -/
import Derived.Test.Qxb6500573aGreatDoorBL
namespace Go.Wl
open Go Go.Sl Go.Proofs
set_option linter.unusedSimpArgs false
set_option linter.unusedSectionVars false
set_option linter.unusedVariables false
def vMap (σ : Int → Int) (v : V) : V := if v.t = 2 then { v with n := σ v.n } else v
def fMap (σ : Int → Int) (f : Fs) : Fs := { f with consts := f.consts.map (vMap σ), nums := f.nums.map fun p => (σ p.1, p.2) }
def sMap (σ : Int → Int) (s : CS) : CS := ⟨s.np, s.fs.map (fMap σ)⟩
section
variable (σ : Int → Int)
theorem get_map (s : CS) (k : Nat) : (sMap σ s).get k = (s.get k).map (fMap σ) := by
  unfold CS.get sMap
  dsimp only
  rw [List.getElem?_map]
  cases h : s.fs[k]? with
  | none => rfl
  | some f =>
    dsimp only [Option.map]
    cases hl : f.live <;> simp [fMap, hl]
theorem put_map (s : CS) (k : Nat) (f : Fs) : (sMap σ s).put k (fMap σ f) = sMap σ (s.put k f) := by
  unfold CS.put sMap
  simp [List.map_set]
theorem b1map {α β γ : Type} (x : Option α) (h : α → β) (g : β → Option γ) : bind1 (x.map h) g = bind1 x fun a => g (h a) := by cases x <;> rfl
theorem mapb1 {α β γ : Type} (x : Option α) (g : α → Option β) (h : β → γ) : (bind1 x g).map h = bind1 x fun a => (g a).map h := by cases x <;> rfl
abbrev pMap {α : Type} (σ : Int → Int) (p : α × CS) : α × CS := (p.1, sMap σ p.2)
theorem b2map {α γ : Type} (x : Option (α × CS)) (g : α → CS → Option γ) : bind2 (x.map (pMap σ)) g = bind2 x fun a s => g a (sMap σ s) := by
  cases x with
  | none => rfl
  | some p => rfl
theorem mapb2 {α β γ δ : Type} (x : Option (α × β)) (g : α → β → Option γ) (h : γ → δ) : (bind2 x g).map h = bind2 x fun a b => (g a b).map h := by
  cases x with
  | none => rfl
  | some p => rfl
theorem mapite {α β : Type} {c : Prop} [Decidable c] (x y : Option α) (h : α → β) : (if c then x else y).map h = if c then x.map h else y.map h := by split <;> rfl
theorem emit_map (k : Nat) (l : List In) (s : CS) : emitM k l (sMap σ s) = (emitM k l s).map (sMap σ) := by
  unfold emitM
  simp only [get_map, b1map, mapb1, mapite]
  congr 1
  funext f
  show (if f.code.length + l.length ≤ 1000000 then some ((sMap σ s).put k (fMap σ { f with code := f.code ++ l })) else none) = _
  rw [put_map]
  rfl
theorem declare_map (k : Nat) (n : List UInt8) (s : CS) : declareM k n (sMap σ s) = (declareM k n s).map (pMap σ) := by
  unfold declareM
  simp only [get_map, b1map, mapb1, mapite]
  congr 1
  funext f
  show (if f.locals.length < 1000000 then some ((f.locals.length : Int), (sMap σ s).put k (fMap σ { f with locals := f.locals ++ [n], nslots := max f.nslots ((f.locals.length : Int) + 1) })) else none) = _
  rw [put_map]
  rfl
theorem bind_map (k : Nat) (n : List UInt8) (s : CS) : bindM k n (sMap σ s) = (bindM k n s).map (sMap σ) := by
  unfold bindM
  simp only [declare_map, b2map, mapb2, emit_map]
theorem cut_map (k : Nat) (b : Int) (s : CS) : cutM k b (sMap σ s) = (cutM k b s).map (sMap σ) := by
  unfold cutM
  simp only [get_map, b1map, mapb1, mapite]
  congr 1
  funext f
  show (if 0 ≤ b ∧ b ≤ f.locals.length then some ((sMap σ s).put k (fMap σ { f with locals := f.locals.take b.toNat })) else none) = _
  rw [put_map]
  rfl
theorem leave_map (k : Nat) (b : Int) (s : CS) : leaveM k b (sMap σ s) = (leaveM k b s).map (sMap σ) := by
  unfold leaveM
  simp only [get_map, b1map, mapb1, mapite, emit_map, cut_map]
  rfl
theorem slot_map (k : Nat) (n : List UInt8) (s : CS) : slotM k n (sMap σ s) = slotM k n s := by
  unfold slotM
  simp only [get_map, b1map]
  rfl
theorem upPut_map (k : Nat) (d : Int × Int) (s : CS) : upPut k d (sMap σ s) = (upPut k d s).map (pMap σ) := by
  unfold upPut
  simp only [get_map, b1map, mapb1, mapite]
  congr 1
  funext f
  have : upAdd k d (fMap σ f) (sMap σ s) (upFind f.ups d 0) = pMap σ (upAdd k d f s (upFind f.ups d 0)) := by
    cases upFind f.ups d 0 with
    | some i => rfl
    | none =>
      show ((f.ups.length : Int), (sMap σ s).put k (fMap σ { f with ups := f.ups ++ [d] })) = _
      rw [put_map]
      rfl
  show (if f.ups.length < 1000000 then some (upAdd k d (fMap σ f) (sMap σ s) (upFind f.ups d 0)) else none) = _
  rw [this]
  rfl
theorem upvalue_map : ∀ (m k : Nat) (n : List UInt8) (s : CS), upvalueM m k n (sMap σ s) = (upvalueM m k n s).map (pMap σ)
  | 0, _, _, _ => rfl
  | m + 1, k, n, s => by
    unfold upvalueM
    simp only [get_map, b1map, mapb1]
    congr 1
    funext f
    show (match f.parent with | none => _ | some p => _) = _
    cases f.parent with
    | none => rfl
    | some p =>
      dsimp only
      simp only [slot_map, mapb1, mapite, upvalue_map m, b2map, mapb2, upPut_map]
      rfl
theorem mfind_map {σ : Int → Int} (hσ : ∀ a b, σ a = σ b → a = b) : ∀ (l : List (Int × Int)) (b : Int), mfind (l.map fun p => (σ p.1, p.2)) (σ b) = mfind l b
  | [], b => rfl
  | (k, v) :: l, b => by
    show (if σ b = σ k then some v else mfind (l.map fun p => (σ p.1, p.2)) (σ b)) = (if b = k then some v else mfind l b)
    by_cases h : b = k
    · rw [if_pos h, if_pos (by rw [h])]
    · rw [if_neg h, if_neg (fun e => h (hσ _ _ e))]
      exact mfind_map hσ l b
theorem cnum_map {σ : Int → Int} (hσ : ∀ a b, σ a = σ b → a = b) (k : Nat) (b : Int) (s : CS) : cnumM k (σ b) (sMap σ s) = (cnumM k b s).map (pMap σ) := by
  unfold cnumM
  simp only [get_map, b1map, mapb1]
  congr 1
  funext f
  show (match mfind (f.nums.map fun p => (σ p.1, p.2)) (σ b) with | some i => _ | none => _) = _
  rw [mfind_map hσ]
  cases mfind f.nums b with
  | some i => rfl
  | none =>
    dsimp only
    have e : (fMap σ f).consts.length = f.consts.length := by simp [fMap]
    rw [e, mapite]
    have e2 : { fMap σ f with nums := (fMap σ f).nums ++ [(σ b, u16 f.consts.length)], consts := (fMap σ f).consts ++ [⟨2, σ b, []⟩] } = fMap σ { f with nums := f.nums ++ [(b, u16 f.consts.length)], consts := f.consts ++ [⟨2, b, []⟩] } := by
      simp [fMap, vMap]
    rw [e2, put_map]
    rfl
theorem ctext_map (k : Nat) (t : List UInt8) (s : CS) : ctextM k t (sMap σ s) = (ctextM k t s).map (pMap σ) := by
  unfold ctextM
  simp only [get_map, b1map, mapb1]
  congr 1
  funext f
  show (match mfind f.strs t with | some i => _ | none => _) = _
  cases mfind f.strs t with
  | some i => rfl
  | none =>
    dsimp only
    have e : (fMap σ f).consts.length = f.consts.length := by simp [fMap]
    rw [e, mapite]
    have e2 : { fMap σ f with strs := (fMap σ f).strs ++ [(t, u16 f.consts.length)], consts := (fMap σ f).consts ++ [⟨3, 0, t⟩] } = fMap σ { f with strs := f.strs ++ [(t, u16 f.consts.length)], consts := f.consts ++ [⟨3, 0, t⟩] } := by
      simp [fMap, vMap]
    rw [e2, put_map]
    rfl
theorem variable_map (k : Nat) (n : List UInt8) (a b c : Int) (s : CS) : variableM k n a b c (sMap σ s) = (variableM k n a b c s).map (sMap σ) := by
  unfold variableM
  simp only [slot_map, mapb1, mapite, emit_map, upvalue_map, b2map, mapb2, ctext_map]
theorem jump_map (k : Nat) (op : Int) (s : CS) : jumpM k op (sMap σ s) = (jumpM k op s).map (pMap σ) := by
  unfold jumpM
  simp only [get_map, b1map, mapb1, emit_map]
  rfl
theorem patch_map (k : Nat) (a : Int) (s : CS) : patchM k a (sMap σ s) = (patchM k a s).map (sMap σ) := by
  unfold patchM
  simp only [get_map, b1map, mapb1, mapite]
  congr 1
  funext f
  show (if 0 ≤ a ∧ a < f.code.length then some ((sMap σ s).put k (fMap σ { f with code := f.code.set a.toNat ((f.code.getD a.toNat (0, 0)).1, u16 f.code.length) })) else none) = _
  rw [put_map]
  rfl
theorem open_map (k : Nat) (b : Int) (s : CS) : openM k b (sMap σ s) = (openM k b s).map (sMap σ) := by
  unfold openM
  simp only [get_map, b1map, mapb1, mapite]
  congr 1
  funext f
  show (if f.loops.length < 1000000 then some ((sMap σ s).put k (fMap σ { f with loops := f.loops ++ [(b, [])] })) else none) = _
  rw [put_map]
  rfl
theorem patches_map : ∀ (l : List (Nat × Int)) (s : CS), patchesM l (sMap σ s) = (patchesM l s).map (sMap σ)
  | [], _ => rfl
  | (k, a) :: l, s => by
    unfold patchesM
    simp only [patch_map, b1map, mapb1, patches_map l]
theorem shut_map (k : Nat) (s : CS) : shutM k (sMap σ s) = (shutM k s).map (sMap σ) := by
  unfold shutM
  simp only [get_map, b1map, mapb1, mapite]
  congr 1
  funext f
  show bind1 f.loops[f.loops.length - 1]? (fun l => if l.2.length < 1000000 ∧ f.loops.length < 1000000 then patchesM l.2 ((sMap σ s).put k (fMap σ { f with loops := f.loops.take (f.loops.length - 1) })) else none) = _
  simp only [put_map, patches_map]
  rfl
theorem fresh_map (k : Nat) (p : Option Nat) (s : CS) : freshM k p (sMap σ s) = (freshM k p s).map (sMap σ) := by
  unfold freshM
  show bind1 (s.fs.map (fMap σ))[k]? _ = _
  rw [List.getElem?_map]
  simp only [b1map, mapb1]
  congr 1
  funext f
  simp [sMap, List.map_set, fMap]
theorem alive_map (k : Nat) (s : CS) : aliveC k (sMap σ s) = aliveC k s := by
  unfold aliveC
  rw [get_map]
  cases s.get k <;> rfl
/-- What a change of the nodes may do. -/
structure NMap (σ : Int → Int) (φ : Nd → Nd) : Prop where
  k : ∀ d, (φ d).k = d.k
  a : ∀ d, (φ d).a = d.a
  b : ∀ d, (φ d).b = d.b
  c : ∀ d, (φ d).c = d.c
  next : ∀ d, (φ d).next = d.next
  s : ∀ d, (φ d).s = d.s
  n : ∀ d, (φ d).n = if d.k = 15 then σ d.n else d.n
theorem nd_map (φ : Nd → Nd) (ns : List Nd) (i : Int) : nd (ns.map φ) i = (nd ns i).map φ := by
  unfold nd
  rw [mapite, List.getElem?_map]
  rfl
theorem each_map {τ : Type} (T : τ → τ) (ns : List Nd) (φ : Nd → Nd) (hn : ∀ d, (φ d).next = d.next) (al al' : τ → Bool) (vis vis' : Int → τ → Option τ) (ha : ∀ s, al' (T s) = al s) (hv : ∀ n s, vis' n (T s) = (vis n s).map T) :
    ∀ (m : Nat) (n j : Int) (s : τ), eachM (ns.map φ) al' vis' m n j (T s) = (eachM ns al vis m n j s).map fun p => (p.1, T p.2)
  | 0, _, _, _ => rfl
  | m + 1, n, j, s => by
    unfold eachM
    simp only [hv, b1map, mapb1, mapite, ha, nd_map, hn, each_map T ns φ hn al al' vis vis' ha hv m]
    rfl
section
variable {σ : Int → Int} (hσ : ∀ a b, σ a = σ b → a = b) {φ : Nd → Nd} (hφ : NMap σ φ) (ns : List Nd) (rc rc' : CRec) (hs : ∀ k n s, rc'.stmt k n (sMap σ s) = (rc.stmt k n s).map (sMap σ)) (he : ∀ k n s, rc'.expr k n (sMap σ s) = (rc.expr k n s).map (sMap σ))
include hφ hs in
theorem block_map (k : Nat) (n : Int) (s : CS) : blockM (ns.map φ) rc' k n (sMap σ s) = (blockM ns rc k n s).map (sMap σ) := by
  unfold blockM
  simp only [get_map, b1map, mapb1, List.length_map]
  congr 1
  funext f
  rw [each_map (sMap σ) ns φ hφ.next (aliveC k) (aliveC k) (rc.stmt k) (rc'.stmt k) (alive_map σ k) (hs k)]
  have e : (fun p : Int × CS => (p.1, sMap σ p.2)) = pMap σ := rfl
  rw [e]
  simp only [b2map, mapb2, leave_map]
  rfl
include hφ hs in
theorem body_map (k : Nat) (n : Int) (s : CS) : bodyM (ns.map φ) rc' k n (sMap σ s) = (bodyM ns rc k n s).map (sMap σ) := by
  unfold bodyM
  simp only [block_map hφ ns rc rc' hs, b1map, mapb1, emit_map]
include hφ in
theorem param_map (k : Nat) (n : Int) (s : CS) : paramM (ns.map φ) k n (sMap σ s) = (paramM ns k n s).map (sMap σ) := by
  unfold paramM
  simp only [get_map, b1map, mapb1, nd_map, hφ.s, declare_map, b2map, mapb2]
  rfl
theorem pars_map (k : Nat) (j : Int) (s : CS) : parsM k j (sMap σ s) = (parsM k j s).map (sMap σ) := by
  unfold parsM
  simp only [get_map, b1map, mapb1]
  congr 1
  funext f
  show some ((sMap σ s).put k (fMap σ { f with nparams := j })) = _
  rw [put_map]
  rfl
include hφ hs in
theorem function_map (k : Nat) (d : Nd) (hd : d.k ≠ 15) (s : CS) : functionM (ns.map φ) rc' k (φ d) (sMap σ s) = (functionM ns rc k d s).map (sMap σ) := by
  unfold functionM
  have en : (φ d).n = d.n := by rw [hφ.n, if_neg hd]
  simp only [get_map, b1map, mapb1, en, hφ.a, hφ.b, mapite, List.length_map, fresh_map]
  congr 1
  funext f
  split
  · congr 1
    funext s
    rw [each_map (sMap σ) ns φ hφ.next _ _ (paramM ns (IntKind.i64.wrap d.n).toNat) (paramM (ns.map φ) (IntKind.i64.wrap d.n).toNat) (alive_map σ _) (param_map hφ ns _)]
    have e : (fun p : Int × CS => (p.1, sMap σ p.2)) = pMap σ := rfl
    rw [e]
    simp only [b2map, mapb2, pars_map, b1map, mapb1, body_map hφ ns rc rc' hs, emit_map]
  · rfl
include hφ he in
theorem call_map (k : Nat) (n : Int) (s : CS) : callM (ns.map φ) rc' k n (sMap σ s) = (callM ns rc k n s).map (sMap σ) := by
  unfold callM
  simp only [get_map, b1map, mapb1, nd_map, hφ.a, hφ.b, he, List.length_map]
  congr 1
  funext f
  congr 1
  funext d
  congr 1
  funext s
  rw [each_map (sMap σ) ns φ hφ.next (aliveC k) (aliveC k) (rc.expr k) (rc'.expr k) (alive_map σ k) (he k)]
  have e : (fun p : Int × CS => (p.1, sMap σ p.2)) = pMap σ := rfl
  rw [e]
  simp only [b2map, mapb2, emit_map]
include he in
theorem item_map (k : Nat) (n : Int) (s : Int × CS) : itemM rc' k n (pMap σ s) = (itemM rc k n s).map (pMap σ) := by
  unfold itemM
  simp only [he, b1map, mapb1, emit_map]
  rfl
include he in
theorem short_map (k : Nat) (op b : Int) (s : CS) : shortM rc' k op b (sMap σ s) = (shortM rc k op b s).map (sMap σ) := by
  unfold shortM
  simp only [jump_map, b2map, mapb2, he, b1map, mapb1, patch_map]
include hφ he in
theorem items_map (k m : Nat) (n : Int) (s : CS) : bind2 (eachM (ns.map φ) (fun s : Int × CS => aliveC k s.2) (itemM rc' k) m n 0 (0, sMap σ s)) (fun _ s => some s.2) = (bind2 (eachM ns (fun s : Int × CS => aliveC k s.2) (itemM rc k) m n 0 (0, s)) (fun _ s => some s.2)).map (sMap σ) := by
  have h := each_map (pMap (α := Int) σ) ns φ hφ.next (fun s : Int × CS => aliveC k s.2) (fun s : Int × CS => aliveC k s.2) (itemM rc k) (itemM rc' k) (fun s => alive_map σ k s.2) (item_map rc rc' he k) m n 0 (0, s)
  have e : pMap (α := Int) σ (0, s) = (0, sMap σ s) := rfl
  rw [e] at h
  rw [h]
  cases eachM ns (fun s : Int × CS => aliveC k s.2) (itemM rc k) m n 0 (0, s) with
  | none => rfl
  | some p => rfl
include hσ hφ hs he in
theorem expr_map (k : Nat) (n : Int) (s : CS) : exprM (ns.map φ) rc' k n (sMap σ s) = (exprM ns rc k n s).map (sMap σ) := by
  unfold exprM
  simp only [get_map, b1map, mapb1, nd_map, hφ.k, hφ.a, hφ.b, hφ.s]
  congr 1
  funext f
  congr 1
  funext d
  by_cases h15 : d.k = 15
  · have en : (φ d).n = σ d.n := by rw [hφ.n, if_pos h15]
    simp only [h15, Int.reduceEq, ↓reduceIte, en, cnum_map hσ, b2map, mapb2, emit_map]
  · have en : (φ d).n = d.n := by rw [hφ.n, if_neg h15]
    simp only [h15, ↓reduceIte, en, mapite, emit_map, ctext_map, b2map, mapb2, variable_map, he, b1map, mapb1, call_map hφ ns rc rc' he, function_map hφ ns rc rc' hs k d h15, short_map rc rc' he, List.length_map]
    have hi := fun (s : CS) => items_map hφ ns rc rc' he k (ns.length + 1) d.a s
    simp only [mapb2] at hi
    simp only [hi]
    rfl
include hσ hφ hs he in
theorem assign_map (k : Nat) (d : Nd) (s : CS) : assignM (ns.map φ) rc' k (φ d) (sMap σ s) = (assignM ns rc k d s).map (sMap σ) := by
  unfold assignM
  simp only [get_map, b1map, mapb1, nd_map, hφ.k, hφ.a, hφ.b, hφ.s, mapite, he, variable_map, emit_map]
include hφ hs he in
theorem test_map (k : Nat) (d : Nd) (s : CS) : testM (ns.map φ) rc' k (φ d) (sMap σ s) = (testM ns rc k d s).map (sMap σ) := by
  unfold testM
  simp only [hφ.a, hφ.b, hφ.c, he, b1map, mapb1, jump_map, b2map, mapb2, block_map hφ ns rc rc' hs, patch_map]
include hφ hs he in
theorem while_map (k : Nat) (d : Nd) (s : CS) : whileM (ns.map φ) rc' k (φ d) (sMap σ s) = (whileM ns rc k d s).map (sMap σ) := by
  unfold whileM
  simp only [get_map, hφ.a, hφ.b, hφ.c, he, b1map, mapb1, jump_map, b2map, mapb2, block_map hφ ns rc rc' hs, patch_map, open_map, shut_map, emit_map]
  rfl
include hσ he in
theorem step_map (h1 : σ 4607182418800017408 = 4607182418800017408) (k : Nat) (n : Int) (s : CS) : stepM rc' k n (sMap σ s) = (stepM rc k n s).map (sMap σ) := by
  unfold stepM
  rw [mapite]
  have hc := cnum_map hσ k 4607182418800017408 s
  rw [h1] at hc
  simp only [he, hc, b2map, mapb2, emit_map]
include hφ hs he in
theorem round_map (k b : Nat) (d : Nd) (s : CS) : roundM (ns.map φ) rc' k b (φ d) (sMap σ s) = (roundM ns rc k b d s).map (sMap σ) := by
  unfold roundM
  simp only [get_map, hφ.a, hφ.b, hφ.c, hφ.s, he, b1map, mapb1, jump_map, b2map, mapb2, block_map hφ ns rc rc' hs, patch_map, open_map, shut_map, emit_map, bind_map, leave_map]
  rfl
include hσ hφ hs he in
theorem count_map (h1 : σ 4607182418800017408 = 4607182418800017408) (k : Nat) (d : Nd) (s : CS) : countM (ns.map φ) rc' k (φ d) (sMap σ s) = (countM ns rc k d s).map (sMap σ) := by
  unfold countM
  simp only [get_map, hφ.a, hφ.next, he, b1map, mapb1, nd_map, mapite, bind_map, step_map hσ rc rc' he h1, round_map hφ ns rc rc' hs he]
  rfl
include hφ hs he in
theorem walk_map (k : Nat) (d : Nd) (s : CS) : walkM (ns.map φ) rc' k (φ d) (sMap σ s) = (walkM ns rc k d s).map (sMap σ) := by
  unfold walkM
  simp only [get_map, hφ.a, hφ.b, hφ.c, hφ.s, hφ.next, he, b1map, mapb1, nd_map, mapite, bind_map, jump_map, b2map, mapb2, block_map hφ ns rc rc' hs, patch_map, open_map, shut_map, emit_map, leave_map, declare_map]
  rfl
theorem brk_map (k : Nat) (s : CS) : brkM k (sMap σ s) = (brkM k s).map (sMap σ) := by
  unfold brkM
  simp only [get_map, b1map, mapb1, mapite]
  congr 1
  funext f
  have hb : ∀ l, brkC (fMap σ f) l = brkC f l := fun l => rfl
  simp only [hb]
  show bind1 f.loops[f.loops.length - 1]? (fun l => if (brkC f l).length + 1 ≤ 1000000 ∧ l.2.length < 1000000 ∧ f.loops.length < 1000000 then some ((sMap σ s).put k (fMap σ { f with code := brkC f l ++ [(21, 65535)], loops := f.loops.take (f.loops.length - 1) ++ [(l.1, l.2 ++ [(k, ((brkC f l).length : Int))])] })) else none) = _
  simp only [put_map]
  rfl
include hσ hφ hs he in
theorem stmt_map (h1 : σ 4607182418800017408 = 4607182418800017408) (k : Nat) (n : Int) (s : CS) : stmtM (ns.map φ) rc' k n (sMap σ s) = (stmtM ns rc k n s).map (sMap σ) := by
  unfold stmtM
  simp only [get_map, b1map, mapb1, nd_map, hφ.k, hφ.a, hφ.b, hφ.s, hφ.next, mapite, he, bind_map, call_map hφ ns rc rc' he, declare_map, b2map, mapb2, emit_map, assign_map hσ hφ ns rc rc' hs he, test_map hφ ns rc rc' hs he, while_map hφ ns rc rc' hs he, count_map hσ hφ ns rc rc' hs he h1, walk_map hφ ns rc rc' hs he, brk_map]
  rfl
end
theorem recC_map {σ : Int → Int} (hσ : ∀ a b, σ a = σ b → a = b) (h1 : σ 4607182418800017408 = 4607182418800017408) {φ : Nd → Nd} (hφ : NMap σ φ) (ns : List Nd) : ∀ m : Nat, (∀ k n s, (recC (ns.map φ) m).stmt k n (sMap σ s) = ((recC ns m).stmt k n s).map (sMap σ)) ∧ ∀ k n s, (recC (ns.map φ) m).expr k n (sMap σ s) = ((recC ns m).expr k n s).map (sMap σ)
  | 0 => ⟨fun _ _ _ => rfl, fun _ _ _ => rfl⟩
  | m + 1 => by
    obtain ⟨i1, i2⟩ := recC_map hσ h1 hφ ns m
    exact ⟨fun k n s => stmt_map hσ hφ ns _ _ i1 i2 h1 k n s, fun k n s => expr_map hσ hφ ns _ _ i1 i2 k n s⟩
/-- The compiler commutes with a change of numbers. -/
theorem compM_map {σ : Int → Int} (hσ : ∀ a b, σ a = σ b → a = b) (h1 : σ 4607182418800017408 = 4607182418800017408) {φ : Nd → Nd} (hφ : NMap σ φ) (fuel : Nat) (ns : List Nd) (root : Int) (s : CS) : compM fuel (ns.map φ) root (sMap σ s) = (compM fuel ns root s).map (sMap σ) := by
  unfold compM
  have e : ({ sMap σ s with np := 0 } : CS) = sMap σ { s with np := 0 } := rfl
  obtain ⟨i1, i2⟩ := recC_map hσ h1 hφ ns fuel
  rw [e]
  simp only [fresh_map, b1map, mapb1, body_map hφ ns _ _ i1]
end
end Go.Wl
