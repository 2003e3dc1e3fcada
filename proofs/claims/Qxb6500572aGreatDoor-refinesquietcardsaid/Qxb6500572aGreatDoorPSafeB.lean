/- Good states stay good: control. -/
import Derived.Test.Qxb6500572aGreatDoorPSafeA
namespace Go.Wl
open Go Go.Sl
set_option linter.unusedVariables false
variable {P : Prog} {m m' X : VM} {k pc : Nat} {u : Fun} {T : Typ} {τ : List UInt8} {below locs ops : List W} {top : Fr} {rest : List Fr} {c : Flat}
theorem top_of_fr {i j : Inst} (h : i.fr = j.fr) : i.top = j.top := by unfold Inst.top; rw [h]
theorem TF.setp (h : TF P m k pc u T τ below locs ops top rest) (hfr : X.i.fr = m.i.fr) {locs' ops' : List W} (hst : X.i.st = below ++ locs' ++ ops') (hl : locs'.map W.t = locs.map W.t) {x : Int} {pc' : Nat} (hx : x = pc') {τ' : List UInt8} (ht : T pc' = some τ') (ho : ops'.map W.t = τ') : GoodF P (X.setPc x) := by
  refine h.go (pc' := pc') (locs' := locs') (ops' := ops') (τ' := τ') ?_ hst hl ht ho
  show (X.i.setTop { X.i.top with pc := x }).fr = _
  have := h.setTop { top with pc := (pc' : Int) }
  unfold Inst.setTop at this ⊢
  rw [hfr, top_of_fr hfr, h.topv, hx]; exact this
theorem TF.nextp (h : TF P m k pc u T τ below locs ops top rest) (hfr : X.i.fr = m.i.fr) {locs' ops' : List W} (hst : X.i.st = below ++ locs' ++ ops') (hl : locs'.map W.t = locs.map W.t) {τ' : List UInt8} (ht : T (pc + 1) = some τ') (ho : ops'.map W.t = τ') : GoodF P X.next.1 := by
  refine h.setp hfr hst hl (x := X.i.top.pc + 1) (pc' := pc + 1) ?_ ht ho
  rw [top_of_fr hfr, h.topv, h.pcv]; rfl
theorem TF.jumps (h : TF P m k pc u T τ below locs ops top rest) (hfr : X.i.fr = m.i.fr) {ops' : List W} (hst : X.i.st = below ++ locs ++ ops') {τ' : List UInt8} (ho : ops'.map W.t = τ') (hj : JT T τ' c) : GoodF P (X.jump c) ∧ JumpOk m (below ++ locs ++ ops') c := by
  obtain ⟨h1, h2, h3, h4, h5⟩ := hj
  have hl : ops'.length = τ'.length := by rw [← ho]; simp
  have hf : X.i.top.floor = below.length + locs.length := by rw [top_of_fr hfr, h.topv, h.floor]
  refine ⟨?_, h1, h2, ?_⟩
  · unfold VM.jump
    refine h.setp (X := X.setSt (X.i.st.take ((X.i.top.floor : Int) + c.cut).toNat ++ X.i.st.drop (X.i.st.length - c.keep.toNat))) (locs' := locs) (ops' := ops'.take c.cut.toNat ++ ops'.drop (ops'.length - c.keep.toNat)) hfr ?_ rfl (x := c.imm) (pc' := c.imm.toNat) (Int.toNat_of_nonneg h4).symm h5 ?_
    · show X.i.st.take _ ++ X.i.st.drop _ = _
      rw [hst, hf]
      have e1 : (((below.length + locs.length : Nat) : Int) + c.cut).toNat = (below ++ locs).length + c.cut.toNat := by simp; omega
      have e2 : (below ++ locs ++ ops').length - c.keep.toNat = (below ++ locs).length + (ops'.length - c.keep.toNat) := by simp only [List.length_append]; omega
      rw [e1, e2, List.take_append, List.take_of_length_le (by omega), Nat.add_sub_cancel_left, List.drop_append, List.drop_eq_nil_of_le (by omega), Nat.add_sub_cancel_left, List.nil_append, List.append_assoc]
    · rw [List.map_append, List.map_take, List.map_drop, ho, hl]
  · rw [h.topv, h.floor]; simp only [List.length_append]; omega
theorem TF.pos (h : TF P m k pc u T τ below locs ops top rest) : m.i.fr.length = rest.length + 1 := by rw [h.fr]; simp
theorem TF.leaves (h : TF P m k pc u T τ below locs ops top rest) {τ' : List UInt8} (ht : τ = τ' ++ u.results) (hfr : X.i.fr = m.i.fr) (hst : X.i.st = m.i.st) (hr : X.i.fr.length - 1 ≠ 0) : GoodF P X.leave := by
  have hot := h.ot
  rw [ht] at hot
  obtain ⟨o1, vals, rfl, h1, h2⟩ := List.map_eq_append_iff.1 hot
  have hvl : vals.length = u.results.length := by rw [← h2]; simp
  have hst' : X.leave.i.st = below ++ vals := by
    show X.i.st.take X.i.top.base ++ X.i.st.drop (X.i.st.length - X.i.top.res.length) = _
    rw [hst, top_of_fr hfr, h.topv, h.base, h.res, h.st]
    rw [show below ++ locs ++ (o1 ++ vals) = below ++ (locs ++ (o1 ++ vals)) by simp, List.take_left]
    rw [show (below ++ (locs ++ (o1 ++ vals))).length - u.results.length = (below ++ locs ++ o1).length by simp only [List.length_append]; omega]
    rw [show below ++ (locs ++ (o1 ++ vals)) = (below ++ locs ++ o1) ++ vals by simp, List.drop_left]
  have hfr' : X.leave.i.fr = rest.reverse := by
    show X.i.fr.take (X.i.fr.length - 1) = _
    rw [hfr, h.pos, h.fr, Nat.add_sub_cancel, show rest.length = rest.reverse.length by simp, List.take_left]
  have hbl := h.bl
  cases rest with
  | nil => rw [hfr, h.pos] at hr; simp at hr
  | cons fr' rest' =>
    obtain ⟨k', pc', u', T', τ'', below', locs', ops', g1, g2, g3, g4, g5, g6, g7, g8, g9, g10, g11, g12, g13⟩ := hbl
    exact ⟨k', pc', u', T', τ'' ++ u.results, below', locs', ops' ++ vals, fr', rest', by rw [hfr']; simp, g1, g2, g3, g4, g5, g6, by rw [hst', g7]; simp, g8, by rw [List.map_append, g9, h2], g10, g11, g12, g13⟩
theorem word_t {t : UInt8} (h : t = 105 ∨ t = 108) (n : Int) : (word t n).t = t := by rcases h with rfl | rfl <;> rfl
theorem sig_some {P : Prog} {f : Int} {u : Fun} (h0 : 0 ≤ f) (h : P.funs[f.toNat]? = some u) : P.sig f = (u.params, u.results, u.locals, true) := by
  have := (List.getElem?_eq_some_iff.1 h).1
  unfold Prog.sig; rw [if_neg (by omega), h]
theorem TF.enters (h : TF P m k pc u T τ below locs ops top rest) (hPO : ProgOk P) {f : Fun} {τ' : List UInt8} (h0 : 0 ≤ c.imm) (hn : P.nimp ≤ c.imm) (hf : P.funs[c.imm.toNat]? = some f) (ht : τ = τ' ++ f.params) (hT : T (pc + 1) = some (τ' ++ f.results)) (hP : X.P = P) (hfr : X.i.fr = m.i.fr) (hst : X.i.st = m.i.st) : GoodF P ((X.setPc (X.i.top.pc + 1)).enter c.imm) := by
  have hot := h.ot
  rw [ht] at hot
  obtain ⟨o1, vals, rfl, h1, h2⟩ := List.map_eq_append_iff.1 hot
  have hvl : vals.length = f.params.length := by rw [← h2]; simp
  obtain ⟨b1, b2, b3, b4, b5, b6⟩ := hPO.f f (List.mem_of_getElem? hf)
  obtain ⟨T', hT'⟩ := hPO.fl c.imm.toNat f (by omega) hf
  have hsig := sig_some h0 hf
  have hset := h.setTop { top with pc := ((pc + 1 : Nat) : Int) }
  have hfr2 : (X.setPc (X.i.top.pc + 1)).i.fr = rest.reverse ++ [{ top with pc := ((pc + 1 : Nat) : Int) }] := by
    rw [← hset]
    show (X.i.setTop { X.i.top with pc := X.i.top.pc + 1 }).fr = _
    unfold Inst.setTop
    rw [hfr, top_of_fr hfr, h.topv, h.pcv]; rfl
  have hst2 : (X.setPc (X.i.top.pc + 1)).i.st = m.i.st := hst
  refine ⟨c.imm.toNat, 0, f, T', [], below ++ locs ++ o1, vals ++ f.locals.map (fun t => word t 0), [], ⟨c.imm, 0, m.i.st.length - f.params.length, m.i.st.length + f.locals.length, f.results⟩, { top with pc := ((pc + 1 : Nat) : Int) } :: rest, ?_, by simp; omega, rfl, by omega, hf, hT', hT'.t0, ?_, ?_, rfl, ?_, ?_, rfl, ?_⟩
  · show (X.setPc (X.i.top.pc + 1)).i.fr ++ [⟨c.imm, 0, (X.setPc (X.i.top.pc + 1)).i.st.length - _, (X.setPc (X.i.top.pc + 1)).i.st.length + _, _⟩] = _
    rw [show (X.setPc (X.i.top.pc + 1)).P = P from hP, hsig, hst2, hfr2]; simp
  · show (X.setPc (X.i.top.pc + 1)).i.st ++ List.map _ _ = _
    rw [show (X.setPc (X.i.top.pc + 1)).P = P from hP, hsig, hst2, h.st]; simp
  · rw [List.map_append, h2, List.map_map]
    congr 1
    have : ∀ l : List UInt8, ty2 l → l.map (W.t ∘ fun t => word t 0) = l := fun l hl => by
      induction l with
      | nil => rfl
      | cons t l ih => rw [List.map_cons, ih (fun x hx => hl x (List.mem_cons_of_mem _ hx))]; congr 1; exact word_t (hl t List.mem_cons_self) 0
    exact this _ b6
  · dsimp only; rw [h.st]; simp only [List.length_append]; omega
  · dsimp only; rw [h.st]; simp only [List.length_append, List.length_map]; omega
  · exact ⟨k, pc + 1, u, T, τ', below, locs, o1, h.f, rfl, h.dn, h.fu, h.fl, hT, by simp, h.lt, h1, h.base, h.floor, h.res, h.bl⟩
end Go.Wl
