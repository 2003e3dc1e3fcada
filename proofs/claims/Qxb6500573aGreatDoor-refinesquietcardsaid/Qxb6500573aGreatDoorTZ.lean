/- Plain: the real table's list is the model's row: set. -/
import Derived.Test.Qxb6500573aGreatDoorTY
set_option linter.unusedSimpArgs false
set_option linter.unusedVariables false
set_option linter.unusedSectionVars false
namespace Go.Nm
open Go Go.Sl Go.Wl Go.Proofs
theorem mdel_mem {α β : Type} [DecidableEq α] {k : α} {x : α × β} : ∀ {l : List (α × β)}, (l.map (·.1)).Nodup → (x ∈ mdel l k ↔ x ∈ l ∧ x.1 ≠ k)
  | [], _ => by simp [mdel]
  | y :: l, hn => by
    rw [List.map_cons, List.nodup_cons] at hn
    unfold mdel
    by_cases c : k = y.1
    · rw [if_pos c]
      constructor
      · intro h
        exact ⟨List.mem_cons_of_mem _ h, fun q => hn.1 (by rw [← c, ← q]; exact List.mem_map.2 ⟨x, h, rfl⟩)⟩
      · rintro ⟨h, hne⟩
        rcases List.mem_cons.1 h with rfl | h
        · exact absurd c.symm hne
        · exact h
    · rw [if_neg c, List.mem_cons, mdel_mem hn.2, List.mem_cons]
      constructor
      · rintro (rfl | h)
        · exact ⟨.inl rfl, fun q => c q.symm⟩
        · exact ⟨.inr h.1, h.2⟩
      · rintro ⟨rfl | h, hne⟩
        · exact .inl rfl
        · exact .inr ⟨h, hne⟩
theorem mdel_len {α β : Type} [DecidableEq α] {k : α} {v : β} : ∀ {l : List (α × β)}, (k, v) ∈ l → (mdel l k).length + 1 = l.length
  | [], h => by cases h
  | y :: l, h => by
    unfold mdel
    by_cases c : k = y.1
    · rw [if_pos c]; rfl
    · rw [if_neg c]
      rcases List.mem_cons.1 h with rfl | h
      · exact absurd rfl c
      · simp only [List.length_cons]
        rw [mdel_len h]
section
variable {ks : List V} {arr : List Int} {nums : List (Int × Int)} {strs : List (List UInt8 × Int)} {refs : List (Int × Int)} {k : V}
theorem IX.move (h : IX ks arr nums strs refs) {b : Int} {p : Nat} (hb : (b, (p : Int)) ∈ nums) (hi : toIntM b.toNat = some (((arr.length + 1 : Nat) : Int), true)) : IX ks (arr ++ [(p : Int)]) (mdel nums b) strs refs := by
  have hal : arr.length ≤ 32 := by have := h.ln; have := h.le; omega
  obtain ⟨⟨p', e1, e2⟩, _⟩ := h.nn b _ hb
  obtain rfl : p = p' := by omega
  have hkb := (h.kk _ (List.mem_of_getElem? e2)).nu rfl
  dsimp only at hkb
  have hbi := toInt_inj (by omega) hi (by omega) (by omega)
  have hbk : (⟨2, b, []⟩ : V) = numK (arr.length + 1) := by
    unfold numK
    rw [← hbi]
    congr 1
    omega
  refine ⟨h.le, h.nd, h.kk, fun i q hq => ?_, fun c q hq => ?_, h.ss, h.rr, fun p2 x hp => ?_, h.n1.sublist ((mdel_sub _ _).map _), h.n2, h.n3, by have := h.ln; have := mdel_len hb; simp only [List.length_append, List.length_singleton]; omega⟩
  · rcases nth_snoc hq with hq | ⟨rfl, rfl⟩
    · exact h.aa i q hq
    · exact ⟨p, rfl, by rw [e2, hbk]⟩
  · obtain ⟨m1, m2⟩ := (mdel_mem h.n1).1 hq
    obtain ⟨e3, e4⟩ := h.nn c q m1
    refine ⟨e3, fun i hi2 hr => ?_⟩
    simp only [List.length_append, List.length_singleton] at hr
    by_cases cc : i ≤ arr.length
    · exact e4 i hi2 ⟨hr.1, cc⟩
    · obtain ⟨p3, _, e5⟩ := e3
      have hkc := (h.kk _ (List.mem_of_getElem? e5)).nu rfl
      dsimp only at hkc
      have := toInt_inj (by omega) hi2 (by omega) (by omega)
      apply m2
      dsimp only
      have ei : i = ((arr.length + 1 : Nat) : Int) := by omega
      rw [ei] at this
      omega
  · obtain ⟨a1, a2, a3⟩ := h.cn p2 x hp
    refine ⟨fun q => ?_, a2, a3⟩
    rcases a1 q with ⟨i, i1, i2⟩ | hin
    · exact .inl ⟨i, nth_left i1, i2⟩
    · by_cases c : x.n = b
      · left
        have hin' := hin
        rw [c] at hin'
        have := nodup_key h.n1 hin' hb rfl
        injection this with _ this
        have hpp : p2 = p := by omega
        subst hpp
        rw [hp] at e2
        injection e2 with e2
        exact ⟨arr.length, by simp, by rw [e2, hbk]⟩
      · exact .inr ((mdel_mem h.n1).2 ⟨hin, c⟩)
end
/-! migrate -/
theorem at_spec (n : Nat) : ∀ (l : List (Int × Int)) (a : List Int) (j : Nat), 0 < j → j < 33 → a.length = 33 → (∀ e, e ∈ l → ∀ e', e' ∈ l → cand n e.1 = cand n e'.1 → cand n e.1 ≠ 0 → e = e') →
    ((∃ e, e ∈ l ∧ cand n e.1 = (j : Int) ∧ (l.foldl (atS n) a).getD j 0 = e.2 + 1) ∨ ((∀ e, e ∈ l → cand n e.1 ≠ (j : Int)) ∧ (l.foldl (atS n) a).getD j 0 = a.getD j 0))
  | [], a, j, _, _, _, _ => .inr ⟨fun e h => (by cases h), rfl⟩
  | x :: l, a, j, hj, hj2, ha, hinj => by
    rw [List.foldl_cons]
    have hlen : (atS n a x).length = 33 := by unfold atS; split <;> simp [ha]
    rcases at_spec n l (atS n a x) j hj hj2 hlen (fun e he e' he' => hinj e (List.mem_cons_of_mem _ he) e' (List.mem_cons_of_mem _ he')) with ⟨e, h1, h2, h3⟩ | ⟨h1, h2⟩
    · exact .inl ⟨e, List.mem_cons_of_mem _ h1, h2, h3⟩
    · rw [h2]
      unfold atS
      by_cases c : cand n x.1 = (j : Int)
      · left
        refine ⟨x, List.mem_cons_self, c, ?_⟩
        rw [if_neg (by omega), c, Int.toNat_natCast, List.getD_eq_getElem?_getD, List.getElem?_set_self (by omega)]
        rfl
      · right
        refine ⟨fun e he => ?_, ?_⟩
        · rcases List.mem_cons.1 he with rfl | he
          · exact c
          · exact h1 e he
        · by_cases c0 : cand n x.1 = 0
          · rw [if_pos c0]
          · rw [if_neg c0, List.getD_eq_getElem?_getD, List.getElem?_set_ne (by
              intro q
              have hr := cand_some c0
              exact c (by omega)), ← List.getD_eq_getElem?_getD]
theorem mov_row {a : List Int} {t0 : Tb} (hsp : ∀ j : Nat, 0 < j → j < 33 → t0.arr.length < j → ((∃ e, e ∈ t0.nums ∧ toIntM e.1.toNat = some ((j : Int), true) ∧ a.getD j 0 = e.2 + 1) ∨ ((∀ e, e ∈ t0.nums → toIntM e.1.toNat ≠ some ((j : Int), true)) ∧ a.getD j 0 = 0))) :
    ∀ (k : Nat) {t t2 : Tb}, IX (ky t) t.arr t.nums t.strs t.refs → t.order = t0.order → t0.arr.length ≤ t.arr.length → (∀ e, e ∈ t.nums → e ∈ t0.nums) → (∀ e, e ∈ t0.nums → e ∈ t.nums ∨ ∃ j : Nat, toIntM e.1.toNat = some ((j : Int), true) ∧ j ≤ t.arr.length) → movL a k t = some t2 →
      t2.order = t0.order ∧ t2.dead = t.dead ∧ IX (ky t2) t2.arr t2.nums t2.strs t2.refs ∧ ∀ q, ((numK (t2.arr.length + 1)).n, q) ∉ t2.nums
  | 0, _, _, _, _, _, _, _, h => by cases h
  | k + 1, t, t2, hI, ho, hal, hsub, hrem, h => by
    have hle := hI.le
    have hln := hI.ln
    unfold movL at h
    by_cases c1 : t.arr.length + 1 ≤ 32
    · rw [if_pos c1] at h
      rcases hsp (t.arr.length + 1) (by omega) (by omega) (by omega) with ⟨e, m1, m2, m3⟩ | ⟨m1, m2⟩
      · have hin : e ∈ t.nums := by
          rcases hrem e m1 with q | ⟨j, j1, j2⟩
          · exact q
          · rw [m2] at j1
            injection j1 with j1; injection j1 with j1 _
            omega
        obtain ⟨⟨p, e1, e2⟩, _⟩ := hI.nn e.1 e.2 hin
        have hp := (List.getElem?_eq_some_iff.1 e2).1
        have hpl : p < t.order.length := by unfold ky at hp; simpa using hp
        rw [if_pos (by rw [m3, e1]; omega), if_pos (by rw [m3, e1]; omega)] at h
        have hkey : (t.order.getD (a.getD (t.arr.length + 1) 0 - 1).toNat (V.nil, V.nil)).1.n = e.1 := by
          rw [m3, e1, show (((p : Int) + 1 - 1).toNat) = p by omega]
          unfold ky at e2
          rw [List.getElem?_map] at e2
          obtain ⟨w, w1, w2⟩ := Option.map_eq_some_iff.1 e2
          rw [List.getD_eq_getElem?_getD, w1]
          dsimp only [Option.getD_some]
          rw [w2]
        rw [hkey, m3, e1, show (p : Int) + 1 - 1 = (p : Int) by omega] at h
        have hmv := hI.move (b := e.1) (p := p) (by rw [← e1]; exact hin) m2
        have := mov_row hsp k (t := { t with nums := mdel t.nums e.1, arr := t.arr ++ [(p : Int)] }) (t2 := t2) hmv ho (by simp; omega) (fun x hx => hsub x ((mdel_mem hI.n1).1 hx).1) (fun x hx => ?_) h
        · exact this
        · by_cases cx : x.1 = e.1
          · right
            exact ⟨t.arr.length + 1, by rw [cx]; exact m2, by simp⟩
          · rcases hrem x hx with q | ⟨j, j1, j2⟩
            · exact .inl ((mdel_mem hI.n1).2 ⟨q, cx⟩)
            · exact .inr ⟨j, j1, by simp; omega⟩
      · rw [if_neg (fun q => q m2)] at h
        injection h with h
        subst h
        refine ⟨ho, rfl, hI, fun q hq => ?_⟩
        have h40 := toInt_numN (n := t.arr.length + 1) ⟨by omega, by omega⟩
        exact m1 _ (hsub _ hq) h40
    · rw [if_neg c1] at h
      injection h with h
      subst h
      refine ⟨ho, rfl, hI, fun q hq => ?_⟩
      have : t.nums.length = 0 := by omega
      rw [List.length_eq_zero_iff.1 this] at hq
      cases hq
theorem mig_row {t t2 : Tb} (hI : IX (ky t) t.arr t.nums t.strs t.refs) (h : migM t = some t2) : t2.order = t.order ∧ t2.dead = t.dead ∧ IX (ky t2) t2.arr t2.nums t2.strs t2.refs ∧ ∀ q, ((numK (t2.arr.length + 1)).n, q) ∉ t2.nums := by
  unfold migM at h
  by_cases c0 : t.nums = []
  · rw [if_pos c0] at h
    injection h with h; subst h
    exact ⟨rfl, rfl, hI, fun q hq => by rw [c0] at hq; cases hq⟩
  · rw [if_neg c0] at h
    split at h
    · rename_i c
      refine mov_row (t0 := t) (fun j h1 h2 h3 => ?_) 34 hI rfl (Nat.le_refl _) (fun e he => he) (fun e he => .inl he) h
      have hinj : ∀ e, e ∈ t.nums → ∀ e', e' ∈ t.nums → cand t.arr.length e.1 = cand t.arr.length e'.1 → cand t.arr.length e.1 ≠ 0 → e = e' := fun e he e' he' q1 q2 => of_decide_eq_true (List.all_eq_true.1 (List.all_eq_true.1 c.2.1 e he) e' he') q1 q2
      have hcand : ∀ e : Int × Int, cand t.arr.length e.1 = (j : Int) ↔ toIntM e.1.toNat = some ((j : Int), true) := fun e => by
        constructor
        · intro q
          have := (cand_some (n := t.arr.length) (x := e.1) (by omega)).1
          rw [q] at this
          exact this
        · intro q
          rw [cand_T q, if_pos (by omega)]
      rcases at_spec t.arr.length t.nums (List.replicate 33 0) j h1 h2 (by simp) hinj with ⟨e, m1, m2, m3⟩ | ⟨m1, m2⟩
      · exact .inl ⟨e, m1, (hcand e).1 m2, m3⟩
      · refine .inr ⟨fun e he q => m1 e he ((hcand e).2 q), ?_⟩
        show (t.nums.foldl (atS t.arr.length) (List.replicate 33 0)).getD j 0 = 0
        rw [m2, List.getD_eq_getElem?_getD, List.getElem?_replicate]
        split <;> rfl
    · cases h
/-! Set, Get, Next. -/
theorem isNil_t {nt nc nh : Nat} {v : V} (h : VV nt nc nh v) : isNilV v = decide (v.t = 0) := by
  unfold isNilV
  refine decide_eq_decide.2 ⟨fun q => by rw [q]; rfl, fun q => ?_⟩
  have w := h.wl
  unfold well at w
  rw [if_neg (by omega)] at w
  by_cases c : v.s.length ≠ 0 ∨ v.t < 0 ∨ 7 < v.t
  · rw [if_pos c] at w; cases w
  · rw [if_neg c, if_pos q] at w
    have hn := of_decide_eq_true w
    have hs : v.s = [] := Decidable.byContradiction fun x => c (.inl (fun e => x (List.length_eq_zero_iff.1 e)))
    obtain ⟨a, b, s⟩ := v
    dsimp only at q hn hs
    subst q; subst hn; subst hs
    rfl
theorem ky_set {l : Row} {p : Nat} (hp : p < l.length) (v : V) : (l.set p ((l.getD p (V.nil, V.nil)).1, v)).map (·.1) = l.map (·.1) := by
  rw [List.map_set]
  have : (l.getD p (V.nil, V.nil)).1 = (l.map (·.1))[p]'(by simpa using hp) := by
    rw [List.getD_eq_getElem?_getD, List.getElem?_eq_getElem hp]
    simp
  rw [this]
  exact List.set_getElem_self (by simpa using hp)
theorem filt_set {α : Type} {p : α → Bool} : ∀ {l : List α} {i : Nat} (hi : i < l.length) (x : α), ((l.set i x).filter p).length + (if p l[i] = true then 1 else 0) = (l.filter p).length + (if p x = true then 1 else 0)
  | [], i, hi, x => by simp at hi
  | a :: l, 0, hi, x => by
    simp only [List.set_cons_zero, List.getElem_cons_zero, List.filter_cons]
    split <;> split <;> simp
    all_goals omega
  | a :: l, i + 1, hi, x => by
    simp only [List.set_cons_succ, List.getElem_cons_succ, List.filter_cons]
    have := filt_set (p := p) (l := l) (i := i) (by simpa using hi) x
    split
    · simp only [List.length_cons]; omega
    · exact this
theorem set_row {nt nc nh : Nat} {t t2 : Tb} {k v k2 : V} {i e : Int} (hX : TbX t) (hk : VV nt nc nh k) (hkz : k.t ≠ 0) (hv : VV nt nc nh v) (h1 : oneV k = some (k2, i)) (h : setT t k2 v i = some (t2, e)) : (t2.order, e) = setR t.order k v ∧ TbX t2 := by
  obtain ⟨o1, o2, o3, o4, o5⟩ := one_norm hk hkz h1
  have hf := hX.ix.find o2 o3 o4 o5
  have hw : findW t.order k = findL t.order k2 0 := by unfold findW; rw [o1]
  have hin := findW_in t.order k
  have hle := hX.ix.le
  have hkl : (ky t).length = t.order.length := by unfold ky; simp
  unfold setT at h
  dsimp only at h
  unfold setR
  rw [hf, ← hw] at h
  by_cases c1 : 0 ≤ findW t.order k
  · rw [if_pos c1] at h ⊢
    split at h
    · rename_i c
      injection h with h; injection h with e1 e2; subst e1; subst e2
      have hp : (findW t.order k).toNat < t.order.length := by omega
      refine ⟨rfl, ?_, hX.cl, ?_⟩
      · have hky : ky (t.turn (findW t.order k).toNat v) = ky t := ky_set hp v
        rw [hky]
        exact hX.ix
      · unfold Tb.turn
        dsimp only
        have hfs := filt_set (p := fun e : V × V => isNilV e.2) hp ((t.order.getD (findW t.order k).toNat (V.nil, V.nil)).1, v)
        have hg : t.order.getD (findW t.order k).toNat (V.nil, V.nil) = t.order[(findW t.order k).toNat] := by rw [List.getD_eq_getElem?_getD, List.getElem?_eq_getElem hp]; rfl
        rw [hg] at hfs ⊢
        have hd := hX.dd
        cases ha : isNilV t.order[(findW t.order k).toNat].2 <;> cases hb : isNilV v <;> simp only [ha, hb] at hfs ⊢ <;> simp at hfs ⊢ <;> omega
    · cases h
  · rw [if_neg c1] at h ⊢
    by_cases c2 : isNilV v = true
    · rw [if_pos c2] at h
      injection h with h; injection h with e1 e2; subst e1; subst e2
      rw [isNil_t hv] at c2
      rw [if_pos (of_decide_eq_true c2)]
      exact ⟨rfl, hX⟩
    · rw [if_neg c2] at h
      have c2' := c2
      rw [isNil_t hv] at c2'
      rw [if_neg (fun q => c2' (decide_eq_true q))]
      by_cases c3 : 32 ≤ t.order.length
      · rw [if_pos c3] at h ⊢
        injection h with h; injection h with e1 e2; subst e1; subst e2
        exact ⟨rfl, hX⟩
      · rw [if_neg c3] at h ⊢
        split at h
        · cases h
        · have hno : k2 ∉ ky t := fun q => by
            obtain ⟨p, hp⟩ := List.getElem?_of_mem q
            unfold ky at hp
            rw [List.getElem?_map] at hp
            obtain ⟨w, w1, w2⟩ := Option.map_eq_some_iff.1 hp
            have := findL_of (i := 0) hX.ix.nd w1
            rw [w2, ← hw] at this
            omega
          have hfd : ((t.order ++ [(k2, v)]).filter fun e => isNilV e.2).length = (t.order.filter fun e => isNilV e.2).length := filt_snoc _ _ (by simpa using c2)
          rw [← o1]
          split at h
          · rename_i c5
            obtain ⟨t3, ht3, he3⟩ := Option.map_eq_some_iff.1 h
            injection he3 with e1 e2; subst e1; subst e2
            unfold Tb.index at ht3
            dsimp only at ht3
            have hky : (t.order ++ [(k2, v)]).map (·.1) = ky t ++ [k2] := by unfold ky; simp
            by_cases d2 : k2.t = 2
            · rw [if_pos d2] at ht3
              split at ht3
              · injection ht3 with ht3; subst ht3
                refine ⟨rfl, ?_, fun q hq => ?_, by dsimp only; rw [hfd]; exact hX.dd⟩
                · show IX ((t.order ++ [(k2, v)]).map (·.1)) t.arr _ t.strs t.refs
                  rw [hky, ← hkl]
                  refine hX.ix.num (by omega) o2 hno d2 fun j hj hr => ?_
                  have := toInt_inj (by have := (o2.nu d2).1; omega) hj (by omega) (by have := hX.ix.ln; omega)
                  have hs := well_num o2.wl d2
                  have hkj : k2 = numK j.toNat := by
                    obtain ⟨a, b, c⟩ := k2
                    dsimp only at d2 hs this
                    unfold numK
                    have hb := (o2.nu d2).1
                    dsimp only at hb
                    rw [d2, hs, show ((j.toNat : Nat) : Int) = j by omega, ← this]
                    congr 1
                    omega
                  have hln := hX.ix.ln
                  have hij := o5 j.toNat (by omega) (by omega) hkj
                  have hq := List.getElem?_eq_getElem (l := t.arr) (i := j.toNat - 1) (by omega)
                  obtain ⟨p, _, e2⟩ := hX.ix.aa _ _ hq
                  rw [show j.toNat - 1 + 1 = j.toNat by omega, ← hkj] at e2
                  exact hno (List.mem_of_getElem? e2)
                · rcases List.mem_append.1 hq with hq | hq
                  · exact hX.cl q hq
                  · rw [List.mem_singleton] at hq
                    injection hq with q1 q2
                    have hs := well_num o2.wl d2
                    have hln := hX.ix.ln
                    have hkj : k2 = numK (t.arr.length + 1) := by
                      obtain ⟨a, b, c⟩ := k2
                      dsimp only at d2 hs q1
                      rw [d2, hs, ← q1]
                      rfl
                    exact c5 (by have := o5 (t.arr.length + 1) (by omega) (by omega) hkj; omega)
              · cases ht3
            · rw [if_neg d2] at ht3
              by_cases d3 : k2.t = 3
              · rw [if_pos d3] at ht3
                split at ht3
                · injection ht3 with ht3; subst ht3
                  refine ⟨rfl, ?_, hX.cl, by dsimp only; rw [hfd]; exact hX.dd⟩
                  show IX ((t.order ++ [(k2, v)]).map (·.1)) t.arr t.nums _ t.refs
                  rw [hky, ← hkl]
                  exact hX.ix.str (by omega) o2 hno d3
                · cases ht3
              · rw [if_neg d3] at ht3
                split at ht3
                · injection ht3 with ht3; subst ht3
                  refine ⟨rfl, ?_, hX.cl, by dsimp only; rw [hfd]; exact hX.dd⟩
                  show IX ((t.order ++ [(k2, v)]).map (·.1)) t.arr t.nums t.strs _
                  rw [hky, ← hkl]
                  exact hX.ix.ref (by omega) o2 hno d2 d3
                · cases ht3
          · rename_i c5
            obtain ⟨t3, ht3, he3⟩ := Option.map_eq_some_iff.1 h
            injection he3 with e1 e2; subst e1; subst e2
            have hln := hX.ix.ln
            have hi : i = ((t.arr.length + 1 : Nat) : Int) := by omega
            have hkj : k2 = numK (t.arr.length + 1) := by
              have := o4 (by omega) (by omega)
              rw [hi, Int.toNat_natCast] at this
              exact this
            have hky : (t.order ++ [(k2, v)]).map (·.1) = ky t ++ [numK (t.arr.length + 1)] := by unfold ky; simp [hkj]
            have hI2 : IX ((t.order ++ [(k2, v)]).map (·.1)) (t.arr ++ [(t.order.length : Int)]) t.nums t.strs t.refs := by
              rw [hky, ← hkl]
              rw [hkj] at hno o2
              exact hX.ix.ext (by omega) o2 hno
            obtain ⟨m1, m2, m3, m4⟩ := mig_row (t := { t with order := t.order ++ [(k2, v)], arr := t.arr ++ [(t.order.length : Int)] }) hI2 ht3
            refine ⟨by rw [m1], m3, m4, ?_⟩
            rw [m2, m1]
            dsimp only
            rw [hfd]
            exact hX.dd
end Go.Nm
