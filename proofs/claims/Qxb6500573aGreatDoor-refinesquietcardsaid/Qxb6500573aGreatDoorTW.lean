/- Plain: the real tables are the model's rows: all calls. -/
import Derived.Test.Qxb6500573aGreatDoorTZ
set_option linter.unusedSimpArgs false
set_option linter.unusedVariables false
set_option linter.unusedSectionVars false
namespace Go.Nm
open Go Go.Sl Go.Wl Go.Proofs
/-- No key is a NaN. -/
def NNr (l : Row) : Prop := ∀ e, e ∈ l → e.1.t = 2 → cmpM 2 e.1.n.toNat e.1.n.toNat = false
theorem setR_nn {l : Row} {k v : V} (h : NNr l) (hk : k.t = 2 → cmpM 2 k.n.toNat k.n.toNat = false) : NNr (setR l k v).1 := by
  have hget : ∀ p : Nat, (l.getD p (V.nil, V.nil)).1.t = 2 → cmpM 2 (l.getD p (V.nil, V.nil)).1.n.toNat (l.getD p (V.nil, V.nil)).1.n.toNat = false := fun p => by
    rw [List.getD_eq_getElem?_getD]
    cases hp : l[p]? with
    | none => intro q; exact absurd q (by decide)
    | some e => exact h e (List.mem_of_getElem? hp)
  unfold setR
  split
  · intro e he ht
    rcases List.mem_or_eq_of_mem_set he with he | rfl
    · exact h e he ht
    · exact hget _ ht
  · split
    · exact h
    · split
      · exact h
      · intro e he ht
        rcases List.mem_append.1 he with he | he
        · exact h e he ht
        · rw [List.mem_singleton] at he
          subst he
          dsimp only at ht ⊢
          unfold normV at ht ⊢
          split
          · show cmpM 2 (0 : Int).toNat (0 : Int).toNat = false
            decide
          · rename_i q
            rw [if_neg q] at ht
            exact hk ht
structure TsX (ts : List Tb) (rs : List Row) : Prop where
  eq : rs = ts.map (·.order)
  ok : ∀ t, t ∈ ts → TbX t
  nn : ∀ r, r ∈ rs → NNr r
theorem TbX.empty : TbX Tb.empty := ⟨IX.empty, fun q h => (by cases h), rfl⟩
section
variable {nt nc nh : Nat} {ts : List Tb} {rs : List Row} {k v : V} {j : Nat}
theorem TsX.len (h : TsX ts rs) : rs.length = ts.length := by rw [h.eq]; simp
theorem TsX.row (h : TsX ts rs) (hj : j < ts.length) : rs.getD j [] = ts[j].order ∧ ts.getD j Tb.empty = ts[j] ∧ TbX ts[j] := by
  refine ⟨?_, ?_, h.ok _ (List.getElem_mem hj)⟩
  · rw [h.eq, List.getD_eq_getElem?_getD, List.getElem?_map, List.getElem?_eq_getElem hj]; rfl
  · rw [List.getD_eq_getElem?_getD, List.getElem?_eq_getElem hj]; rfl
theorem set_all (h : TsX ts rs) (hj : j < ts.length) (hk : VV nt nc nh k) (hv : VV nt nc nh v) {ts2 : List Tb} {e : Int} (hs : setM ts (j : Int) k v = some (ts2, e)) : (setW rs j k v).2 = e ∧ TsX ts2 (setW rs j k v).1 := by
  obtain ⟨r1, r2, r3⟩ := h.row hj
  unfold setM at hs
  rw [if_neg (by omega)] at hs
  unfold setW
  by_cases c1 : well k = false ∨ well v = false
  · rw [if_pos c1] at hs ⊢
    injection hs with hs; injection hs with e1 e2; subst e1; subst e2
    exact ⟨rfl, h⟩
  · rw [if_neg c1] at hs ⊢
    by_cases c2 : k.t = 0
    · rw [if_pos c2] at hs ⊢
      injection hs with hs; injection hs with e1 e2; subst e1; subst e2
      exact ⟨rfl, h⟩
    · rw [if_neg c2] at hs ⊢
      have hnan : (nanK k = true) ↔ (k.t = 2 ∧ cmpM 2 k.n.toNat k.n.toNat = true) := by
        unfold nanK
        split
        · rename_i q; exact ⟨fun w => ⟨q, w⟩, fun w => w.2⟩
        · rename_i q; exact ⟨fun w => (by cases w), fun w => absurd w.1 q⟩
      by_cases c3 : k.t = 2 ∧ cmpM 2 k.n.toNat k.n.toNat = true
      · rw [if_pos c3] at hs
        rw [if_pos (hnan.2 c3)]
        injection hs with hs; injection hs with e1 e2; subst e1; subst e2
        exact ⟨rfl, h⟩
      · rw [if_neg c3] at hs
        rw [if_neg (fun q => c3 (hnan.1 q))]
        cases ho : oneV k with
        | none => rw [ho] at hs; cases hs
        | some q =>
          obtain ⟨k2, i⟩ := q
          rw [ho] at hs
          dsimp only at hs
          split at hs
          · obtain ⟨⟨t2, e2⟩, hst, he⟩ := Option.map_eq_some_iff.1 hs
            rw [Int.toNat_natCast, r2] at hst
            injection he with he1 he2
            subst he1; subst he2
            obtain ⟨q1, q2⟩ := set_row r3 hk c2 hv ho hst
            rw [r1]
            have q3 := congrArg Prod.fst q1
            have q4 := congrArg Prod.snd q1
            dsimp only at q3 q4 ⊢
            refine ⟨q4.symm, ?_, fun t ht => ?_, fun r hr => ?_⟩
            · rw [← q3, h.eq, Int.toNat_natCast, List.map_set]
            · rw [Int.toNat_natCast] at ht
              rcases List.mem_or_eq_of_mem_set ht with ht | rfl
              · exact h.ok t ht
              · exact q2
            · rcases List.mem_or_eq_of_mem_set hr with hr | rfl
              · exact h.nn r hr
              · refine setR_nn ?_ fun q => ?_
                · rw [← r1]
                  refine h.nn _ ?_
                  rw [List.getD_eq_getElem?_getD, List.getElem?_eq_getElem (by rw [h.len]; exact hj)]
                  exact List.getElem_mem _
                · cases hc : cmpM 2 k.n.toNat k.n.toNat with
                  | false => rfl
                  | true => exact absurd ⟨q, hc⟩ c3
          · cases hs
theorem get_all (h : TsX ts rs) (hj : j < ts.length) (hk : VV nt nc nh k) {r : V × Int} (hs : getM ts (j : Int) k = some r) : getW rs j k = r := by
  obtain ⟨r1, r2, r3⟩ := h.row hj
  unfold getM at hs
  rw [if_neg (by omega)] at hs
  unfold getW
  by_cases c1 : well k = false
  · rw [if_pos c1] at hs ⊢
    exact Option.some.inj hs
  · rw [if_neg c1] at hs ⊢
    cases ho : oneV k with
    | none => rw [ho] at hs; cases hs
    | some q =>
      obtain ⟨k2, i⟩ := q
      rw [ho] at hs
      dsimp only at hs
      split at hs
      · rw [Int.toNat_natCast, r2] at hs
        rw [r1]
        have hf : ts[j].find k2 i = findW ts[j].order k := by
          by_cases hz : k.t = 0
          · have hk0 : k = V.nil := by have := isNil_t hk; rw [decide_eq_true hz] at this; exact of_decide_eq_true this
            subst hk0
            have : oneV V.nil = some (V.nil, 0) := rfl
            rw [this] at ho
            injection ho with ho; injection ho with o1 o2; subst o1; subst o2
            have hnf : findW ts[j].order V.nil = -1 := findL_no fun e he q => (r3.ix.kk e.1 (List.mem_map.2 ⟨e, he, rfl⟩)).nz (by rw [q]; rfl)
            rw [hnf]
            unfold Tb.find
            rw [if_neg (by omega), if_neg (by decide), if_neg (by decide)]
            cases hm : mfind ts[j].refs (packM V.nil) with
            | none => rfl
            | some q =>
              exfalso
              obtain ⟨p, x, _, e2, e3, e4, e5⟩ := r3.ix.rr _ _ (mfind_mem hm)
              have hx := r3.ix.kk x (List.mem_of_getElem? e2)
              obtain ⟨a1, a2, a3⟩ := ref_rng hx e3 e4
              have hnn := hx.nn
              have hp0 : packM V.nil = 0 := pack_val (t := 0) (n := 0) (by decide) (by decide)
              obtain ⟨xt, xn, xs⟩ := x
              dsimp only at a1 a2 a3 hnn
              obtain ⟨y, rfl⟩ : ∃ y : Nat, xt = y := ⟨xt.toNat, by omega⟩
              obtain ⟨z, rfl⟩ : ∃ z : Nat, xn = z := ⟨xn.toNat, by omega⟩
              rw [hp0, pack_val (by omega) (by omega)] at e5
              omega
          · obtain ⟨o1, o2, o3, o4, o5⟩ := one_norm hk hz ho
            rw [r3.ix.find o2 o3 o4 o5]
            unfold findW
            rw [o1]
        unfold getR
        rw [← hf]
        split at hs
        · rename_i c
          rw [if_pos c]
          exact Option.some.inj hs
        · rename_i c
          rw [if_neg c]
          split at hs
          · exact Option.some.inj hs
          · cases hs
      · cases hs
theorem live_eq {nt nc nh : Nat} : ∀ {l : Row}, (∀ e, e ∈ l → VV nt nc nh e.2) → liveL l = (match liveF l with | some e => e | none => (V.nil, V.nil))
  | [], _ => rfl
  | e :: l, h => by
    unfold liveL liveF
    have := isNil_t (h e List.mem_cons_self)
    by_cases c : e.2.t = 0
    · rw [decide_eq_true c] at this
      rw [if_neg (fun q => q c), if_pos this]
      exact live_eq fun x hx => h x (List.mem_cons_of_mem _ hx)
    · rw [decide_eq_false c] at this
      rw [if_pos c, if_neg (by rw [this]; decide)]
theorem next_all (h : TsX ts rs) (hv : ∀ t, t ∈ ts → ∀ e, e ∈ t.order → VV nt nc nh e.2) (hj : j < ts.length) (hk : VV nt nc nh k) {r : V × V × Int} (hs : nextM ts (j : Int) k = some r) : nextW rs j k = r := by
  obtain ⟨r1, r2, r3⟩ := h.row hj
  have hvj := hv _ (List.getElem_mem hj)
  unfold nextM at hs
  rw [if_neg (by omega)] at hs
  unfold nextW
  by_cases c1 : well k = false
  · rw [if_pos c1] at hs ⊢
    exact Option.some.inj hs
  · rw [if_neg c1] at hs ⊢
    dsimp only at hs
    rw [Int.toNat_natCast, r2] at hs
    rw [r1]
    unfold nextR
    have fin : ∀ {p : Int} {n : Nat}, (p + 1).toNat = n → (if -1 ≤ p ∧ p ≤ ts[j].order.length ∧ ts[j].order.length ≤ 1000 then (match liveF (ts[j].order.drop (p + 1).toNat) with | some e => some (e.1, e.2, (0 : Int)) | none => some (V.nil, V.nil, 0)) else none) = some r → ((liveL (ts[j].order.drop n)).1, (liveL (ts[j].order.drop n)).2, (0 : Int)) = r := fun {p n} hn hh => by
      split at hh
      · rw [live_eq (nt := nt) (nc := nc) (nh := nh) (fun e he => hvj e (List.mem_of_mem_drop he)), ← hn]
        cases hl : liveF (ts[j].order.drop (p + 1).toNat) with
        | none => rw [hl] at hh; exact Option.some.inj hh
        | some e => rw [hl] at hh; exact Option.some.inj hh
      · cases hh
    by_cases c2 : k.t ≠ 0
    · rw [if_pos c2] at hs ⊢
      cases ho : oneV k with
      | none => rw [ho] at hs; cases hs
      | some q =>
        obtain ⟨k2, i⟩ := q
        rw [ho] at hs
        dsimp only at hs
        split at hs
        · obtain ⟨o1, o2, o3, o4, o5⟩ := one_norm hk c2 ho
          have hf : ts[j].find k2 i = findW ts[j].order k := by rw [r3.ix.find o2 o3 o4 o5]; unfold findW; rw [o1]
          rw [hf] at hs
          split at hs
          · rename_i c; rw [if_pos c]; exact Option.some.inj hs
          · rename_i c
            rw [if_neg c]
            exact fin (by omega) hs
        · cases hs
    · rw [if_neg c2] at hs ⊢
      have := fin (p := -1) (n := 0) (by decide) hs
      rw [List.drop_zero] at this
      exact this
theorem norm_numK {m : Nat} (h : 1 ≤ m ∧ m ≤ 40) : normV (numK m) = numK m := by
  unfold normV
  rw [if_neg]
  rintro ⟨_, q⟩
  have := toInt_numN h
  rw [q] at this
  have e : ((9223372036854775808 : Int)).toNat = 9223372036854775808 := rfl
  rw [e, toInt_n0] at this
  injection this with this; injection this with this _
  omega
theorem len_go {t : Tb} (hX : TbX t) (hv : ∀ e, e ∈ t.order → VV nt nc nh e.2) : ∀ (r n f : Nat) (m : Int), n + r = t.arr.length → r < f → lenF t (t.arr.drop n) n = some m → ((lenL t.order f n : Nat) : Int) = m
  | 0, n, f + 1, m, hn, hf, h => by
    have hln := hX.ix.ln
    have hle := hX.ix.le
    rw [List.drop_eq_nil_of_le (by omega)] at h
    have hm : (n : Int) = m := Option.some.inj h
    unfold lenL
    rw [if_pos]
    · exact hm
    · unfold findW
      rw [norm_numK ⟨by omega, by omega⟩]
      have : findL t.order (numK (n + 1)) 0 = -1 := findL_no fun e he q => by
        have hin : numK (n + 1) ∈ ky t := by rw [← q]; exact List.mem_map.2 ⟨e, he, rfl⟩
        obtain ⟨p, hp⟩ := List.getElem?_of_mem hin
        rcases (hX.ix.cn p _ hp).1 rfl with ⟨i, i1, i2⟩ | hin2
        · have hi := (List.getElem?_eq_some_iff.1 i1).1
          have a1 := toInt_numN (n := n + 1) ⟨by omega, by omega⟩
          have a2 := toInt_numN (n := i + 1) ⟨by omega, by omega⟩
          rw [i2, a2] at a1
          injection a1 with a1; injection a1 with a1 _
          omega
        · have hne : n = t.arr.length := by omega
          rw [hne] at hin2
          exact hX.cl _ hin2
      rw [this]
      decide
  | r + 1, n, f + 1, m, hn, hf, h => by
    have hln := hX.ix.ln
    have hle := hX.ix.le
    have hi : n < t.arr.length := by omega
    rw [List.drop_eq_getElem_cons hi] at h
    obtain ⟨p, e1, e2⟩ := hX.ix.aa n _ (List.getElem?_eq_getElem hi)
    unfold lenF at h
    rw [e1] at h
    unfold ky at e2
    rw [List.getElem?_map] at e2
    obtain ⟨w, w1, w2⟩ := Option.map_eq_some_iff.1 e2
    have hp := (List.getElem?_eq_some_iff.1 w1).1
    rw [if_pos ⟨by omega, by omega⟩, Int.toNat_natCast, List.getD_eq_getElem?_getD, w1] at h
    dsimp only [Option.getD_some] at h
    have hfw : findW t.order (numK (n + 1)) = (p : Int) := by
      unfold findW
      rw [norm_numK ⟨by omega, by omega⟩, ← w2, findL_of hX.ix.nd w1, Nat.zero_add]
    have hnil := isNil_t (hv w (List.mem_of_getElem? w1))
    unfold lenL
    rw [hfw, if_neg (by omega), Int.toNat_natCast, List.getD_eq_getElem?_getD, w1]
    dsimp only [Option.getD_some]
    by_cases c : w.2.t = 0
    · rw [decide_eq_true c] at hnil
      rw [if_pos hnil] at h
      rw [if_pos c]
      exact Option.some.inj h
    · rw [decide_eq_false c] at hnil
      rw [if_neg (by rw [hnil]; decide)] at h
      rw [if_neg c]
      exact len_go hX hv r (n + 1) f m (by omega) (by omega) h
  | r, n, 0, m, _, hf, _ => by omega
theorem lenF_live {t : Tb} (hX : TbX t) (hd : t.dead = 0) : ∀ (r n : Nat), n + r = t.arr.length → lenF t (t.arr.drop n) n = some (t.arr.length : Int)
  | 0, n, hn => by rw [List.drop_eq_nil_of_le (by omega)]; show some (n : Int) = _; rw [show n = t.arr.length by omega]
  | r + 1, n, hn => by
    have hi : n < t.arr.length := by omega
    rw [List.drop_eq_getElem_cons hi]
    obtain ⟨p, e1, e2⟩ := hX.ix.aa n _ (List.getElem?_eq_getElem hi)
    unfold lenF
    rw [e1]
    unfold ky at e2
    rw [List.getElem?_map] at e2
    obtain ⟨w, w1, w2⟩ := Option.map_eq_some_iff.1 e2
    have hp := (List.getElem?_eq_some_iff.1 w1).1
    rw [if_pos ⟨by omega, by omega⟩, Int.toNat_natCast, List.getD_eq_getElem?_getD, w1]
    dsimp only [Option.getD_some]
    have hnn : ¬ isNilV w.2 = true := fun q => by
      have h0 := hX.dd
      rw [hd] at h0
      have : (t.order.filter fun e => isNilV e.2) = [] := List.length_eq_zero_iff.1 (by omega)
      have hm : w ∈ t.order.filter fun e => isNilV e.2 := List.mem_filter.2 ⟨List.mem_of_getElem? w1, q⟩
      rw [this] at hm
      cases hm
    rw [if_neg hnn]
    exact lenF_live hX hd r (n + 1) (by omega)
theorem len_all (h : TsX ts rs) (hv : ∀ t, t ∈ ts → ∀ e, e ∈ t.order → VV nt nc nh e.2) (hj : j < ts.length) {n e : Int} (hs : lenM ts (j : Int) = some (n, e)) : lenW rs j = n := by
  obtain ⟨r1, r2, r3⟩ := h.row hj
  unfold lenM at hs
  rw [if_neg (by omega)] at hs
  dsimp only at hs
  rw [Int.toNat_natCast, r2] at hs
  unfold lenW
  rw [r1]
  have hln := r3.ix.ln
  have hle := r3.ix.le
  have go : ∀ {m : Int}, lenF ts[j] ts[j].arr 0 = some m → ((lenL ts[j].order 33 0 : Nat) : Int) = m := fun {m} q => len_go r3 (hv _ (List.getElem_mem hj)) ts[j].arr.length 0 33 m (by omega) (by omega) (by simpa using q)
  by_cases c : ts[j].dead = 0
  · rw [if_pos c] at hs
    injection hs with hs; injection hs with e1 e2
    rw [← e1]
    exact go (by have := lenF_live r3 c ts[j].arr.length 0 (by omega); simpa using this)
  · rw [if_neg c] at hs
    split at hs
    · obtain ⟨m, h1, h2⟩ := Option.map_eq_some_iff.1 hs
      injection h2 with h2 _
      rw [← h2]
      exact go h1
    · cases hs
end
end Go.Nm
