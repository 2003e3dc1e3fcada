/- Plain: what holds of a table; every call upon it answers. -/
import Derived.Test.Qxb6500573aGreatDoorFB
import Derived.Test.Qxb6500573aGreatDoorWTabD
import Derived.Test.Qxb6500573aGreatDoorWMig
set_option linter.unusedSimpArgs false
set_option linter.unusedVariables false
set_option linter.unusedSectionVars false
set_option exponentiation.threshold 4000
namespace Go.Wl
open Go Go.Sl Go.Proofs
set_option linter.unusedVariables false
/-- A value in form: nt tables, nc closures, nh threads are there. -/
structure VV (nt nc nh : Nat) (v : V) : Prop where
  wl : well v = true
  nn : 0 ≤ v.n
  num : v.t = 2 → numOk v.n
  tab : v.t = 4 → v.n < nt
  clo : v.t = 5 → v.n < nc
  thr : v.t = 7 → v.n < nh
section
variable {nt nc nh : Nat}
theorem VV.mono {v : V} (h : VV nt nc nh v) {a b c : Nat} (h1 : nt ≤ a) (h2 : nc ≤ b) (h3 : nh ≤ c) : VV a b c v :=
  ⟨h.wl, h.nn, h.num, fun q => by have := h.tab q; omega, fun q => by have := h.clo q; omega, fun q => by have := h.thr q; omega⟩
theorem VV.nil : VV nt nc nh V.nil := ⟨rfl, by decide, fun h => absurd h (by simp [V.nil, boolV]), fun h => absurd h (by simp [V.nil, boolV]), fun h => absurd h (by simp [V.nil, boolV]), fun h => absurd h (by simp [V.nil, boolV])⟩
theorem VV.bool (b : Bool) : VV nt nc nh (boolV b) := by
  cases b <;> exact ⟨rfl, by decide, fun h => absurd h (by simp [V.nil, boolV]), fun h => absurd h (by simp [V.nil, boolV]), fun h => absurd h (by simp [V.nil, boolV]), fun h => absurd h (by simp [V.nil, boolV])⟩
theorem VV.str {s : List UInt8} (h : s.length ≤ 40) : VV nt nc nh ⟨3, 0, s⟩ := ⟨by simp [well, h], by simp, fun h => absurd h (by simp [V.nil, boolV]), fun h => absurd h (by simp [V.nil, boolV]), fun h => absurd h (by simp [V.nil, boolV]), fun h => absurd h (by simp [V.nil, boolV])⟩
theorem VV.numb {n : Int} (h : numOk n) : VV nt nc nh ⟨2, n, []⟩ := ⟨by simp [well], h.1.1, fun _ => h, fun h => absurd h (by simp [V.nil, boolV]), fun h => absurd h (by simp [V.nil, boolV]), fun h => absurd h (by simp [V.nil, boolV])⟩
theorem VV.tabl {n : Nat} (h : n < nt) (h2 : n < 1000) : VV nt nc nh ⟨4, n, []⟩ := ⟨by simp [well]; omega, by simp, fun h => absurd h (by simp [V.nil, boolV]), fun _ => by simpa using h, fun h => absurd h (by simp [V.nil, boolV]), fun h => absurd h (by simp [V.nil, boolV])⟩
theorem VV.clos {n : Nat} (h : n < nc) (h2 : n < 1000) : VV nt nc nh ⟨5, n, []⟩ := ⟨by simp [well]; omega, by simp, fun h => absurd h (by simp [V.nil, boolV]), fun h => absurd h (by simp [V.nil, boolV]), fun _ => by simpa using h, fun h => absurd h (by simp [V.nil, boolV])⟩
theorem VV.thrd {n : Nat} (h : n < nh) (h2 : n < 1000) : VV nt nc nh ⟨7, n, []⟩ := ⟨by simp [well]; omega, by simp, fun h => absurd h (by simp [V.nil, boolV]), fun h => absurd h (by simp [V.nil, boolV]), fun h => absurd h (by simp [V.nil, boolV]), fun _ => by simpa using h⟩
end
structure TbOk (nt nc nh : Nat) (t : Tb) : Prop where
  len : t.order.length ≤ 32
  ord : ∀ e, e ∈ t.order → VV nt nc nh e.1 ∧ VV nt nc nh e.2
  al : t.arr.length ≤ 32 + t.order.length
  ar : ∀ p, p ∈ t.arr → 0 ≤ p ∧ p < t.order.length
  nm : ∀ e, e ∈ t.nums → (0 ≤ e.1 ∧ e.1 < 18446744073709551616) ∧ 0 ≤ e.2 ∧ e.2 < t.order.length
  nd : (t.nums.map (·.1)).Nodup
  sr : ∀ e, e ∈ t.strs → 0 ≤ e.2 ∧ e.2 < t.order.length
  rf : ∀ e, e ∈ t.refs → 0 ≤ e.2 ∧ e.2 < t.order.length
  dd : t.dead = ((t.order.filter fun e => isNilV e.2).length : Int)
theorem TbOk.empty {nt nc nh : Nat} : TbOk nt nc nh Tb.empty := ⟨by decide, fun e h => absurd h (by simp [Tb.empty]), by decide, fun e h => absurd h (by simp [Tb.empty]), fun e h => absurd h (by simp [Tb.empty]), List.nodup_nil, fun e h => absurd h (by simp [Tb.empty]), fun e h => absurd h (by simp [Tb.empty]), rfl⟩
theorem mfind_mem {α β : Type} [DecidableEq α] : ∀ {l : List (α × β)} {k : α} {v : β}, mfind l k = some v → (k, v) ∈ l
  | [], _, _, h => by cases h
  | (k', v') :: l, k, v, h => by
    unfold mfind at h
    split at h
    · rename_i e; injection h with h; subst e; subst h; exact List.mem_cons_self
    · exact List.mem_cons_of_mem _ (mfind_mem h)
theorem mfind_none {α β : Type} [DecidableEq α] : ∀ {l : List (α × β)} {k : α}, mfind l k = none → k ∉ l.map (·.1)
  | [], _, _ => by simp
  | (k', v') :: l, k, h => by
    unfold mfind at h
    split at h
    · cases h
    · rename_i e
      rw [List.map_cons, List.mem_cons]
      rintro (q | q)
      · exact e q
      · exact mfind_none h q
theorem mdel_sub {α β : Type} [DecidableEq α] : ∀ (l : List (α × β)) (k : α), (mdel l k).Sublist l
  | [], _ => List.Sublist.refl _
  | p :: l, k => by
    unfold mdel
    split
    · exact List.sublist_cons_self _ _
    · exact (mdel_sub l k).cons_cons p
section
variable {nt nc nh : Nat} {t : Tb}
theorem findO_ok {l : List (Int × Int)} {n : Nat} (hn : n ≤ 32) (h : ∀ e, e ∈ l → 0 ≤ e.2 ∧ e.2 < (n : Int)) (k : Int) : -1 ≤ findO (mfind l k) ∧ findO (mfind l k) < (n : Int) ∧ (findO (mfind l k) < 0 → mfind l k = none) := by
  cases hq : mfind l k with
  | none => exact ⟨by decide, by show (-1 : Int) < n; omega, fun _ => rfl⟩
  | some p =>
    have := h _ (mfind_mem hq)
    dsimp only at this
    have e : findO (some p) = p := wrap_i64 (by omega) (by omega)
    rw [e]
    exact ⟨by omega, by omega, fun q => by omega⟩
theorem findS_ok {l : List (List UInt8 × Int)} {n : Nat} (hn : n ≤ 32) (h : ∀ e, e ∈ l → 0 ≤ e.2 ∧ e.2 < (n : Int)) (k : List UInt8) : -1 ≤ findO (mfind l k) ∧ findO (mfind l k) < (n : Int) ∧ (findO (mfind l k) < 0 → mfind l k = none) := by
  cases hq : mfind l k with
  | none => exact ⟨by decide, by show (-1 : Int) < n; omega, fun _ => rfl⟩
  | some p =>
    have := h _ (mfind_mem hq)
    dsimp only at this
    have e : findO (some p) = p := wrap_i64 (by omega) (by omega)
    rw [e]
    exact ⟨by omega, by omega, fun q => by omega⟩
theorem TbOk.find (h : TbOk nt nc nh t) (k : V) (i : Int) : -1 ≤ t.find k i ∧ t.find k i < t.order.length ∧ (t.find k i < 0 → (k.t = 2 → mfind t.nums k.n = none) ∧ (k.t = 3 → mfind t.strs k.s = none) ∧ (k.t ≠ 2 → k.t ≠ 3 → mfind t.refs (packM k) = none)) := by
  have hl := h.len
  unfold Tb.find
  by_cases h1 : 1 ≤ i ∧ i ≤ t.arr.length
  · rw [if_pos h1]
    have hi : (i - 1).toNat < t.arr.length := by omega
    rw [List.getD_eq_getElem?_getD, List.getElem?_eq_getElem hi, Option.getD_some]
    have := h.ar _ (List.getElem_mem hi)
    rw [wrap_i64 (by omega) (by omega)]
    exact ⟨by omega, this.2, fun q => by omega⟩
  · rw [if_neg h1]
    by_cases h2 : k.t = 2
    · rw [if_pos h2]
      have := findO_ok hl (fun e he => (h.nm e he).2) k.n
      exact ⟨this.1, this.2.1, fun q => ⟨fun _ => this.2.2 q, fun w => by omega, fun w => absurd h2 w⟩⟩
    · rw [if_neg h2]
      by_cases h3 : k.t = 3
      · rw [if_pos h3]
        have := findS_ok hl h.sr k.s
        exact ⟨this.1, this.2.1, fun q => ⟨fun w => absurd w h2, fun _ => this.2.2 q, fun _ w => absurd h3 w⟩⟩
      · rw [if_neg h3]
        have := findO_ok hl h.rf (packM k)
        exact ⟨this.1, this.2.1, fun q => ⟨fun w => absurd w h2, fun w => absurd w h3, fun _ _ => this.2.2 q⟩⟩
/-- The key's one spelling. -/
theorem one_ok {k : V} (hk : VV nt nc nh k) : ∃ k2 i, oneV k = some (k2, i) ∧ VV nt nc nh k2 ∧ k2.t = k.t ∧ (-9223372036854775808 ≤ i ∧ i ≤ 9223372036854775807) ∧ (k.t = 2 → 0 ≤ k2.n ∧ k2.n < 18446744073709551616) := by
  unfold oneV
  by_cases h : k.t ≠ 2
  · rw [if_pos h]
    exact ⟨k, 0, rfl, hk, rfl, by omega, fun q => absurd q h⟩
  · rw [if_neg h]
    have h2 : k.t = 2 := Decidable.not_not.1 h
    have hn := hk.num h2
    obtain ⟨⟨i, w⟩, hr⟩ := toInt_all (x := k.n.toNat) (by have := hn.1; omega)
    rw [hr]
    dsimp only
    have hb := toInt_bd hr
    cases w with
    | false => rw [if_pos rfl]; exact ⟨k, 0, rfl, hk, rfl, by omega, fun _ => hn.1⟩
    | true =>
      rw [if_neg (by decide)]
      by_cases h0 : i = 0
      · rw [if_pos h0]
        refine ⟨_, _, rfl, ?_, rfl, hb, fun _ => by dsimp only; omega⟩
        refine ⟨?_, by simp, fun _ => ⟨by simp, .inl (by kernel_rfl)⟩, fun q => ?_, fun q => ?_, fun q => ?_⟩
        · have := hk.wl
          unfold well at this ⊢
          dsimp only
          rw [h2] at this ⊢
          simpa using this
        all_goals dsimp only at q; omega
      · rw [if_neg h0]
        exact ⟨k, i, rfl, hk, rfl, hb, fun _ => hn.1⟩
theorem TbOk.mono (h : TbOk nt nc nh t) {a b c : Nat} (h1 : nt ≤ a) (h2 : nc ≤ b) (h3 : nh ≤ c) : TbOk a b c t :=
  ⟨h.len, fun e he => ⟨(h.ord e he).1.mono h1 h2 h3, (h.ord e he).2.mono h1 h2 h3⟩, h.al, h.ar, h.nm, h.nd, h.sr, h.rf, h.dd⟩
theorem filt_set {α : Type} (p : α → Bool) : ∀ {l : List α} {i : Nat} {x : α} (hi : i < l.length), ((l.set i x).filter p).length + (if p l[i] = true then 1 else 0) = (l.filter p).length + (if p x = true then 1 else 0)
  | y :: l, 0, x, _ => by
    rw [List.set_cons_zero, List.getElem_cons_zero, List.filter_cons, List.filter_cons]
    split <;> split <;> simp_all <;> omega
  | y :: l, i + 1, x, hi => by
    have := filt_set p (l := l) (i := i) (x := x) (by simpa using hi)
    rw [List.set_cons_succ, List.getElem_cons_succ, List.filter_cons, List.filter_cons]
    split
    · rw [List.length_cons, List.length_cons]; omega
    · exact this
theorem TbOk.turn (h : TbOk nt nc nh t) {p : Nat} (hp : p < t.order.length) {v : V} (hv : VV nt nc nh v) : TbOk nt nc nh (t.turn p v) := by
  have hgd : t.order.getD p (V.nil, V.nil) = t.order[p] := by rw [List.getD_eq_getElem?_getD, List.getElem?_eq_getElem hp]; rfl
  have hf := filt_set (fun e : V × V => isNilV e.2) (x := (t.order[p].1, v)) hp
  have hd := h.dd
  unfold Tb.turn
  rw [hgd]
  dsimp only
  refine ⟨by simpa using h.len, fun e he => ?_, by simpa using h.al, by simpa using h.ar, by simpa using h.nm, h.nd, by simpa using h.sr, by simpa using h.rf, ?_⟩
  · rcases List.mem_or_eq_of_mem_set he with he | he
    · exact h.ord e he
    · subst he
      exact ⟨(h.ord _ (List.getElem_mem hp)).1, hv⟩
  · dsimp only
    dsimp only at hf
    cases ha : isNilV t.order[p].2 <;> cases hb : isNilV v <;> rw [ha, hb] at hf <;> simp at hf ⊢ <;> omega
end
theorem cand_some {n : Nat} {x : Int} (h : cand n x ≠ 0) : toIntM x.toNat = some (cand n x, true) ∧ 0 < cand n x ∧ cand n x ≤ 32 := by
  unfold cand at h ⊢
  cases hq : toIntM x.toNat with
  | none => rw [hq] at h; exact absurd rfl h
  | some r =>
    obtain ⟨i, w⟩ := r
    rw [hq] at h
    cases w with
    | false => exact absurd rfl h
    | true =>
      dsimp only at h ⊢
      by_cases hi : (n : Int) < i ∧ i ≤ 32
      · rw [if_pos hi] at h ⊢
        exact ⟨rfl, by omega, hi.2⟩
      · rw [if_neg hi] at h; exact absurd rfl h
theorem nodup_key {α β : Type} : ∀ {l : List (α × β)}, (l.map (·.1)).Nodup → ∀ {a b : α × β}, a ∈ l → b ∈ l → a.1 = b.1 → a = b
  | [], _, _, _, h, _, _ => by cases h
  | x :: l, hn, a, b, ha, hb, he => by
    rw [List.map_cons, List.nodup_cons] at hn
    rcases List.mem_cons.1 ha with ea | ha
    · rcases List.mem_cons.1 hb with eb | hb
      · rw [ea, eb]
      · exact absurd (List.mem_map.2 ⟨b, hb, by rw [← he, ea]⟩) hn.1
    · rcases List.mem_cons.1 hb with eb | hb
      · exact absurd (List.mem_map.2 ⟨a, ha, by rw [he, eb]⟩) hn.1
      · exact nodup_key hn.2 ha hb he
theorem atF_mem (n : Nat) : ∀ (l : List (Int × Int)) (a : List Int) (q : Int → Prop), (∀ j, q (a.getD j 0)) → (∀ e, e ∈ l → q (e.2 + 1)) → ∀ j, q ((l.foldl (atS n) a).getD j 0)
  | [], a, q, h, _ => h
  | e :: l, a, q, h, h2 => by
    rw [List.foldl_cons]
    refine atF_mem n l _ q (fun j => ?_) (fun e he => h2 e (List.mem_cons_of_mem _ he))
    unfold atS
    split
    · exact h j
    · rw [List.getD_eq_getElem?_getD]
      by_cases hj : (cand n e.1).toNat = j
      · subst hj
        by_cases hl : (cand n e.1).toNat < a.length
        · rw [List.getElem?_set_self hl]; exact h2 e List.mem_cons_self
        · rw [List.getElem?_eq_none (by simp; omega)]
          have := h (a.length)
          rwa [List.getD_eq_getElem?_getD, List.getElem?_eq_none (Nat.le_refl _)] at this
      · rw [List.getElem?_set_ne hj]
        have := h j
        rwa [List.getD_eq_getElem?_getD] at this
section
variable {nt nc nh : Nat}
theorem mov_ok {a : List Int} {m : Nat} (ha : ∀ j, a.getD j 0 = 0 ∨ (0 ≤ a.getD j 0 - 1 ∧ a.getD j 0 - 1 < (m : Int))) : ∀ (k : Nat) {t : Tb}, TbOk nt nc nh t → t.order.length = m → 1 ≤ k → 33 ≤ t.arr.length + k → ∃ t2, movL a k t = some t2 ∧ TbOk nt nc nh t2
  | 0, t, _, _, h, _ => by omega
  | k + 1, t, h, hm, _, hk => by
    unfold movL
    by_cases h1 : t.arr.length + 1 ≤ 32
    · rw [if_pos h1]
      by_cases h2 : a.getD (t.arr.length + 1) 0 ≠ 0
      · rw [if_pos h2]
        have h3 := (ha (t.arr.length + 1)).resolve_left h2
        rw [if_pos (by omega)]
        refine mov_ok ha k ?_ hm (by omega) (by simp; omega)
        refine ⟨h.len, h.ord, by simp; omega, fun p hp => ?_, fun e he => h.nm e ((mdel_sub _ _).mem he), ?_, h.sr, h.rf, h.dd⟩
        · rcases List.mem_append.1 hp with hp | hp
          · exact h.ar p hp
          · rw [List.mem_singleton] at hp
            subst hp
            dsimp only
            omega
        · exact h.nd.sublist ((mdel_sub _ _).map _)
      · rw [if_neg h2]; exact ⟨t, rfl, h⟩
    · rw [if_neg h1]; exact ⟨t, rfl, h⟩
theorem mig_ok {t : Tb} (h : TbOk nt nc nh t) : ∃ t2, migM t = some t2 ∧ TbOk nt nc nh t2 := by
  unfold migM
  by_cases h0 : t.nums = []
  · rw [if_pos h0]; exact ⟨t, rfl, h⟩
  · rw [if_neg h0]
    have hl := h.len
    have ha := h.al
    have h1 : numsOk t.nums = true := by
      unfold numsOk
      refine List.all_eq_true.2 fun e he => ?_
      obtain ⟨q1, q2⟩ := h.nm e he
      obtain ⟨r, hr⟩ := toInt_all (x := e.1.toNat) (by omega)
      rw [Bool.and_eq_true]
      exact ⟨decide_eq_true (by omega), by rw [hr]; rfl⟩
    have h2 : injB t.arr.length t.nums = true := by
      unfold injB
      refine List.all_eq_true.2 fun e he => List.all_eq_true.2 fun e' he' => decide_eq_true fun q1 q2 => ?_
      obtain ⟨a1, a2, a3⟩ := cand_some q2
      obtain ⟨b1, b2, b3⟩ := cand_some (n := t.arr.length) (x := e'.1) (by rw [← q1]; exact q2)
      have g1 := h.nm e he
      have g2 := h.nm e' he'
      have c1 := toInt_inj (by omega) a1 a2 (by omega)
      have c2 := toInt_inj (by omega) b1 b2 (by omega)
      refine nodup_key h.nd he he' ?_
      rw [q1, ← c2] at c1
      omega
    rw [if_pos ⟨h1, h2, by omega, by omega⟩]
    refine mov_ok (m := t.order.length) (fun j => ?_) 34 h rfl (by decide) (by omega)
    refine atF_mem t.arr.length t.nums (List.replicate 33 0) (fun x => x = 0 ∨ (0 ≤ x - 1 ∧ x - 1 < (t.order.length : Int))) (fun j => .inl ?_) (fun e he => .inr ?_) j
    · rw [List.getD_eq_getElem?_getD, List.getElem?_replicate]; split <;> rfl
    · have := (h.nm e he).2; omega
theorem filt_snoc {α : Type} (p : α → Bool) (l : List α) {x : α} (h : p x = false) : ((l ++ [x]).filter p).length = (l.filter p).length := by
  rw [List.filter_append, List.filter_cons, h]; simp
theorem set_ok {t : Tb} (h : TbOk nt nc nh t) {k v : V} (hk : VV nt nc nh k) (hv : VV nt nc nh v) (hkn : k.t = 2 → 0 ≤ k.n ∧ k.n < 18446744073709551616) (i : Int) : ∃ t2 e, setT t k v i = some (t2, e) ∧ TbOk nt nc nh t2 ∧ (e = 0 ∨ e = 8) := by
  have hl := h.len
  have ha := h.al
  obtain ⟨f1, f2, f3⟩ := h.find k i
  unfold setT
  dsimp only
  by_cases h1 : 0 ≤ t.find k i
  · rw [if_pos h1]
    have hd := h.dd
    have hd2 : (t.order.filter fun e => isNilV e.2).length ≤ t.order.length := List.length_filter_le _ _
    rw [if_pos ⟨f2, by omega, by omega, by omega⟩]
    exact ⟨_, _, rfl, h.turn (by omega) hv, .inl rfl⟩
  rw [if_neg h1]
  by_cases h2 : isNilV v = true
  · rw [if_pos h2]; exact ⟨_, _, rfl, h, .inl rfl⟩
  rw [if_neg h2]
  by_cases h3 : 32 ≤ t.order.length
  · rw [if_pos h3]; exact ⟨_, _, rfl, h, .inr rfl⟩
  rw [if_neg h3, if_neg (by omega)]
  have h2' : isNilV v = false := by simpa using h2
  obtain ⟨g1, g2, g3⟩ := f3 (by omega)
  have hadd : ∀ t1 : Tb, t1.order = t.order ++ [(k, v)] → t1.dead = t.dead → (t1.arr = t.arr ∨ t1.arr = t.arr ++ [(t.order.length : Int)]) → t1.nums = t.nums → t1.strs = t.strs → t1.refs = t.refs → TbOk nt nc nh t1 := fun t1 e1 e2 e3 e4 e5 e6 => by
    have hle : t1.order.length = t.order.length + 1 := by rw [e1]; simp
    refine ⟨by omega, fun e he => ?_, ?_, fun p hp => ?_, fun e he => ?_, by rw [e4]; exact h.nd, fun e he => ?_, fun e he => ?_, ?_⟩
    · rw [e1] at he
      rcases List.mem_append.1 he with he | he
      · exact h.ord e he
      · rw [List.mem_singleton] at he; subst he; exact ⟨hk, hv⟩
    · rcases e3 with e3 | e3
      · rw [e3]; omega
      · rw [e3, List.length_append, List.length_singleton]; omega
    · rcases e3 with e3 | e3
      · rw [e3] at hp
        have := h.ar p hp
        omega
      · rw [e3] at hp
        rcases List.mem_append.1 hp with hp | hp
        · have := h.ar p hp
          omega
        · rw [List.mem_singleton] at hp
          omega
    · rw [e4] at he
      have := h.nm e he
      omega
    · rw [e5] at he
      have := h.sr e he
      omega
    · rw [e6] at he
      have := h.rf e he
      omega
    · rw [e2, h.dd, e1, filt_snoc (fun e : V × V => isNilV e.2) _ (x := (k, v)) h2']
  by_cases h4 : i ≠ t.arr.length + 1
  · rw [if_pos h4]
    have h0 := hadd { t with order := t.order ++ [(k, v)] } rfl rfl (.inl rfl) rfl rfl rfl
    unfold Tb.index
    by_cases k2 : k.t = 2
    · rw [if_pos k2, if_pos (g1 k2)]
      refine ⟨_, _, rfl, ⟨h0.len, h0.ord, h0.al, h0.ar, fun e he => ?_, ?_, h0.sr, h0.rf, h0.dd⟩, .inl rfl⟩
      · rcases List.mem_append.1 he with he | he
        · exact h0.nm e he
        · rw [List.mem_singleton] at he
          subst he
          have := hkn k2
          dsimp only
          rw [List.length_append]
          simp
          omega
      · dsimp only
        rw [List.map_append, List.nodup_append]
        refine ⟨h.nd, by simp, fun a ha b hb => ?_⟩
        rw [List.map_singleton, List.mem_singleton] at hb
        subst hb
        exact fun q => mfind_none (g1 k2) (by dsimp only at q; rw [← q]; exact ha)
    · rw [if_neg k2]
      by_cases k3 : k.t = 3
      · rw [if_pos k3, if_pos (g2 k3)]
        refine ⟨_, _, rfl, ⟨h0.len, h0.ord, h0.al, h0.ar, h0.nm, h0.nd, fun e he => ?_, h0.rf, h0.dd⟩, .inl rfl⟩
        rcases List.mem_append.1 he with he | he
        · exact h0.sr e he
        · rw [List.mem_singleton] at he
          subst he
          dsimp only
          rw [List.length_append]
          simp
          omega
      · rw [if_neg k3, if_pos (g3 k2 k3)]
        refine ⟨_, _, rfl, ⟨h0.len, h0.ord, h0.al, h0.ar, h0.nm, h0.nd, h0.sr, fun e he => ?_, h0.dd⟩, .inl rfl⟩
        rcases List.mem_append.1 he with he | he
        · exact h0.rf e he
        · rw [List.mem_singleton] at he
          subst he
          dsimp only
          rw [List.length_append]
          simp
          omega
  · rw [if_neg h4]
    have h0 := hadd { t with order := t.order ++ [(k, v)], arr := t.arr ++ [(t.order.length : Int)] } rfl rfl (.inr rfl) rfl rfl rfl
    obtain ⟨t2, h5, h6⟩ := mig_ok h0
    rw [h5]
    exact ⟨_, _, rfl, h6, .inl rfl⟩
/-- All tables. -/
def TsOk (nt nc nh : Nat) (ts : List Tb) : Prop := ∀ t, t ∈ ts → TbOk nt nc nh t
theorem TsOk.at {ts : List Tb} (h : TsOk nt nc nh ts) {i : Int} (h0 : 0 ≤ i ∧ i < ts.length) : TbOk nt nc nh (ts.getD i.toNat Tb.empty) := by
  rw [List.getD_eq_getElem?_getD, List.getElem?_eq_getElem (by omega), Option.getD_some]
  exact h _ (List.getElem_mem _)
theorem setM_ok {ts : List Tb} (h : TsOk nt nc nh ts) {i : Int} (h0 : 0 ≤ i ∧ i < ts.length) {k v : V} (hk : VV nt nc nh k) (hv : VV nt nc nh v) : ∃ ts2 e, setM ts i k v = some (ts2, e) ∧ TsOk nt nc nh ts2 ∧ ts2.length = ts.length ∧ (e = 0 ∨ e = 5 ∨ e = 6 ∨ e = 8) := by
  unfold setM
  rw [if_neg (by omega), if_neg (by rw [hk.wl, hv.wl]; simp)]
  by_cases h1 : k.t = 0
  · rw [if_pos h1]; exact ⟨_, _, rfl, h, rfl, .inr (.inl rfl)⟩
  rw [if_neg h1]
  by_cases h2 : k.t = 2 ∧ cmpM 2 k.n.toNat k.n.toNat = true
  · rw [if_pos h2]; exact ⟨_, _, rfl, h, rfl, .inr (.inr (.inl rfl))⟩
  rw [if_neg h2]
  obtain ⟨k2, j, h3, h4, h5, h6, h7⟩ := one_ok hk
  rw [h3]
  dsimp only
  rw [if_pos h6]
  obtain ⟨t2, e, h8, h9, h10⟩ := set_ok (h.at h0) h4 hv (by rw [h5]; exact h7) j
  rw [h8]
  refine ⟨_, _, rfl, fun t ht => ?_, by simp, by rcases h10 with h | h <;> simp [h]⟩
  rcases List.mem_or_eq_of_mem_set ht with ht | ht
  · exact h t ht
  · subst ht; exact h9
theorem getM_ok {ts : List Tb} (h : TsOk nt nc nh ts) {i : Int} (h0 : 0 ≤ i ∧ i < ts.length) {k : V} (hk : VV nt nc nh k) : ∃ v, getM ts i k = some (v, 0) ∧ VV nt nc nh v := by
  unfold getM
  rw [if_neg (by omega), if_neg (by rw [hk.wl]; simp)]
  obtain ⟨k2, j, h3, h4, h5, h6, h7⟩ := one_ok hk
  rw [h3]
  dsimp only
  rw [if_pos h6]
  have ht := h.at h0
  obtain ⟨f1, f2, f3⟩ := ht.find k2 j
  by_cases h8 : (ts.getD i.toNat Tb.empty).find k2 j < 0
  · rw [if_pos h8]; exact ⟨_, rfl, VV.nil⟩
  · rw [if_neg h8, if_pos f2]
    refine ⟨_, rfl, ?_⟩
    rw [List.getD_eq_getElem?_getD, List.getElem?_eq_getElem (by omega), Option.getD_some]
    exact (ht.ord _ (List.getElem_mem _)).2
theorem liveF_mem : ∀ {l : List (V × V)} {e : V × V}, liveF l = some e → e ∈ l
  | [], _, h => by cases h
  | x :: l, e, h => by
    unfold liveF at h
    split at h
    · exact List.mem_cons_of_mem _ (liveF_mem h)
    · injection h with h; subst h; exact List.mem_cons_self
theorem nextM_ok {ts : List Tb} (h : TsOk nt nc nh ts) {i : Int} (h0 : 0 ≤ i ∧ i < ts.length) {k : V} (hk : VV nt nc nh k) : ∃ r, nextM ts i k = some r ∧ VV nt nc nh r.1 ∧ VV nt nc nh r.2.1 := by
  have ht := h.at h0
  have hfin : ∀ p : Int, -1 ≤ p → p < (ts.getD i.toNat Tb.empty).order.length → ∃ r : V × V × Int, (if -1 ≤ p ∧ p ≤ (ts.getD i.toNat Tb.empty).order.length ∧ (ts.getD i.toNat Tb.empty).order.length ≤ 1000 then (match liveF ((ts.getD i.toNat Tb.empty).order.drop (p + 1).toNat) with
      | some e => some (e.1, e.2, (0 : Int))
      | none => some (V.nil, V.nil, 0)) else none) = some r ∧ VV nt nc nh r.1 ∧ VV nt nc nh r.2.1 := fun p hp1 hp2 => by
    have hl := ht.len
    rw [if_pos ⟨hp1, by omega, by omega⟩]
    cases hq : liveF ((ts.getD i.toNat Tb.empty).order.drop (p + 1).toNat) with
    | none => exact ⟨_, rfl, VV.nil, VV.nil⟩
    | some e =>
      have := ht.ord e (List.mem_of_mem_drop (liveF_mem hq))
      exact ⟨_, rfl, this.1, this.2⟩
  unfold nextM
  rw [if_neg (by omega), if_neg (by rw [hk.wl]; simp)]
  dsimp only
  by_cases h1 : k.t ≠ 0
  · rw [if_pos h1]
    obtain ⟨k2, j, h3, h4, h5, h6, h7⟩ := one_ok hk
    rw [h3]
    dsimp only
    rw [if_pos h6]
    obtain ⟨f1, f2, f3⟩ := ht.find k2 j
    by_cases h8 : (ts.getD i.toNat Tb.empty).find k2 j < 0
    · rw [if_pos h8]; exact ⟨_, rfl, VV.nil, VV.nil⟩
    · rw [if_neg h8]
      exact hfin _ f1 f2
  · rw [if_neg h1]
    exact hfin _ (by omega) (by omega)
theorem lenF_ok {t : Tb} : ∀ (l : List Int) (n : Nat), (∀ p, p ∈ l → 0 ≤ p ∧ p < t.order.length) → ∃ m : Nat, lenF t l n = some (m : Int) ∧ m ≤ n + l.length
  | [], n, _ => ⟨n, rfl, by simp⟩
  | p :: l, n, h => by
    unfold lenF
    rw [if_pos (h p List.mem_cons_self)]
    split
    · exact ⟨n, rfl, by omega⟩
    · obtain ⟨m, h1, h2⟩ := lenF_ok l (n + 1) (fun q hq => h q (List.mem_cons_of_mem _ hq))
      exact ⟨m, h1, by simp; omega⟩
theorem lenM_ok {ts : List Tb} (h : TsOk nt nc nh ts) {i : Int} (h0 : 0 ≤ i ∧ i < ts.length) : ∃ m : Nat, lenM ts i = some ((m : Int), 0) ∧ m ≤ 1000 := by
  have ht := h.at h0
  have hl := ht.len
  have ha := ht.al
  unfold lenM
  rw [if_neg (by omega)]
  dsimp only
  by_cases h1 : (ts.getD i.toNat Tb.empty).dead = 0
  · rw [if_pos h1]; exact ⟨_, rfl, by omega⟩
  · rw [if_neg h1, if_pos (by omega)]
    obtain ⟨m, h2, h3⟩ := lenF_ok (t := ts.getD i.toNat Tb.empty) (ts.getD i.toNat Tb.empty).arr 0 ht.ar
    rw [h2]
    exact ⟨m, rfl, by omega⟩
end
end Go.Wl
