/- Plain: the real table's list is the model's row: find, set. -/
import Derived.Test.Qxb6500573aGreatDoorTX
set_option linter.unusedSimpArgs false
set_option linter.unusedVariables false
set_option linter.unusedSectionVars false
namespace Go.Nm
open Go Go.Sl Go.Wl Go.Proofs
/-- A key in its one spelling. -/
structure KN (k : V) : Prop where
  wl : well k = true
  nz : k.t ≠ 0
  nn : 0 ≤ k.n
  nu : k.t = 2 → (0 ≤ k.n ∧ k.n < 18446744073709551616) ∧ k.n ≠ 9223372036854775808
/-- The index over the keys is exact (but the array part may be open). -/
structure IX (ks : List V) (arr : List Int) (nums : List (Int × Int)) (strs : List (List UInt8 × Int)) (refs : List (Int × Int)) : Prop where
  le : ks.length ≤ 32
  nd : ks.Nodup
  kk : ∀ k, k ∈ ks → KN k
  aa : ∀ (i : Nat) (q : Int), arr[i]? = some q → ∃ p : Nat, q = p ∧ ks[p]? = some (numK (i + 1))
  nn : ∀ b q, (b, q) ∈ nums → (∃ p : Nat, q = p ∧ ks[p]? = some ⟨2, b, []⟩) ∧ ∀ i, toIntM b.toNat = some (i, true) → ¬ (1 ≤ i ∧ i ≤ arr.length)
  ss : ∀ s q, (s, q) ∈ strs → ∃ p : Nat, q = p ∧ ks[p]? = some ⟨3, 0, s⟩
  rr : ∀ u q, (u, q) ∈ refs → ∃ (p : Nat) (k : V), q = p ∧ ks[p]? = some k ∧ k.t ≠ 2 ∧ k.t ≠ 3 ∧ packM k = u
  cn : ∀ (p : Nat) (k : V), ks[p]? = some k → (k.t = 2 → (∃ i : Nat, arr[i]? = some (p : Int) ∧ k = numK (i + 1)) ∨ (k.n, (p : Int)) ∈ nums) ∧ (k.t = 3 → (k.s, (p : Int)) ∈ strs) ∧ (k.t ≠ 2 → k.t ≠ 3 → (packM k, (p : Int)) ∈ refs)
  n1 : (nums.map (·.1)).Nodup
  n2 : (strs.map (·.1)).Nodup
  n3 : (refs.map (·.1)).Nodup
  ln : arr.length + nums.length + strs.length + refs.length = ks.length
def ky (t : Tb) : List V := t.order.map (·.1)
structure TbX (t : Tb) : Prop where
  ix : IX (ky t) t.arr t.nums t.strs t.refs
  cl : ∀ q, ((numK (t.arr.length + 1)).n, q) ∉ t.nums
  dd : t.dead = ((t.order.filter fun e => isNilV e.2).length : Int)
theorem mfind_of {α β : Type} [DecidableEq α] : ∀ {l : List (α × β)} {k : α} {v : β}, (l.map (·.1)).Nodup → (k, v) ∈ l → mfind l k = some v
  | [], _, _, _, h => by cases h
  | (a, b) :: l, k, v, hn, h => by
    rw [List.map_cons, List.nodup_cons] at hn
    unfold mfind
    rcases List.mem_cons.1 h with e | h
    · injection e with e1 e2; subst e1; subst e2; rw [if_pos rfl]
    · rw [if_neg (fun q => hn.1 (List.mem_map.2 ⟨(k, v), h, q⟩))]
      exact mfind_of hn.2 h
theorem findL_of : ∀ {l : Row} {i p : Nat} {e : V × V}, (l.map (·.1)).Nodup → l[p]? = some e → findL l e.1 i = ((i + p : Nat) : Int)
  | [], i, p, e, _, h => by cases h
  | a :: l, i, 0, e, _, h => by injection h with h; subst h; unfold findL; rw [if_pos rfl]; rfl
  | a :: l, i, p + 1, e, hn, h => by
    rw [List.map_cons, List.nodup_cons] at hn
    unfold findL
    have hm : e ∈ l := List.mem_of_getElem? h
    rw [if_neg (fun q => hn.1 (by rw [q]; exact List.mem_map.2 ⟨e, hm, rfl⟩)), findL_of hn.2 h]
    congr 1
    omega
theorem findL_no : ∀ {l : Row} {i : Nat} {k : V}, (∀ e, e ∈ l → e.1 ≠ k) → findL l k i = -1
  | [], _, _, _ => rfl
  | a :: l, i, k, h => by
    unfold findL
    rw [if_neg (h a List.mem_cons_self)]
    exact findL_no fun e he => h e (List.mem_cons_of_mem _ he)
theorem well_num {k : V} (h : well k = true) (ht : k.t = 2) : k.s = [] := by
  unfold well at h
  rw [if_neg (by omega)] at h
  split at h
  · cases h
  · rename_i q
    exact Decidable.byContradiction fun w => q (.inl (fun e => w (List.length_eq_zero_iff.1 e)))
theorem well_str {k : V} (h : well k = true) (ht : k.t = 3) : k.n = 0 := by
  unfold well at h
  rw [if_pos ht] at h
  have := of_decide_eq_true h
  exact this.1
/-- The key's one spelling; the whole number that it is, or none of those that count. -/
theorem one_norm {nt nc nh : Nat} {k : V} (hk : VV nt nc nh k) (hz : k.t ≠ 0) {k2 : V} {i : Int} (h : oneV k = some (k2, i)) :
    k2 = normV k ∧ KN k2 ∧ (k2.t ≠ 2 → i = 0) ∧ (1 ≤ i → i ≤ 40 → k2 = numK i.toNat) ∧ (∀ n : Nat, 1 ≤ n → n ≤ 40 → k2 = numK n → i = n) := by
  unfold oneV at h
  unfold normV
  by_cases h2 : k.t = 2
  · rw [if_neg (fun q => q h2)] at h
    have hs := well_num hk.wl h2
    have hn := hk.num h2
    have hb := hn.1
    obtain ⟨x, hx⟩ : ∃ x : Nat, k.n = x := ⟨k.n.toNat, by omega⟩
    rw [hx, Int.toNat_natCast] at h
    have hxl : x < 18446744073709551616 := by omega
    have hkk : k = ⟨2, (x : Int), []⟩ := by
      obtain ⟨a, b, c⟩ := k
      dsimp only at h2 hs hx
      rw [h2, hs, hx]
    have num : ∀ {y : Nat} {j : Int}, y < 18446744073709551616 → toIntM y = some (j, true) → 1 ≤ j → j ≤ 40 → (⟨2, (y : Int), []⟩ : V) = numK j.toNat := fun {y j} hy hj h1 h40 => by
      have := toInt_inj hy hj (by omega) (by omega)
      unfold numK
      rw [this, show ((j.toNat : Nat) : Int) = j by omega]
    have knn : ∀ {y : Nat}, y < 18446744073709551616 → y ≠ 9223372036854775808 → KN (⟨2, (y : Int), []⟩ : V) := fun hy hne => ⟨by simp [well], by simp, by simp, fun _ => ⟨by dsimp only; omega, by dsimp only; omega⟩⟩
    obtain ⟨⟨j, w⟩, hr⟩ := toInt_all hxl
    rw [hr] at h
    dsimp only at h
    have inv : ∀ {y : Nat}, ∀ n : Nat, 1 ≤ n → n ≤ 40 → (⟨2, (y : Int), []⟩ : V) = numK n → toIntM y = some ((n : Int), true) := fun {y} n h1 h2 he => by
      have := toInt_numN ⟨h1, h2⟩
      rw [← he] at this
      exact this
    cases w with
    | false =>
      rw [if_pos rfl] at h
      injection h with h; injection h with e1 e2; subst e1; subst e2
      have hne : x ≠ 9223372036854775808 := fun q => by rw [q, toInt_n0] at hr; cases hr
      rw [if_neg (fun q => hne (by have := q.2; omega))]
      rw [hkk]
      refine ⟨rfl, knn hxl hne, fun q => absurd rfl q, fun q => by omega, fun n h1 h2 he => ?_⟩
      rw [inv n h1 h2 he] at hr
      cases hr
    | true =>
      rw [if_neg (by decide)] at h
      by_cases h0 : j = 0
      · rw [if_pos h0] at h
        injection h with h; injection h with e1 e2; subst e1; subst e2
        subst h0
        rw [hkk]
        dsimp only
        have hz2 := toInt_zero hxl hr
        refine ⟨?_, knn (y := 0) (by decide) (by decide), fun q => absurd rfl q, fun q => by omega, fun n h1 h2 he => ?_⟩
        · rcases hz2 with rfl | rfl
          · rw [if_neg (by decide)]; rfl
          · rw [if_pos (by decide)]
        · have := inv (y := 0) n h1 h2 he
          rw [toInt_0] at this
          injection this with this; injection this with this _
      · rw [if_neg h0] at h
        injection h with h; injection h with e1 e2; subst e1; subst e2
        have hne : x ≠ 9223372036854775808 := fun q => by rw [q, toInt_n0] at hr; injection hr with hr; injection hr with hr _; exact h0 hr.symm
        rw [if_neg (fun q => hne (by have := q.2; omega))]
        rw [hkk]
        refine ⟨rfl, knn hxl hne, fun q => absurd rfl q, fun h1 h40 => num hxl hr h1 h40, fun n h1 h2 he => ?_⟩
        rw [inv n h1 h2 he] at hr
        injection hr with hr; injection hr with hr _
        exact hr.symm
  · rw [if_pos h2] at h
    injection h with h; injection h with e1 e2; subst e1; subst e2
    rw [if_neg (fun q => h2 q.1)]
    refine ⟨rfl, ⟨hk.wl, hz, hk.nn, fun q => absurd q h2⟩, fun _ => rfl, fun q => by omega, fun n h1 h2' he => ?_⟩
    rw [he] at h2
    exact absurd rfl h2
theorem numK_n (n : Nat) : (numK n).t = 2 := rfl
theorem wrapP {p : Nat} (h : p ≤ 1000) : IntKind.i64.wrap (p : Int) = p := by rw [IntKind.wrap_i64]; omega
theorem pack_val {t n : Nat} {s : List UInt8} (ht : t ≤ 7) (hn : n < 4294967296) : packM ⟨t, n, s⟩ = ((t * 4294967296 + n : Nat) : Int) := by
  have e0 : IntKind.u64.wrap (IntKind.u64.wrap (t : Int) * 4294967296) = ((t * 4294967296 : Nat) : Int) := by
    rw [IntKind.wrap_u64, IntKind.wrap_u64]
    omega
  unfold packM bitI
  dsimp only
  rw [e0]
  have e1 : (BitVec.ofInt IntKind.u64.bits ((t * 4294967296 : Nat) : Int)).toNat = t * 4294967296 := by
    rw [BitVec.toNat_ofInt]
    show (((t * 4294967296 : Nat) : Int) % ((2 ^ 64 : Nat) : Int)).toNat = _
    have : (2 ^ 64 : Nat) = 18446744073709551616 := by decide
    rw [this]
    omega
  have e2 : (BitVec.ofInt IntKind.u64.bits ((n : Nat) : Int)).toNat = n := by
    rw [BitVec.toNat_ofInt]
    show (((n : Nat) : Int) % ((2 ^ 64 : Nat) : Int)).toNat = _
    have : (2 ^ 64 : Nat) = 18446744073709551616 := by decide
    rw [this]
    omega
  rw [BitVec.toNat_or, e1, e2]
  have e3 := Nat.two_pow_add_eq_or_of_lt (i := 32) (b := n) (by simpa using hn) t
  rw [show (2 : Nat) ^ 32 = 4294967296 from by decide] at e3
  rw [Nat.mul_comm t, ← e3, IntKind.wrap_u64]
  omega
theorem ref_rng {v : V} (hv : KN v) (q2 : v.t ≠ 2) (q3 : v.t ≠ 3) : (1 ≤ v.t ∧ v.t ≤ 7) ∧ v.s = [] ∧ v.n < 4294967296 := by
  have w := hv.wl
  have z := hv.nz
  unfold well at w
  rw [if_neg q3] at w
  by_cases c : v.s.length ≠ 0 ∨ v.t < 0 ∨ 7 < v.t
  · rw [if_pos c] at w; cases w
  · rw [if_neg c, if_neg z] at w
    have hs : v.s = [] := Decidable.byContradiction fun x => c (.inl (fun e => x (List.length_eq_zero_iff.1 e)))
    refine ⟨by omega, hs, ?_⟩
    by_cases c1 : v.t = 1
    · rw [if_pos c1] at w; have := of_decide_eq_true w; omega
    rw [if_neg c1] at w
    by_cases c6 : v.t = 6
    · rw [if_pos c6] at w; have := of_decide_eq_true w; omega
    rw [if_neg c6, if_pos (by omega)] at w
    exact of_decide_eq_true w
theorem pack_inj {a b : V} (ha : KN a) (hb : KN b) (h1 : a.t ≠ 2) (h2 : a.t ≠ 3) (h3 : b.t ≠ 2) (h4 : b.t ≠ 3) (h : packM a = packM b) : a = b := by
  obtain ⟨a1, a2, a3⟩ := ref_rng ha h1 h2
  obtain ⟨b1, b2, b3⟩ := ref_rng hb h3 h4
  have an := ha.nn
  have bn := hb.nn
  obtain ⟨at_, an_, as_⟩ := a
  obtain ⟨bt, bn_, bs⟩ := b
  dsimp only at *
  obtain ⟨x, rfl⟩ : ∃ x : Nat, at_ = x := ⟨at_.toNat, by omega⟩
  obtain ⟨y, rfl⟩ : ∃ x : Nat, bt = x := ⟨bt.toNat, by omega⟩
  obtain ⟨z, rfl⟩ : ∃ x : Nat, an_ = x := ⟨an_.toNat, by omega⟩
  obtain ⟨w, rfl⟩ : ∃ x : Nat, bn_ = x := ⟨bn_.toNat, by omega⟩
  rw [pack_val (by omega) (by omega), pack_val (by omega) (by omega)] at h
  have e1 : x = y := by omega
  have e2 : z = w := by omega
  rw [e1, e2, a2, b2]
/-- The index finds what the list holds. -/
theorem IX.find {t : Tb} (h : IX (ky t) t.arr t.nums t.strs t.refs) {k2 : V} {i : Int} (hk : KN k2) (h0 : k2.t ≠ 2 → i = 0) (h1 : 1 ≤ i → i ≤ 40 → k2 = numK i.toNat) (h2 : ∀ n : Nat, 1 ≤ n → n ≤ 40 → k2 = numK n → i = n) : t.find k2 i = findL t.order k2 0 := by
  have hl := h.le
  have hal : t.arr.length ≤ 32 := by have := h.ln; omega
  have at_ : ∀ {p : Nat}, (ky t)[p]? = some k2 → IntKind.i64.wrap (p : Int) = findL t.order k2 0 := fun {p} hp => by
    have hlt := (List.getElem?_eq_some_iff.1 hp).1
    unfold ky at hp
    rw [List.getElem?_map] at hp
    obtain ⟨e, he, rfl⟩ := Option.map_eq_some_iff.1 hp
    rw [findL_of h.nd he, Nat.zero_add, wrapP (by omega)]
  have no : k2 ∉ ky t → (-1 : Int) = findL t.order k2 0 := fun q => (findL_no fun e he w => q (by rw [← w]; exact List.mem_map.2 ⟨e, he, rfl⟩)).symm
  unfold Tb.find
  by_cases c1 : 1 ≤ i ∧ i ≤ t.arr.length
  · rw [if_pos c1]
    have hi : (i - 1).toNat < t.arr.length := by omega
    have hq := List.getElem?_eq_getElem hi
    obtain ⟨p, e1, e2⟩ := h.aa _ _ hq
    rw [List.getD_eq_getElem?_getD, hq, Option.getD_some, e1]
    refine at_ ?_
    rw [e2, h1 c1.1 (by omega)]
    congr 2
    omega
  · rw [if_neg c1]
    by_cases c2 : k2.t = 2
    · rw [if_pos c2]
      have hs := well_num hk.wl c2
      have hk2 : k2 = ⟨2, k2.n, []⟩ := by
        obtain ⟨a, b, c⟩ := k2
        dsimp only at c2 hs ⊢
        rw [c2, hs]
      cases hm : mfind t.nums k2.n with
      | some q =>
        obtain ⟨⟨p, e1, e2⟩, _⟩ := h.nn _ _ (mfind_mem hm)
        subst e1
        exact at_ (by rw [e2, ← hk2])
      | none =>
        refine no fun hin => ?_
        obtain ⟨p, hp⟩ := List.getElem?_of_mem hin
        rcases (h.cn p k2 hp).1 c2 with ⟨j, j1, j2⟩ | hin
        · have hj := (List.getElem?_eq_some_iff.1 j1).1
          have := h2 (j + 1) (by omega) (by omega) j2
          omega
        · have := mfind_of h.n1 hin
          rw [hm] at this
          cases this
    · rw [if_neg c2]
      by_cases c3 : k2.t = 3
      · rw [if_pos c3]
        have hn := well_str hk.wl c3
        have hk2 : k2 = ⟨3, 0, k2.s⟩ := by
          obtain ⟨a, b, c⟩ := k2
          dsimp only at c3 hn ⊢
          rw [c3, hn]
        cases hm : mfind t.strs k2.s with
        | some q =>
          obtain ⟨p, e1, e2⟩ := h.ss _ _ (mfind_mem hm)
          subst e1
          exact at_ (by rw [e2, ← hk2])
        | none =>
          refine no fun hin => ?_
          obtain ⟨p, hp⟩ := List.getElem?_of_mem hin
          have := mfind_of h.n2 ((h.cn p k2 hp).2.1 c3)
          rw [hm] at this
          cases this
      · rw [if_neg c3]
        cases hm : mfind t.refs (packM k2) with
        | some q =>
          obtain ⟨p, k, e1, e2, e3, e4, e5⟩ := h.rr _ _ (mfind_mem hm)
          subst e1
          have := pack_inj (h.kk k (List.mem_of_getElem? e2)) hk e3 e4 c2 c3 e5
          exact at_ (by rw [e2, this])
        | none =>
          refine no fun hin => ?_
          obtain ⟨p, hp⟩ := List.getElem?_of_mem hin
          have := mfind_of h.n3 ((h.cn p k2 hp).2.2 c2 c3)
          rw [hm] at this
          cases this
/-! The index grows. -/
theorem IX.empty : IX [] [] [] [] [] := ⟨by simp, List.nodup_nil, fun k h => (by cases h), fun i q h => (by simp at h), fun b q h => (by cases h), fun b q h => (by cases h), fun b q h => (by cases h), fun p k h => (by simp at h), List.nodup_nil, List.nodup_nil, List.nodup_nil, rfl⟩
section
variable {ks : List V} {arr : List Int} {nums : List (Int × Int)} {strs : List (List UInt8 × Int)} {refs : List (Int × Int)} {k : V}
theorem nth_snoc {α : Type} {l : List α} {x y : α} {p : Nat} (h : (l ++ [x])[p]? = some y) : l[p]? = some y ∨ (p = l.length ∧ y = x) := by
  by_cases c : p < l.length
  · rw [List.getElem?_append_left c] at h; exact .inl h
  · rw [List.getElem?_append_right (by omega)] at h
    have : p - l.length = 0 := by
      have := (List.getElem?_eq_some_iff.1 h).1
      simp at this
      omega
    rw [this] at h
    injection h with h
    exact .inr ⟨by omega, h.symm⟩
theorem nth_left {α : Type} {l : List α} {x y : α} {p : Nat} (h : l[p]? = some y) : (l ++ [x])[p]? = some y := by
  rw [List.getElem?_append_left (List.getElem?_eq_some_iff.1 h).1]; exact h
theorem nodup_snoc {α : Type} {l : List α} {x : α} (h : l.Nodup) (hx : x ∉ l) : (l ++ [x]).Nodup := by
  rw [List.nodup_append]
  exact ⟨h, by simp, fun a ha b hb => by rw [List.mem_singleton] at hb; subst hb; exact fun e => hx (e ▸ ha)⟩
theorem keys_snoc {β γ : Type} {l : List (β × γ)} {b : β} {c : γ} (h : (l.map (·.1)).Nodup) (hb : ∀ q, (b, q) ∉ l) : ((l ++ [(b, c)]).map (·.1)).Nodup := by
  rw [List.map_append]
  refine nodup_snoc h fun q => ?_
  obtain ⟨x, hx, rfl⟩ := List.mem_map.1 q
  exact hb x.2 hx
theorem IX.num (h : IX ks arr nums strs refs) (hl : ks.length < 32) (hk : KN k) (hn : k ∉ ks) (h2 : k.t = 2) (hw : ∀ i, toIntM k.n.toNat = some (i, true) → ¬ (1 ≤ i ∧ i ≤ arr.length)) : IX (ks ++ [k]) arr (nums ++ [(k.n, (ks.length : Int))]) strs refs := by
  have hs := well_num hk.wl h2
  have hk2 : k = ⟨2, k.n, []⟩ := by
    obtain ⟨a, b, c⟩ := k
    dsimp only at h2 hs ⊢
    rw [h2, hs]
  refine ⟨by simp; omega, nodup_snoc h.nd hn, fun x hx => ?_, fun i q hq => ?_, fun b q hq => ?_, fun s q hq => ?_, fun u q hq => ?_, fun p x hp => ?_, keys_snoc h.n1 fun q hq => ?_, h.n2, h.n3, by have := h.ln; simp; omega⟩
  · rcases List.mem_append.1 hx with hx | hx
    · exact h.kk x hx
    · rw [List.mem_singleton] at hx; subst hx; exact hk
  · obtain ⟨p, e1, e2⟩ := h.aa i q hq; exact ⟨p, e1, nth_left e2⟩
  · rcases List.mem_append.1 hq with hq | hq
    · obtain ⟨⟨p, e1, e2⟩, e3⟩ := h.nn b q hq; exact ⟨⟨p, e1, nth_left e2⟩, e3⟩
    · rw [List.mem_singleton] at hq
      injection hq with e1 e2
      subst e1; subst e2
      exact ⟨⟨ks.length, rfl, by rw [← hk2]; simp⟩, hw⟩
  · obtain ⟨p, e1, e2⟩ := h.ss s q hq; exact ⟨p, e1, nth_left e2⟩
  · obtain ⟨p, x, e1, e2, e3⟩ := h.rr u q hq; exact ⟨p, x, e1, nth_left e2, e3⟩
  · rcases nth_snoc hp with hp | ⟨rfl, rfl⟩
    · obtain ⟨a1, a2, a3⟩ := h.cn p x hp
      exact ⟨fun q => (a1 q).imp id fun w => List.mem_append_left _ w, a2, a3⟩
    · exact ⟨fun _ => .inr (by simp), fun q => by omega, fun q => absurd h2 q⟩
  · obtain ⟨⟨p, e1, e2⟩, _⟩ := h.nn _ q hq
    rw [← hk2] at e2
    exact hn (List.mem_of_getElem? e2)
theorem IX.str (h : IX ks arr nums strs refs) (hl : ks.length < 32) (hk : KN k) (hn : k ∉ ks) (h3 : k.t = 3) : IX (ks ++ [k]) arr nums (strs ++ [(k.s, (ks.length : Int))]) refs := by
  have hz := well_str hk.wl h3
  have hk2 : k = ⟨3, 0, k.s⟩ := by
    obtain ⟨a, b, c⟩ := k
    dsimp only at h3 hz ⊢
    rw [h3, hz]
  refine ⟨by simp; omega, nodup_snoc h.nd hn, fun x hx => ?_, fun i q hq => ?_, fun b q hq => ?_, fun s q hq => ?_, fun u q hq => ?_, fun p x hp => ?_, h.n1, keys_snoc h.n2 fun q hq => ?_, h.n3, by have := h.ln; simp; omega⟩
  · rcases List.mem_append.1 hx with hx | hx
    · exact h.kk x hx
    · rw [List.mem_singleton] at hx; subst hx; exact hk
  · obtain ⟨p, e1, e2⟩ := h.aa i q hq; exact ⟨p, e1, nth_left e2⟩
  · obtain ⟨⟨p, e1, e2⟩, e3⟩ := h.nn b q hq; exact ⟨⟨p, e1, nth_left e2⟩, e3⟩
  · rcases List.mem_append.1 hq with hq | hq
    · obtain ⟨p, e1, e2⟩ := h.ss s q hq; exact ⟨p, e1, nth_left e2⟩
    · rw [List.mem_singleton] at hq
      injection hq with e1 e2
      subst e1; subst e2
      exact ⟨ks.length, rfl, by rw [← hk2]; simp⟩
  · obtain ⟨p, x, e1, e2, e3⟩ := h.rr u q hq; exact ⟨p, x, e1, nth_left e2, e3⟩
  · rcases nth_snoc hp with hp | ⟨rfl, rfl⟩
    · obtain ⟨a1, a2, a3⟩ := h.cn p x hp
      exact ⟨a1, fun q => List.mem_append_left _ (a2 q), a3⟩
    · exact ⟨fun q => by omega, fun _ => by simp, fun _ q => absurd h3 q⟩
  · obtain ⟨p, e1, e2⟩ := h.ss _ q hq
    rw [← hk2] at e2
    exact hn (List.mem_of_getElem? e2)
theorem IX.ref (h : IX ks arr nums strs refs) (hl : ks.length < 32) (hk : KN k) (hn : k ∉ ks) (h2 : k.t ≠ 2) (h3 : k.t ≠ 3) : IX (ks ++ [k]) arr nums strs (refs ++ [(packM k, (ks.length : Int))]) := by
  refine ⟨by simp; omega, nodup_snoc h.nd hn, fun x hx => ?_, fun i q hq => ?_, fun b q hq => ?_, fun s q hq => ?_, fun u q hq => ?_, fun p x hp => ?_, h.n1, h.n2, keys_snoc h.n3 fun q hq => ?_, by have := h.ln; simp; omega⟩
  · rcases List.mem_append.1 hx with hx | hx
    · exact h.kk x hx
    · rw [List.mem_singleton] at hx; subst hx; exact hk
  · obtain ⟨p, e1, e2⟩ := h.aa i q hq; exact ⟨p, e1, nth_left e2⟩
  · obtain ⟨⟨p, e1, e2⟩, e3⟩ := h.nn b q hq; exact ⟨⟨p, e1, nth_left e2⟩, e3⟩
  · obtain ⟨p, e1, e2⟩ := h.ss s q hq; exact ⟨p, e1, nth_left e2⟩
  · rcases List.mem_append.1 hq with hq | hq
    · obtain ⟨p, x, e1, e2, e3⟩ := h.rr u q hq; exact ⟨p, x, e1, nth_left e2, e3⟩
    · rw [List.mem_singleton] at hq
      injection hq with e1 e2
      subst e1; subst e2
      exact ⟨ks.length, k, rfl, by simp, h2, h3, rfl⟩
  · rcases nth_snoc hp with hp | ⟨rfl, rfl⟩
    · obtain ⟨a1, a2, a3⟩ := h.cn p x hp
      exact ⟨a1, a2, fun q w => List.mem_append_left _ (a3 q w)⟩
    · exact ⟨fun q => absurd q h2, fun q => absurd q h3, fun _ _ => by simp⟩
  · obtain ⟨p, x, e1, e2, e3, e4, e5⟩ := h.rr _ q hq
    have hx := List.mem_of_getElem? e2
    rw [pack_inj (h.kk x hx) hk e3 e4 h2 h3 e5] at hx
    exact hn hx
theorem IX.ext (h : IX ks arr nums strs refs) (hl : ks.length < 32) (hk : KN (numK (arr.length + 1))) (hn : numK (arr.length + 1) ∉ ks) : IX (ks ++ [numK (arr.length + 1)]) (arr ++ [(ks.length : Int)]) nums strs refs := by
  have hal : arr.length ≤ 32 := by have := h.ln; omega
  refine ⟨by simp; omega, nodup_snoc h.nd hn, fun x hx => ?_, fun i q hq => ?_, fun b q hq => ?_, fun s q hq => ?_, fun u q hq => ?_, fun p x hp => ?_, h.n1, h.n2, h.n3, by have := h.ln; simp; omega⟩
  · rcases List.mem_append.1 hx with hx | hx
    · exact h.kk x hx
    · rw [List.mem_singleton] at hx; subst hx; exact hk
  · rcases nth_snoc hq with hq | ⟨rfl, rfl⟩
    · obtain ⟨p, e1, e2⟩ := h.aa i q hq; exact ⟨p, e1, nth_left e2⟩
    · exact ⟨ks.length, rfl, by simp⟩
  · obtain ⟨⟨p, e1, e2⟩, e3⟩ := h.nn b q hq
    refine ⟨⟨p, e1, nth_left e2⟩, fun i hi hb => ?_⟩
    simp only [List.length_append, List.length_singleton] at hb
    by_cases c : i ≤ arr.length
    · exact e3 i hi ⟨hb.1, c⟩
    · have hkb := (h.kk _ (List.mem_of_getElem? e2)).nu rfl
      dsimp only at hkb
      have := toInt_inj (by omega) hi (by omega) (by omega)
      have hb2 : (⟨2, b, []⟩ : V) = numK (arr.length + 1) := by
        unfold numK
        rw [show (((arr.length + 1 : Nat)) : Int) = i by omega, ← this]
        congr 1
        omega
      rw [hb2] at e2
      exact hn (List.mem_of_getElem? e2)
  · obtain ⟨p, e1, e2⟩ := h.ss s q hq; exact ⟨p, e1, nth_left e2⟩
  · obtain ⟨p, x, e1, e2, e3⟩ := h.rr u q hq; exact ⟨p, x, e1, nth_left e2, e3⟩
  · rcases nth_snoc hp with hp | ⟨rfl, rfl⟩
    · obtain ⟨a1, a2, a3⟩ := h.cn p x hp
      exact ⟨fun q => (a1 q).imp (fun ⟨i, i1, i2⟩ => ⟨i, nth_left i1, i2⟩) id, a2, a3⟩
    · exact ⟨fun _ => .inl ⟨arr.length, by simp, rfl⟩, fun q => absurd (show (2 : Int) = 3 from q) (by decide), fun q => absurd rfl q⟩
end
end Go.Nm
