/- Plain: numm's add, mul, div are IEEE's. -/
import Derived.Test.Qxb6500573aGreatDoorNF
namespace Go.Nm
open Ieee
set_option linter.unusedVariables false
set_option linter.unusedSimpArgs false
abbrev nanW : Nat := 9221120237041090561
def mgW (x : Nat) : Nat := x % 9223372036854775808
def sgW (x : Nat) : Bool := x / 9223372036854775808 % 2 == 1
def isNaNW (x : Nat) : Prop := infB < mgW x
def isInfW (x : Nat) : Prop := mgW x = infB
def isZW (x : Nat) : Prop := mgW x = 0
instance (x : Nat) : Decidable (isNaNW x) := by unfold isNaNW; exact inferInstance
instance (x : Nat) : Decidable (isInfW x) := by unfold isInfW; exact inferInstance
instance (x : Nat) : Decidable (isZW x) := by unfold isZW; exact inferInstance
def pM (x : Nat) : Nat := if x / 4503599627370496 % 2048 = 0 then x % 4503599627370496 else x % 4503599627370496 + 4503599627370496
def pE (x : Nat) : Int := if x / 4503599627370496 % 2048 = 0 then -1074 else ((x / 4503599627370496 % 2048 : Nat) : Int) - 1075
theorem read_nan {x : Nat} (h : isNaNW x) : ∃ f, double.read x = .nan (sgW x) f := by
  unfold isNaNW mgW infB at h
  refine ⟨mgW x - infB, ?_⟩
  unfold Format.read
  dsimp only
  rw [if_neg (show ¬ x % double.signWeight < double.binade by show ¬ x % 9223372036854775808 < 4503599627370496; omega), if_neg (show ¬ x % double.signWeight < double.infRung by show ¬ x % 9223372036854775808 < 9218868437227405312; omega), if_neg (show ¬ x % double.signWeight = double.infRung by show ¬ x % 9223372036854775808 = 9218868437227405312; omega)]
  rfl
theorem read_inf {x : Nat} (h : isInfW x) : double.read x = .infinity (sgW x) := by
  unfold isInfW mgW infB at h
  unfold Format.read
  dsimp only
  rw [if_neg (show ¬ x % double.signWeight < double.binade by show ¬ x % 9223372036854775808 < 4503599627370496; omega), if_neg (show ¬ x % double.signWeight < double.infRung by show ¬ x % 9223372036854775808 < 9218868437227405312; omega), if_pos (show x % double.signWeight = double.infRung from h)]
  rfl
theorem read_fin {x : Nat} (h : mgW x < infB) : double.read x = .number (sgW x) (pM x) (pE x) := by
  unfold mgW infB at h
  unfold Format.read pM pE
  dsimp only
  by_cases c : x % 9223372036854775808 < 4503599627370496
  · rw [if_pos (show x % double.signWeight < double.binade from c), if_pos (by omega), if_pos (by omega), show x % 4503599627370496 = x % 9223372036854775808 by omega]
    rfl
  · rw [if_neg (show ¬ x % double.signWeight < double.binade from c), if_pos (show x % double.signWeight < double.infRung from h), if_neg (by omega), if_neg (by omega)]
    show Datum.number _ (4503599627370496 + x % 9223372036854775808 % 4503599627370496) (-1074 + ((x % 9223372036854775808 / 4503599627370496 - 1 : Nat) : Int)) = _
    congr 1
    · omega
    · omega
theorem pM_lt (x : Nat) : pM x < 9007199254740992 := by unfold pM; split <;> omega
theorem pE_ge (x : Nat) : -1074 ≤ pE x := by unfold pE; split <;> omega
theorem pE_le (x : Nat) : pE x ≤ 972 := by unfold pE; split <;> omega
theorem pM_ge {x : Nat} (h : -1074 < pE x) : 4503599627370496 ≤ pM x := by unfold pM pE at *; split at h <;> simp_all
theorem pM_pos {x : Nat} (h : ¬ isZW x) (h2 : mgW x < infB) : 0 < pM x := by
  unfold isZW mgW infB at *; unfold pM; split <;> omega
/-- The sum of two that are not zero. -/
def adF (sa sb : Bool) (ma mb : Nat) (eb : Int) (st : Bool) : Nat :=
  if sa = sb then pkM sa (ma + mb) eb st
  else if ma = mb ∧ st = false then 0
  else if ma < mb then pkM sb (mb - ma) eb false
  else if st = true then pkM sa (ma - mb - 1) eb true
  else pkM sa (ma - mb) eb false
def addP (sa sb : Bool) (ma mb : Nat) (ea eb : Int) : Nat :=
  if ea - eb ≤ 10 then adF sa sb (ma * 2 ^ (ea - eb).toNat) mb eb false
  else if 64 ≤ ea - eb - 10 then adF sa sb (ma * 2 ^ 10) 0 (ea - 10) true
  else adF sa sb (ma * 2 ^ 10) (mb / 2 ^ (ea - eb - 10).toNat) (ea - 10) (decide (mb % 2 ^ (ea - eb - 10).toNat ≠ 0))
def addW (a b : Nat) : Nat :=
  if isNaNW a ∨ isNaNW b then nanW
  else if isInfW a then (if isInfW b ∧ a ≠ b then nanW else a)
  else if isInfW b then b
  else if isZW a ∧ isZW b then (if a = b then a else 0)
  else if isZW a then b
  else if isZW b then a
  else if pE a < pE b then addP (sgW b) (sgW a) (pM b) (pM a) (pE b) (pE a)
  else addP (sgW a) (sgW b) (pM a) (pM b) (pE a) (pE b)
/-- What the sum of two numbers says, the greater place first. -/
def sumN (s t : Bool) (m n d : Nat) : Int := signed s m d + signed t n 0
theorem signed_t (m d : Nat) : signed true m d = -((m * 2 ^ d : Nat) : Int) := by unfold signed; rw [if_pos rfl, Nat.shiftLeft_eq]
theorem signed_f (m d : Nat) : signed false m d = ((m * 2 ^ d : Nat) : Int) := by unfold signed; rw [if_neg (by decide), Nat.shiftLeft_eq]
/-- One number less another, none of them equal. -/
theorem adF_ok {sa sb : Bool} {A B k r : Nat} {e p : Int} (hA : A < 9223372036854775808) (hB : B < 9223372036854775808) (hr : r < 2 ^ k) (hs : r ≠ 0 → 18014398509481984 ≤ A ∧ B < 9007199254740992) (hp : p = e - k) (hAB : 0 < A * 2 ^ k ∧ 0 < B * 2 ^ k + r) :
    adF sa sb A B e (decide (r ≠ 0)) = double.write (.number (if signed sa A k + signed sb (B * 2 ^ k + r) 0 = 0 then sa && sb else signed sa A k + signed sb (B * 2 ^ k + r) 0 < 0) (signed sa A k + signed sb (B * 2 ^ k + r) 0).natAbs p) := by
  have hk : 0 < 2 ^ k := Nat.two_pow_pos k
  show _ = double.nearest _ _ _
  unfold adF
  by_cases hsab : sa = sb
  · subst hsab
    rw [if_pos rfl]
    have e1 : (signed sa A k + signed sa (B * 2 ^ k + r) 0).natAbs = (A + B) * 2 ^ k + r := by
      cases sa
      · rw [signed_f, signed_f, Nat.pow_zero, Nat.mul_one, Nat.add_mul]; omega
      · rw [signed_t, signed_t, Nat.pow_zero, Nat.mul_one, Nat.add_mul]; omega
    have e2 : (if signed sa A k + signed sa (B * 2 ^ k + r) 0 = 0 then sa && sa else decide (signed sa A k + signed sa (B * 2 ^ k + r) 0 < 0)) = sa := by
      cases sa
      · rw [signed_f, signed_f, Nat.pow_zero, Nat.mul_one, if_neg (by omega)]; exact decide_eq_false (by omega)
      · rw [signed_t, signed_t, Nat.pow_zero, Nat.mul_one, if_neg (by omega)]; exact decide_eq_true (by omega)
    rw [e1, e2]
    by_cases hr0 : r = 0
    · subst hr0
      rw [show decide ((0 : Nat) ≠ 0) = false from rfl, pack_exact _ (by omega), Nat.add_zero, near_shift _ _ _ _ _ hp]
    · rw [show decide (r ≠ 0) = true from decide_eq_true hr0, pack_sticky sa (by omega) (by have := hs hr0; omega) (by omega) hr e p hp]
  · rw [if_neg hsab]
    -- the two signs differ
    have hsb : sb = !sa := by cases sa <;> cases sb <;> simp_all
    subst hsb
    have hd : ∀ x y : Nat, (if signed sa A k + signed (!sa) (B * 2 ^ k + r) 0 = 0 then sa && !sa else decide (signed sa A k + signed (!sa) (B * 2 ^ k + r) 0 < 0)) = (if A * 2 ^ k = B * 2 ^ k + r then false else if A * 2 ^ k < B * 2 ^ k + r then !sa else sa) ∧ (signed sa A k + signed (!sa) (B * 2 ^ k + r) 0).natAbs = (if A * 2 ^ k < B * 2 ^ k + r then B * 2 ^ k + r - A * 2 ^ k else A * 2 ^ k - (B * 2 ^ k + r)) := by
      intro _ _
      cases sa
      · rw [show (!false) = true from rfl, signed_f, signed_t, Nat.pow_zero, Nat.mul_one]
        generalize A * 2 ^ k = X
        generalize B * 2 ^ k + r = Y
        by_cases c1 : X = Y
        · rw [if_pos (by omega), if_pos c1, if_neg (by omega)]; exact ⟨rfl, by omega⟩
        · rw [if_neg (by omega), if_neg c1]
          by_cases c2 : X < Y
          · rw [if_pos c2, if_pos c2]; exact ⟨decide_eq_true (by omega), by omega⟩
          · rw [if_neg c2, if_neg c2]; exact ⟨decide_eq_false (by omega), by omega⟩
      · rw [show (!true) = false from rfl, signed_f, signed_t, Nat.pow_zero, Nat.mul_one]
        generalize A * 2 ^ k = X
        generalize B * 2 ^ k + r = Y
        by_cases c1 : X = Y
        · rw [if_pos (by omega), if_pos c1, if_neg (by omega)]; exact ⟨rfl, by omega⟩
        · rw [if_neg (by omega), if_neg c1]
          by_cases c2 : X < Y
          · rw [if_pos c2, if_pos c2]; exact ⟨decide_eq_false (by omega), by omega⟩
          · rw [if_neg c2, if_neg c2]; exact ⟨decide_eq_true (by omega), by omega⟩
    rw [(hd 0 0).1, (hd 0 0).2]
    by_cases hr0 : r = 0
    · subst hr0
      rw [Nat.add_zero, show decide ((0 : Nat) ≠ 0) = false from rfl]
      by_cases c1 : A = B
      · subst c1
        rw [if_pos ⟨rfl, rfl⟩, if_pos rfl, if_neg (Nat.lt_irrefl _), Nat.sub_self, near_zero]; rfl
      · have c1' : ¬ A * 2 ^ k = B * 2 ^ k := fun q => c1 (Nat.eq_of_mul_eq_mul_right hk q)
        rw [if_neg (fun q => c1 q.1), if_neg c1']
        by_cases c2 : A < B
        · rw [if_pos c2, if_pos (Nat.mul_lt_mul_of_pos_right c2 hk), if_pos (Nat.mul_lt_mul_of_pos_right c2 hk), ← Nat.sub_mul, near_shift _ _ _ _ _ hp, pack_exact _ (by omega)]
        · have c2' : ¬ A * 2 ^ k < B * 2 ^ k := fun q => c2 (Nat.lt_of_mul_lt_mul_right q)
          rw [if_neg c2, if_neg c2', if_neg c2', if_neg (by decide), ← Nat.sub_mul, near_shift _ _ _ _ _ hp, pack_exact _ (by omega)]
    · have h1 := hs hr0
      have h2 : (B + 1) * 2 ^ k ≤ A * 2 ^ k := Nat.mul_le_mul_right _ (by omega)
      rw [Nat.add_mul, Nat.one_mul] at h2
      have h3 : (A - B - 1) * 2 ^ k = A * 2 ^ k - B * 2 ^ k - 2 ^ k := by rw [Nat.sub_mul, Nat.sub_mul, Nat.one_mul]
      rw [show decide (r ≠ 0) = true from decide_eq_true hr0, if_neg (fun q => by cases q.2), if_neg (by omega), if_pos rfl, if_neg (by omega), if_neg (by omega), if_neg (by omega)]
      rw [pack_sticky sa (k := k) (e := 2 ^ k - r) (by omega) (by omega) (by omega) (by omega) e p hp, h3]
      congr 1
      omega
theorem addP_ok {sa sb : Bool} {ma mb : Nat} {ea eb : Int} (ha : ma < 9007199254740992) (hb : mb < 9007199254740992) (ha0 : 0 < ma) (hb0 : 0 < mb) (hd : eb ≤ ea) (hn : eb < ea → 4503599627370496 ≤ ma) :
    addP sa sb ma mb ea eb = double.write (.number (if signed sa ma (ea - eb).toNat + signed sb mb 0 = 0 then sa && sb else signed sa ma (ea - eb).toNat + signed sb mb 0 < 0) (signed sa ma (ea - eb).toNat + signed sb mb 0).natAbs eb) := by
  have hcut : ∀ d : Nat, 10 ≤ d → signed sa ma d = signed sa (ma * 2 ^ 10) (d - 10) := by
    intro d h
    have e : ma * 2 ^ d = ma * 2 ^ 10 * 2 ^ (d - 10) := by rw [Nat.mul_assoc, ← Nat.pow_add, show 10 + (d - 10) = d by omega]
    cases sa
    · rw [signed_f, signed_f, e]
    · rw [signed_t, signed_t, e]
  unfold addP
  by_cases c : ea - eb ≤ 10
  · rw [if_pos c]
    have hp : 2 ^ (ea - eb).toNat ≤ 2 ^ 10 := Nat.pow_le_pow_right (by decide) (by omega)
    have hp0 : 0 < 2 ^ (ea - eb).toNat := Nat.two_pow_pos _
    have h1 : ma * 2 ^ (ea - eb).toNat < 9223372036854775808 := by
      have := Nat.mul_le_mul (Nat.le_of_lt ha) hp
      have h2 : ma * 2 ^ (ea - eb).toNat ≤ ma * 2 ^ 10 := Nat.mul_le_mul_left _ hp
      have h3 : ma * 2 ^ 10 < 9007199254740992 * 2 ^ 10 := Nat.mul_lt_mul_of_pos_right ha (by decide)
      omega
    have e0 : signed sa ma (ea - eb).toNat = signed sa (ma * 2 ^ (ea - eb).toNat) 0 := by
      cases sa
      · rw [signed_f, signed_f, Nat.pow_zero, Nat.mul_one]
      · rw [signed_t, signed_t, Nat.pow_zero, Nat.mul_one]
    have := adF_ok (sa := sa) (sb := sb) (A := ma * 2 ^ (ea - eb).toNat) (B := mb) (k := 0) (r := 0) (e := eb) (p := eb) h1 (by omega) (by decide) (fun q => absurd rfl q) (by omega) ⟨by rw [Nat.pow_zero, Nat.mul_one]; exact Nat.mul_pos ha0 hp0, by omega⟩
    rw [Nat.pow_zero, Nat.mul_one, Nat.add_zero] at this
    rw [e0]
    exact this
  · rw [if_neg c, hcut _ (by omega)]
    have hm := hn (by omega)
    have hA : ma * 2 ^ 10 < 9223372036854775808 := by omega
    have hA2 : 18014398509481984 ≤ ma * 2 ^ 10 := by omega
    have hk0 : 0 < 2 ^ ((ea - eb).toNat - 10) := Nat.two_pow_pos _
    have hmod := Nat.mod_lt mb hk0
    have hdm := Nat.div_add_mod mb (2 ^ ((ea - eb).toNat - 10))
    have hdl := Nat.div_le_self mb (2 ^ ((ea - eb).toNat - 10))
    have key := adF_ok (sa := sa) (sb := sb) (A := ma * 2 ^ 10) (B := mb / 2 ^ ((ea - eb).toNat - 10)) (k := (ea - eb).toNat - 10) (r := mb % 2 ^ ((ea - eb).toNat - 10)) (e := ea - 10) (p := eb) hA (by omega) hmod (fun _ => ⟨hA2, by omega⟩) (by omega) ⟨Nat.mul_pos (by omega) hk0, by rw [Nat.mul_comm]; omega⟩
    rw [show mb / 2 ^ ((ea - eb).toNat - 10) * 2 ^ ((ea - eb).toNat - 10) + mb % 2 ^ ((ea - eb).toNat - 10) = mb by rw [Nat.mul_comm]; exact hdm] at key
    rw [← key]
    by_cases c2 : 64 ≤ ea - eb - 10
    · rw [if_pos c2]
      have h64 : 2 ^ 64 ≤ 2 ^ ((ea - eb).toNat - 10) := Nat.pow_le_pow_right (by decide) (by omega)
      rw [Nat.div_eq_of_lt (by omega), Nat.mod_eq_of_lt (by omega), show decide (mb ≠ 0) = true from decide_eq_true (by omega)]
    · rw [if_neg c2, show (ea - eb - 10).toNat = (ea - eb).toNat - 10 by omega]
theorem sg_split {x : Nat} (h : x < 18446744073709551616) : sgB (sgW x) = x / 9223372036854775808 * 9223372036854775808 := by
  unfold sgW sgB
  by_cases c : x / 9223372036854775808 % 2 = 1
  · rw [if_pos (by simp [c])]; omega
  · rw [if_neg (by simp [c])]; omega
theorem split_word {x : Nat} (h : x < 18446744073709551616) : x = x / 9223372036854775808 * 9223372036854775808 + (x / 4503599627370496 % 2048 * 4503599627370496 + x % 4503599627370496) ∧ x / 9223372036854775808 * 9223372036854775808 + ((pE x + 1074).toNat * 4503599627370496 + pM x) = x ∧ (x % 9223372036854775808 < 9218868437227405312 → (pE x + 1074).toNat * 4503599627370496 + pM x ≤ infB) := by
  have h1 : x = x / 9223372036854775808 * 9223372036854775808 + (x / 4503599627370496 % 2048 * 4503599627370496 + x % 4503599627370496) := by omega
  have h3 : x % 9223372036854775808 = x / 4503599627370496 % 2048 * 4503599627370496 + x % 4503599627370496 := by omega
  have h2 : (pE x + 1074).toNat * 4503599627370496 + pM x = x / 4503599627370496 % 2048 * 4503599627370496 + x % 4503599627370496 := by
    unfold pE pM
    generalize x / 4503599627370496 % 2048 = E
    generalize x % 4503599627370496 = F
    by_cases c : E = 0
    · subst c; rw [if_pos rfl, if_pos rfl]; omega
    · rw [if_neg c, if_neg c, show (((E : Nat) : Int) - 1075 + 1074).toNat = E - 1 by omega]
      omega
  refine ⟨h1, ?_, ?_⟩
  · rw [h2]; exact h1.symm
  · intro q; rw [h2, ← h3]; unfold infB; omega
theorem near_read {x : Nat} (h : x < 18446744073709551616) (hf : mgW x < infB) : double.nearest (sgW x) (pM x) (pE x) = x := by
  by_cases h0 : pM x = 0
  · rw [h0, near_zero]
    rw [sg_split h]
    unfold pM at h0
    split at h0 <;> omega
  · rw [near_eq _ h0]
    have hl : pM x < 9007199254740992 := pM_lt x
    have hlog : (pM x).log2 ≤ 52 := by have := (Nat.log2_lt (k := 53) h0).2 (by simpa using hl); omega
    have hL : lst (pE x + (pM x).log2) = pE x := by
      have := pE_ge x
      by_cases c : -1074 < pE x
      · have h1 := pM_ge c
        have h2 : 52 ≤ (pM x).log2 := by rw [Nat.le_log2 h0]; exact h1
        unfold lst; omega
      · unfold lst; omega
    rw [hL, show (pE x - pE x).toNat = 0 by omega, Nat.pow_zero, Nat.mul_one]
    have hr : rn (pM x) 0 = pM x := by unfold rn; rw [Nat.pow_zero, Nat.div_one, Nat.mod_one, if_neg (by omega)]; rfl
    rw [hr]
    unfold mgW infB at hf
    rw [sg_split h, Nat.min_eq_left]
    · exact (split_word h).2.1
    · exact (split_word h).2.2 hf
theorem sum_comm' (d e : Datum) : d.sum e = e.sum d := by
  cases d <;> cases e <;> simp only [Datum.sum]
  · rename_i s m i t n j
    rw [Int.min_comm, Int.add_comm, Bool.and_comm]
  · rename_i s t
    by_cases c : s = t
    · subst c; rfl
    · rw [if_neg c, if_neg (fun q => c q.symm)]
theorem inf_word {x : Nat} (h : x < 18446744073709551616) (hi : isInfW x) : double.write (.infinity (sgW x)) = x := by
  unfold isInfW mgW infB at hi
  show double.word (sgW x) double.infRung = x
  rw [word_eq]
  show sgB (sgW x) + 9218868437227405312 = x
  unfold sgB sgW
  split <;> simp_all <;> omega
theorem add_fin {a b : Nat} (ha : mgW a < infB) (hb : mgW b < infB) (ha0 : ¬ isZW a) (hb0 : ¬ isZW b) (hab : pE b ≤ pE a) : ((double.read a).sum (double.read b)).map double.write = some (addP (sgW a) (sgW b) (pM a) (pM b) (pE a) (pE b)) := by
  rw [read_fin ha, read_fin hb]
  simp only [Datum.sum, Option.map_some]
  rw [show min (pE a) (pE b) = pE b by omega, show (pE b - pE b).toNat = 0 by omega, ← addP_ok (pM_lt a) (pM_lt b) (pM_pos ha0 ha) (pM_pos hb0 hb) hab (fun h => pM_ge (by have := pE_ge b; omega))]
theorem addW_ok {a b : Nat} (ha : a < 18446744073709551616) (hb : b < 18446744073709551616) : addW a b = (double.add a b).getD nanW := by
  unfold addW Format.add
  by_cases n1 : isNaNW a ∨ isNaNW b
  · rw [if_pos n1]
    rcases n1 with n1 | n1
    · obtain ⟨f, e⟩ := read_nan n1; rw [e]; simp [Datum.sum]
    · obtain ⟨f, e⟩ := read_nan n1; rw [sum_comm', e]; simp [Datum.sum]
  · rw [if_neg n1]
    have na : ¬ isNaNW a := fun q => n1 (Or.inl q)
    have nb : ¬ isNaNW b := fun q => n1 (Or.inr q)
    by_cases i1 : isInfW a
    · rw [if_pos i1, read_inf i1]
      by_cases i2 : isInfW b
      · rw [read_inf i2]
        simp only [Datum.sum]
        by_cases c : a = b
        · subst c
          rw [if_neg (fun q => q.2 rfl), if_pos rfl, Option.map_some, inf_word ha i1]; rfl
        · rw [if_pos ⟨i2, c⟩, if_neg]; rfl
          intro q
          refine c ?_
          rw [← inf_word ha i1, ← inf_word hb i2, q]
      · have hb2 : mgW b < infB := by unfold isInfW isNaNW at *; omega
        rw [if_neg (fun q => i2 q.1), read_fin hb2]
        simp only [Datum.sum, Option.map_some]
        rw [inf_word ha i1]; rfl
    · rw [if_neg i1]
      have ha2 : mgW a < infB := by unfold isInfW isNaNW at *; omega
      by_cases i2 : isInfW b
      · rw [if_pos i2, read_inf i2, read_fin ha2]
        simp only [Datum.sum, Option.map_some]
        rw [inf_word hb i2]; rfl
      · rw [if_neg i2]
        have hb2 : mgW b < infB := by unfold isInfW isNaNW at *; omega
        have zer : ∀ x, isZW x → pM x = 0 ∧ pE x = -1074 := by
          intro x hx; unfold isZW mgW at hx; unfold pM pE; rw [if_pos (by omega), if_pos (by omega)]; exact ⟨by omega, rfl⟩
        have zx : ∀ x, x < 18446744073709551616 → isZW x → x = sgB (sgW x) := by
          intro x hx hz; unfold isZW mgW at hz; unfold sgB sgW; split <;> simp_all <;> omega
        by_cases z : isZW a ∧ isZW b
        · rw [if_pos z, read_fin ha2, read_fin hb2, (zer a z.1).1, (zer b z.2).1]
          have sz : ∀ (s : Bool) (k : Nat), signed s 0 k = 0 := by intro s k; cases s <;> simp [signed_t, signed_f]
          simp only [Datum.sum, Option.map_some, sz]
          show _ = (some (double.nearest _ 0 (min (pE a) (pE b)))).getD nanW
          rw [Option.getD_some, Int.add_zero, if_pos rfl, near_zero]
          have h1 := zx a ha z.1
          have h2 := zx b hb z.2
          generalize sgW a = s at *
          generalize sgW b = t at *
          subst h1 h2
          cases s <;> cases t <;> rfl
        · rw [if_neg z]
          have one : ∀ x y, x < 18446744073709551616 → y < 18446744073709551616 → mgW x < infB → mgW y < infB → isZW x → ¬ isZW y → ((double.read x).sum (double.read y)).map double.write = some y := by
            intro x y hx hy hx2 hy2 zx' zy'
            rw [read_fin hx2, read_fin hy2, (zer x zx').1]
            have sz : ∀ (s : Bool) (k : Nat), signed s 0 k = 0 := by intro s k; cases s <;> simp [signed_t, signed_f]
            simp only [Datum.sum, Option.map_some, sz, Int.zero_add]
            congr 1
            have hmin : min (pE x) (pE y) = pE x := by have := pE_ge y; have := (zer x zx').2; omega
            have hpos := pM_pos zy' hy2
            rw [hmin]
            have hpp : 0 < pM y * 2 ^ (pE y - pE x).toNat := Nat.mul_pos hpos (Nat.two_pow_pos _)
            have e1 : (signed (sgW y) (pM y) (pE y - pE x).toNat).natAbs = pM y * 2 ^ (pE y - pE x).toNat := by
              cases sgW y
              · rw [signed_f]; omega
              · rw [signed_t]; omega
            have e2 : (if signed (sgW y) (pM y) (pE y - pE x).toNat = 0 then sgW x && sgW y else decide (signed (sgW y) (pM y) (pE y - pE x).toNat < 0)) = sgW y := by
              cases sgW y
              · rw [signed_f, if_neg (by omega)]; exact decide_eq_false (by omega)
              · rw [signed_t, if_neg (by omega)]; exact decide_eq_true (by omega)
            rw [e1, e2]
            show double.nearest _ _ _ = y
            rw [near_shift _ _ _ (pE y) _ (by have := pE_ge y; have := (zer x zx').2; omega)]
            exact near_read hy hy2
          by_cases z1 : isZW a
          · rw [if_pos z1, one a b ha hb ha2 hb2 z1 (fun q => z ⟨z1, q⟩)]; rfl
          · rw [if_neg z1]
            by_cases z2 : isZW b
            · rw [if_pos z2, sum_comm', one b a hb ha hb2 ha2 z2 z1]; rfl
            · rw [if_neg z2]
              by_cases c : pE a < pE b
              · rw [if_pos c, sum_comm', add_fin hb2 ha2 z2 z1 (by omega)]; rfl
              · rw [if_neg c, add_fin ha2 hb2 z1 z2 (by omega)]; rfl
end Go.Nm
