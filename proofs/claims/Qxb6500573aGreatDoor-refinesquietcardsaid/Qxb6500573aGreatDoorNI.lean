/- Plain: numm's floor, order, sign and arithmetic are num's. -/
import Derived.Test.Qxb6500573aGreatDoorNH
import Derived.Test.Qxb6500573aGreatDoorWNumE
namespace Go.Nm
open Ieee Go.Sl Go.Wl
set_option linter.unusedVariables false
set_option linter.unusedSimpArgs false
def floorW (x : Nat) : Nat :=
  if isNaNW x then nanW
  else if isInfW x ∨ isZW x then x
  else if 0 ≤ pE x then x
  else if pE x ≤ -53 then (if sgW x = true then 13830554455654793216 else 0)
  else if pM x % 2 ^ (-pE x).toNat = 0 then x
  else pkM (sgW x) (if sgW x = true then pM x / 2 ^ (-pE x).toNat * 2 ^ (-pE x).toNat + 2 ^ (-pE x).toNat else pM x / 2 ^ (-pE x).toNat * 2 ^ (-pE x).toNat) (pE x) false
theorem cut_down (s : Bool) (n d : Nat) (h : n ≠ 0) : Toward.down.cut s n d = n / 2 ^ d + (if s = true ∧ n % 2 ^ d ≠ 0 then 1 else 0) := by
  unfold Toward.cut
  dsimp only
  rw [Nat.shiftLeft_eq, Nat.one_mul]
  have key : n / 2 ^ min d (n.log2 + 2) = n / 2 ^ d ∧ (n % 2 ^ min d (n.log2 + 2) ≠ 0 ↔ n % 2 ^ d ≠ 0) := by
    by_cases c : d ≤ n.log2 + 2
    · rw [Nat.min_eq_left c]; exact ⟨rfl, Iff.rfl⟩
    · rw [Nat.min_eq_right (by omega)]
      have h1 : n < 2 ^ (n.log2 + 1) := Nat.lt_log2_self
      have h2 : 2 ^ (n.log2 + 1) ≤ 2 ^ (n.log2 + 2) := Nat.pow_le_pow_right (by decide) (by omega)
      have h3 : 2 ^ (n.log2 + 2) ≤ 2 ^ d := Nat.pow_le_pow_right (by decide) (by omega)
      rw [Nat.div_eq_of_lt (by omega), Nat.div_eq_of_lt (by omega), Nat.mod_eq_of_lt (by omega), Nat.mod_eq_of_lt (by omega)]
      exact ⟨rfl, Iff.rfl⟩
  rw [key.1]
  congr 1
  cases s
  · simp
  · by_cases c : n % 2 ^ d = 0
    · have c' : n % 2 ^ min d (n.log2 + 2) = 0 := Decidable.byContradiction fun q => (key.2.1 q) c
      simp [c, c']
    · have c' := key.2.2 c
      simp [c, c']
theorem sg_of {x : Nat} (h : x < 18446744073709551616) (hz : isZW x) : sgB (sgW x) = x := by
  rw [sg_split h]; unfold isZW mgW at hz; omega
theorem floorW_ok {x : Nat} (h : x < 18446744073709551616) (hn : ¬ isNaNW x) : floorW x = floorF x := by
  unfold floorW
  rw [if_neg hn]
  show _ = double.write ((double.read x).integral .down)
  by_cases i : isInfW x
  · rw [if_pos (Or.inl i), read_inf i]; exact (inf_word h i).symm
  · have hf := fin_of hn i
    rw [read_fin hf]
    show _ = double.nearest (sgW x) (Toward.down.cut (sgW x) (pM x <<< (pE x).toNat) (-pE x).toNat) 0
    by_cases z : isZW x
    · rw [if_pos (Or.inr z), (zerP z).1, Nat.zero_shiftLeft]
      have : Toward.down.cut (sgW x) 0 (-pE x).toNat = 0 := by
        unfold Toward.cut; simp
      rw [this, near_zero, sg_of h z]
    · rw [if_neg (fun q => q.elim i z)]
      have hp := pM_pos z hf
      have hl := pM_lt x
      have hne : pM x <<< (pE x).toNat ≠ 0 := by rw [Nat.shiftLeft_eq]; exact Nat.ne_of_gt (Nat.mul_pos hp (Nat.two_pow_pos _))
      rw [cut_down _ _ _ hne, Nat.shiftLeft_eq]
      by_cases c : 0 ≤ pE x
      · rw [if_pos c, show (-pE x).toNat = 0 by omega, Nat.pow_zero, Nat.div_one, Nat.mod_one, if_neg (fun q => q.2 rfl), Nat.add_zero, near_shift _ _ _ (pE x) 0 (by omega)]
        exact (near_read h hf).symm
      · rw [if_neg c, show (pE x).toNat = 0 by omega, Nat.pow_zero, Nat.mul_one]
        by_cases c2 : pE x ≤ -53
        · rw [if_pos c2]
          have h53 : 2 ^ 53 ≤ 2 ^ (-pE x).toNat := Nat.pow_le_pow_right (by decide) (by omega)
          rw [Nat.div_eq_of_lt (by omega), Nat.mod_eq_of_lt (by omega)]
          by_cases s : sgW x = true
          · rw [if_pos s, if_pos ⟨s, by omega⟩, s]; rfl
          · rw [if_neg s, if_neg (fun q => s q.1), show sgW x = false by simpa using s]; rfl
        · rw [if_neg c2]
          obtain ⟨k, hk⟩ : ∃ k, k = (-pE x).toNat := ⟨_, rfl⟩
          rw [← hk]
          have hk53 : k ≤ 52 := by omega
          have hpk : 2 ^ k ≤ 2 ^ 52 := Nat.pow_le_pow_right (by decide) hk53
          have hdl : pM x / 2 ^ k * 2 ^ k ≤ pM x := Nat.div_mul_le_self _ _
          by_cases r : pM x % 2 ^ k = 0
          · rw [if_pos r, if_neg (fun q => q.2 r), Nat.add_zero]
            have h1 := Nat.div_add_mod (pM x) (2 ^ k)
            rw [← near_shift (sgW x) (pM x / 2 ^ k) k 0 (pE x) (by omega), Nat.mul_comm, show 2 ^ k * (pM x / 2 ^ k) = pM x by omega]
            exact (near_read h hf).symm
          · rw [if_neg r]
            by_cases s : sgW x = true
            · rw [if_pos s, if_pos ⟨s, r⟩, pack_exact _ (by omega), ← near_shift (sgW x) (pM x / 2 ^ k + 1) k 0 (pE x) (by omega), Nat.add_mul, Nat.one_mul]
            · rw [if_neg s, if_neg (fun q => s q.1), pack_exact _ (by omega), Nat.add_zero, ← near_shift (sgW x) (pM x / 2 ^ k) k 0 (pE x) (by omega)]
theorem near_noNaN (s : Bool) (m : Nat) (p : Int) : mgW (double.nearest s m p) ≤ infB ∧ double.nearest s m p < 18446744073709551616 := by
  by_cases h : m = 0
  · subst h; rw [near_zero]; cases s <;> decide
  · rw [near_eq s h]
    have hm := Nat.min_le_right ((lst (p + m.log2) + 1074).toNat * 4503599627370496 + rn (m * 2 ^ (p - lst (p + m.log2)).toNat) (lst (p + m.log2) - p).toNat) infB
    generalize min ((lst (p + m.log2) + 1074).toNat * 4503599627370496 + rn (m * 2 ^ (p - lst (p + m.log2)).toNat) (lst (p + m.log2) - p).toNat) infB = r at *
    unfold infB at hm
    unfold mgW sgB infB
    cases s
    · rw [if_neg (by decide)]; omega
    · rw [if_pos rfl]; omega
theorem inf_noNaN (s : Bool) : mgW (sgB s + infB) ≤ infB ∧ sgB s + infB < 18446744073709551616 := by cases s <;> decide
theorem write_noNaN {d : Datum} (h : isNan d = false) : ¬ isNaNW (double.write d) ∧ double.write d < 18446744073709551616 := by
  cases d with
  | number s m p => exact ⟨fun q => by have := (near_noNaN s m p).1; unfold isNaNW at q; exact absurd q (Nat.not_lt.2 this), (near_noNaN s m p).2⟩
  | infinity s => rw [inf_w]; exact ⟨fun q => by have := (inf_noNaN s).1; unfold isNaNW at q; exact absurd q (Nat.not_lt.2 this), (inf_noNaN s).2⟩
  | nan s f => cases h
theorem ford_self {x : Nat} (h : ¬ isNaNW x) : ford x x = some .eq := by
  show (double.read x).order (double.read x) = _
  by_cases i : isInfW x
  · rw [read_inf i]; cases sgW x <;> rfl
  · rw [read_fin (fin_of h i)]
    simp only [Datum.order]
    congr 1
    generalize signed (sgW x) (pM x) (pE x - min (pE x) (pE x)).toNat = z
    show (if z < z then Ordering.lt else if z = z then .eq else .gt) = .eq
    rw [if_neg (by omega), if_pos rfl]
theorem ford_nan {x y : Nat} (h : isNaNW x ∨ isNaNW y) : ford x y = none := by
  show (double.read x).order (double.read y) = _
  rcases h with h | h
  · obtain ⟨f, e⟩ := read_nan h; rw [e]; simp [Datum.order]
  · obtain ⟨f, e⟩ := read_nan h; rw [e]; cases double.read x <;> simp [Datum.order]
theorem bits_id {x : Nat} (h : ¬ isNaNW x) : bitsM x = x := by unfold bitsM; rw [if_neg (fun q => q (ford_self h))]
theorem isNan_iff {x : Nat} : isNan (FloatKind.f64.decode x) = true ↔ isNaNW x := by
  show isNan (double.read x) = true ↔ _
  by_cases n : isNaNW x
  · obtain ⟨f, e⟩ := read_nan n; rw [e]; exact ⟨fun _ => n, fun _ => rfl⟩
  · by_cases i : isInfW x
    · rw [read_inf i]; exact ⟨fun q => (by cases q), fun q => absurd q n⟩
    · rw [read_fin (fin_of n i)]; exact ⟨fun q => (by cases q), fun q => absurd q n⟩
theorem sum_noNaN {d e f : Datum} (h : d.sum e = some f) : isNan f = false := by
  cases d <;> cases e <;> simp only [Datum.sum] at h
  all_goals first
    | (cases h <;> rfl)
    | (split at h <;> cases h <;> rfl)
theorem prod_noNaN {d e f : Datum} (h : d.product e = some f) : isNan f = false := by
  cases d <;> cases e <;> simp only [Datum.product] at h
  all_goals first
    | (cases h <;> rfl)
    | (split at h <;> cases h <;> rfl)
theorem quot_noNaN {n : Nat} {d e f : Datum} (h : d.quotient n e = some f) : isNan f = false := by
  cases d <;> cases e <;> simp only [Datum.quotient] at h
  all_goals first
    | (cases h <;> rfl)
    | (split at h
       · split at h <;> cases h <;> rfl
       · cases h <;> rfl)
theorem map_noNaN {o : Option Datum} (ho : ∀ f, o = some f → isNan f = false) {r : Nat} (h : o.map double.write = some r) : ¬ isNaNW r ∧ r < 18446744073709551616 := by
  cases o with
  | none => cases h
  | some d => cases h; exact write_noNaN (ho d rfl)
theorem add_noNaN {a b r : Nat} (h : double.add a b = some r) : ¬ isNaNW r ∧ r < 18446744073709551616 := map_noNaN (fun _ => sum_noNaN) h
theorem mul_noNaN {a b r : Nat} (h : double.mul a b = some r) : ¬ isNaNW r ∧ r < 18446744073709551616 := map_noNaN (fun _ => prod_noNaN) h
theorem div_noNaN {a b r : Nat} (h : double.div a b = some r) : ¬ isNaNW r ∧ r < 18446744073709551616 := map_noNaN (fun _ => quot_noNaN) h
theorem floor_noNaN {x : Nat} (h : ¬ isNaNW x) : ¬ isNaNW (floorF x) ∧ floorF x < 18446744073709551616 := by
  show ¬ isNaNW (double.write ((double.read x).integral .down)) ∧ double.write ((double.read x).integral .down) < _
  refine write_noNaN ?_
  have h1 : isNan (double.read x) = false := by
    cases hh : isNan (double.read x) with
    | false => rfl
    | true => exact absurd (isNan_iff.1 hh) h
  cases hd : double.read x with
  | nan s f => rw [hd] at h1; cases h1
  | infinity s => rfl
  | number s m e => rfl
/-- The sign turned. -/
def flipW (x : Nat) : Nat := if x < 9223372036854775808 then x + 9223372036854775808 else x - 9223372036854775808
theorem flip_lt {x : Nat} (h : x < 18446744073709551616) : flipW x < 18446744073709551616 := by unfold flipW; split <;> omega
theorem flip_mg {x : Nat} (h : x < 18446744073709551616) : mgW (flipW x) = mgW x ∧ sgW (flipW x) = !sgW x := by
  unfold flipW mgW sgW
  split
  · have h1 : (x + 9223372036854775808) / 9223372036854775808 % 2 = 1 := by omega
    have h2 : x / 9223372036854775808 % 2 = 0 := by omega
    exact ⟨by omega, by rw [h1, h2]; rfl⟩
  · have h1 : (x - 9223372036854775808) / 9223372036854775808 % 2 = 0 := by omega
    have h2 : x / 9223372036854775808 % 2 = 1 := by omega
    exact ⟨by omega, by rw [h1, h2]; rfl⟩
theorem flip_read {x : Nat} (h : x < 18446744073709551616) : double.read (flipW x) = (double.read x).opposite := by
  have hm := (flip_mg h).1
  have hs := (flip_mg h).2
  unfold Format.read
  dsimp only
  have e1 : flipW x % double.signWeight = x % double.signWeight := hm
  have e2 : (flipW x / double.signWeight % 2 == 1) = !(x / double.signWeight % 2 == 1) := hs
  rw [e1, e2]
  split
  · rfl
  · split
    · rfl
    · split <;> rfl
theorem sub_flip {a b : Nat} (hb : b < 18446744073709551616) : double.sub a b = double.add a (flipW b) := by
  unfold Format.sub Format.add; rw [flip_read hb]
/-- numm.Arith. -/
def arithW (op : Int) (a b : Nat) : Nat :=
  if op = 1 then addW a b
  else if op = 2 then addW a (flipW b)
  else if op = 3 then mulW a b
  else if op = 4 then divW a b
  else if op = 5 then floorW (divW a b)
  else if op = 6 then addW a (flipW (mulW (floorW (divW a b)) b))
  else nanW
theorem nanW_nan : isNaNW nanW := by decide
theorem flipN_nan : isNaNW (flipW nanW) := by decide
theorem map_bits {o : Option Nat} (h : ∀ r, o = some r → ¬ isNaNW r) : (o.map bitsM).getD nanB = o.getD nanW := by
  cases o with
  | none => rfl
  | some r => exact bits_id (h r rfl)
theorem floorDiv_ok {a b : Nat} (ha : a < 18446744073709551616) (hb : b < 18446744073709551616) : floorW (divW a b) = (floorDiv a b).getD nanW ∧ ∀ q, floorDiv a b = some q → ¬ isNaNW q ∧ q < 18446744073709551616 := by
  rw [divW_ok ha hb]
  unfold floorDiv fdiv
  show floorW ((double.div a b).getD nanW) = _ ∧ _
  cases hq : double.div a b with
  | none =>
    have e : FloatKind.f64.format.div a b = none := hq
    rw [e]
    exact ⟨by unfold floorW; rw [if_pos (show isNaNW (Option.getD none nanW) from nanW_nan)]; rfl, fun q h => by cases h⟩
  | some q =>
    have e : FloatKind.f64.format.div a b = some q := hq
    have hn := div_noNaN hq
    rw [e]
    have hd : isNan (FloatKind.f64.decode q) = false := by
      cases hh : isNan (FloatKind.f64.decode q) with
      | false => rfl
      | true => exact absurd (isNan_iff.1 hh) hn.1
    dsimp only
    rw [if_pos hd, Option.getD_some, floorW_ok hn.2 hn.1]
    exact ⟨rfl, fun q' h => by cases h; exact floor_noNaN hn.1⟩
theorem arithW_ok (op : Int) {a b : Nat} (ha : a < 18446744073709551616) (hb : b < 18446744073709551616) : arithW op a b = arithT op a b := by
  unfold arithW arithT arithM
  by_cases c1 : op = 1
  · rw [if_pos c1, if_pos c1, addW_ok ha hb, ← map_bits fun r h => (add_noNaN h).1]; rfl
  · rw [if_neg c1, if_neg c1]
    by_cases c2 : op = 2
    · rw [if_pos c2, if_pos c2, addW_ok ha (flip_lt hb), ← map_bits fun r h => (add_noNaN h).1, ← sub_flip hb]; rfl
    · rw [if_neg c2, if_neg c2]
      by_cases c3 : op = 3
      · rw [if_pos c3, if_pos c3, mulW_ok ha hb, ← map_bits fun r h => (mul_noNaN h).1]; rfl
      · rw [if_neg c3, if_neg c3]
        by_cases c4 : op = 4
        · rw [if_pos c4, if_pos c4, divW_ok ha hb, ← map_bits fun r h => (div_noNaN h).1]; rfl
        · rw [if_neg c4, if_neg c4]
          have hfd := floorDiv_ok ha hb
          by_cases c5 : op = 5
          · rw [if_pos c5, if_pos c5, hfd.1, ← map_bits fun r h => (hfd.2 r h).1]
          · rw [if_neg c5, if_neg c5]
            by_cases c6 : op = 6
            · rw [if_pos c6, if_pos c6, hfd.1]
              cases hq : floorDiv a b with
              | none =>
                show addW a (flipW (mulW nanW b)) = nanB
                have : mulW nanW b = nanW := by unfold mulW; rw [if_pos (Or.inl nanW_nan)]
                rw [this]
                unfold addW
                rw [if_pos (Or.inr flipN_nan)]
              | some q =>
                have h1 := hfd.2 q hq
                dsimp only
                rw [Option.getD_some, mulW_ok h1.2 hb]
                cases hp : double.mul q b with
                | none =>
                  have e : FloatKind.f64.format.mul q b = none := hp
                  rw [e]
                  show addW a (flipW nanW) = nanB
                  unfold addW
                  rw [if_pos (Or.inr flipN_nan)]
                | some p =>
                  have e : FloatKind.f64.format.mul q b = some p := hp
                  have h2 := mul_noNaN hp
                  rw [e]
                  dsimp only
                  rw [Option.getD_some, addW_ok ha (flip_lt h2.2), ← map_bits fun r h => (add_noNaN h).1, ← sub_flip h2.2]; rfl
            · rw [if_neg c6, if_neg c6]; rfl
end Go.Nm
