/- Plain: the two lexers answer alike: the stream. -/
import Derived.Test.Qxb6500573aGreatDoorZD
namespace Go.Zm
open Go Go.Sl Go.Wl Go.Nm Go.Proofs
set_option linter.unusedSectionVars false
set_option linter.unusedVariables false
theorem TokR.eof (at_ : Int) : TokR ⟨0, at_, [], 0, 0⟩ ⟨0, [], 0, at_, 0⟩ := by
  constructor <;> dsimp only
  all_goals first | rfl | (intro h; first | (exfalso; omega) | exact ⟨rfl, rfl⟩ | rfl) | omega
theorem TokR.bad {at_ e b : Int} {tx : List UInt8} : TokR ⟨1, at_, tx, b, e⟩ ⟨5, [], 0, at_, e⟩ := by
  constructor <;> dsimp only
  all_goals first | rfl | (intro h; first | (exfalso; omega) | exact ⟨rfl, rfl⟩ | rfl) | omega
theorem TokR.sym {k at_ b e e2 : Int} {tx s : List UInt8} (hk : 5 ≤ k ∧ k ≤ 46) (hs : kText k = s) : TokR ⟨k, at_, tx, b, e⟩ ⟨4, s, 0, at_, e2⟩ := by
  constructor <;> dsimp only
  all_goals first | rfl | (intro h; first | (exfalso; omega) | exact ⟨rfl, hs.symm⟩) | omega
theorem TokR.nm {at_ b e e2 : Int} {s : List UInt8} : TokR ⟨2, at_, s, b, e⟩ ⟨1, s, 0, at_, e2⟩ := by
  constructor <;> dsimp only
  all_goals first | rfl | (intro h; first | (exfalso; omega) | exact ⟨rfl, rfl⟩ | rfl) | omega
theorem TokR.nu {at_ e e2 : Int} {n : Nat} {tx : List UInt8} : TokR ⟨3, at_, tx, (n : Int), e⟩ ⟨2, [], n, at_, e2⟩ := by
  constructor <;> dsimp only
  all_goals first | rfl | (intro h; first | (exfalso; omega) | exact ⟨rfl, rfl⟩ | rfl) | omega
theorem TokR.st {at_ b e e2 : Int} {s : List UInt8} : TokR ⟨4, at_, s, b, e⟩ ⟨3, s, 0, at_, e2⟩ := by
  constructor <;> dsimp only
  all_goals first | rfl | (intro h; first | (exfalso; omega) | exact ⟨rfl, rfl⟩ | rfl) | omega
/-- What the one lexer gives at p is what the other gives. -/
def Same (src : List UInt8) (p : Nat) (x : Option LexR) (y : Nat × TS) : Prop := ∃ e t, x = some (.tok e t) ∧ y.1 ≤ src.length ∧ (t.kind = 1 → TokR t y.2) ∧ (t.kind ≠ 1 → TokR { t with err := 0 } y.2 ∧ y.1 = e ∧ p < e ∧ e ≤ src.length ∧ ∀ h : e - 1 < src.length, src[e - 1].toNat < 128)
section
variable {src : List UInt8} {p : Nat} (hp : p < src.length)
include hp
theorem run_last {q : UInt8 → Bool} (hq : ∀ c, q c = true → c.toNat < 128) : ∀ (k i : Nat), src.length - i ≤ k → i < src.length → q src[i]! = true → ∀ h : runF q src i - 1 < src.length, i < runF q src i ∧ src[runF q src i - 1].toNat < 128 := by
  intro k
  induction k with
  | zero => intro i h1 h2; omega
  | succ k ih =>
    intro i h1 h2 h3 h
    have h3' : q src[i] = true := by simpa [h2] using h3
    have hs := runF_step (p := q) h2 h3'
    have hle := runF_le (p := q) (src := src) (i := i + 1) (by omega)
    by_cases h4 : i + 1 < src.length ∧ q src[i + 1]! = true
    · have := ih (i + 1) (by omega) h4.1 h4.2 (by rw [← hs]; exact h)
      simp only [hs]
      exact ⟨by omega, this.2⟩
    · have he : runF q src (i + 1) = i + 1 := runF_stop fun hi => by
        cases e : q src[i + 1] with
        | false => rfl
        | true => exact absurd ⟨hi, by simpa [hi] using e⟩ h4
      have he2 : runF q src i = i + 1 := by rw [hs, he]
      simp only [he2, Nat.add_sub_cancel]
      exact ⟨by omega, hq _ h3'⟩
theorem word_same (hl : letterZ src[p] = true) : Same src p (some (wordAt src p)) (lexZ src p src[p]) := by
  have hw : wordM src[p] = true := decide_eq_true (by have := of_decide_eq_true hl; omega)
  have hlast := run_last hp (q := wordM) (fun c hc => by have := of_decide_eq_true hc; omega) _ p (Nat.le_refl _) hp (by simpa [hp] using hw)
  have hle := runF_le (p := wordM) (src := src) (i := p) (by omega)
  have hlt : p < runF wordM src p := by
    rw [runF_step hp hw]
    have := runF_le (p := wordM) (src := src) (i := p + 1) (by omega)
    omega
  unfold wordAt
  by_cases h40 : 40 < runF wordM src p - p
  · rw [if_neg (by omega), lex_long hl h40]
    exact ⟨_, _, rfl, hle.2, fun _ => TokR.bad, fun q => absurd rfl q⟩
  · rw [if_pos (by omega), lex_word hl h40]
    have hcut : cutS src p (runF wordM src p) = subB src p (runF wordM src p) := rfl
    rw [hcut]
    refine ⟨_, _, rfl, hle.2, fun q => ?_, fun _ => ⟨?_, rfl, hlt, hle.2, fun h => (hlast h).2⟩⟩
    · dsimp only at q
      have := keyword_ok (subB src p (runF wordM src p))
      omega
    · cases hk : kwZ (subB src p (runF wordM src p)) with
      | true =>
        have := kw_yes hk
        exact TokR.sym ⟨this.1, Int.le_trans this.2.1 (by decide)⟩ this.2.2
      | false =>
        rw [kw_no hk]
        exact TokR.nm
theorem num_same_end : numberM src p = numEnd src p := by
  unfold numberM numEnd
  dsimp only
  have h1 := runF_le (p := digitM) (src := src) (i := p) (by omega)
  generalize runF digitM src p = i at h1
  by_cases hi : i < src.length
  · rw [List.getElem?_eq_getElem hi]
    dsimp only
    by_cases hd : (src[i].toNat : Int) = 46
    · rw [if_neg (by omega)]
      have hdz : dotZ src i = hasM src (i + 1) := by
        unfold dotZ
        rw [List.getElem?_eq_getElem hi]
        dsimp only
        rw [decide_eq_true hd]
        rfl
      rw [hdz]
      cases hh : hasM src (i + 1) with
      | true => rw [if_pos rfl]; rfl
      | false =>
        rw [if_neg (by decide), if_neg (by omega), cond_false]
        have : powerZ src i = false := by
          by_cases h2 : i + 1 < src.length
          · rw [power_in h2, if_pos (by omega)]
          · exact power_out h2
        rw [this, cond_false]
    · have hdz : dotZ src i = false := by
        unfold dotZ
        rw [List.getElem?_eq_getElem hi]
        dsimp only
        rw [decide_eq_false hd]
        rfl
      rw [hdz, cond_false]
      by_cases hpp : (src[i].toNat : Int) = 112
      · rw [if_neg (by omega)]
        by_cases h2 : i + 1 < src.length
        · have hpow : powerZ src i = if (src[i + 1].toNat : Int) = 45 then hasM src (i + 2) else digitM src[i + 1] := by rw [power_in h2, if_neg (by omega)]
          rw [hpow, has_t h2]
          have hg : ((src.getD (i + 1) 0).toNat : Int) = (src[i + 1].toNat : Int) := by simp [List.getD_eq_getElem?_getD, h2]
          rw [hg]
          by_cases h45 : (src[i + 1].toNat : Int) = 45
          · have hnd : digitM src[i + 1] = false := decide_eq_false (by omega)
            rw [hnd, if_neg (by decide), if_pos h45]
            cases hh : hasM src (i + 2) with
            | true => rw [if_pos ⟨rfl, hpp, h45⟩, cond_true]
            | false => rw [if_neg (by simp), cond_false]
          · rw [if_neg h45]
            cases hh : digitM src[i + 1] with
            | true => rw [if_pos rfl, cond_true, runF_step h2 hh]
            | false => rw [if_neg (by decide), if_neg (fun q => h45 q.2.2), cond_false]
        · rw [power_out h2, cond_false, has_f h2, if_neg (by decide), if_neg (fun q => by have := q.1; rw [has_f (by omega)] at this; cases this)]
      · rw [if_pos ⟨hd, hpp⟩]
        have : powerZ src i = false := by
          by_cases h2 : i + 1 < src.length
          · rw [power_in h2, if_pos hpp]
          · exact power_out h2
        rw [this, cond_false]
  · rw [List.getElem?_eq_none (by omega)]
    have h2 : dotZ src i = false := dot_out (by omega)
    have h3 : powerZ src i = false := power_out (by omega)
    rw [h2, h3]
    rfl
theorem num_same (hd : digitM src[p] = true) : Same src p (numAt src p) (lexZ src p src[p]) := by
  have hl : letterZ src[p] = false := decide_eq_false (by have := of_decide_eq_true hd; omega)
  have he : numberM src p = numEnd src p := num_same_end hp
  have hle := numberM_le (src := src) (i := p) (by omega)
  have hlast : p < numEnd src p ∧ ∀ h : numEnd src p - 1 < src.length, src[numEnd src p - 1].toNat < 128 := by
    have hdig : ∀ c, digitM c = true → c.toNat < 128 := fun c hc => by have := of_decide_eq_true hc; omega
    have h1 := run_last hp hdig _ p (Nat.le_refl _) hp (by simpa [hp] using hd)
    have hr := runF_le (p := digitM) (src := src) (i := p) (by omega)
    have h0 : p < runF digitM src p := by
      rw [runF_step hp hd]
      have := runF_le (p := digitM) (src := src) (i := p + 1) (by omega)
      omega
    cases hdot : dotZ src (runF digitM src p) with
    | true =>
      rw [num_dot hdot]
      have h2 : runF digitM src p + 1 < src.length := by
        refine Decidable.byContradiction fun q => ?_
        rw [dot_out q] at hdot
        cases hdot
      have h3 : digitM src[runF digitM src p + 1] = true := by
        rw [dot_in h2] at hdot
        cases hq : decide ((src[runF digitM src p].toNat : Int) = 46) <;> rw [hq] at hdot
        · cases hdot
        · exact hdot
      have h4 := run_last hp hdig _ (runF digitM src p + 1) (Nat.le_refl _) h2 (by simpa [h2] using h3)
      have h5 := runF_le (p := digitM) (src := src) (i := runF digitM src p + 1) (by omega)
      exact ⟨by omega, fun h => (h4 h).2⟩
    | false =>
      cases hpow : powerZ src (runF digitM src p) with
      | true =>
        rw [num_pow hdot hpow]
        have h2 := power_le hpow
        have h5 := runF_le (p := digitM) (src := src) (i := runF digitM src p + 2) h2
        refine ⟨by omega, fun h => ?_⟩
        by_cases h6 : runF digitM src p + 2 < src.length ∧ digitM src[runF digitM src p + 2]! = true
        · exact (run_last hp hdig _ (runF digitM src p + 2) (Nat.le_refl _) h6.1 h6.2 h).2
        · have he2 : runF digitM src (runF digitM src p + 2) = runF digitM src p + 2 := runF_stop fun hi => by
            cases e : digitM src[runF digitM src p + 2] with
            | false => rfl
            | true => exact absurd ⟨hi, by simpa [hi] using e⟩ h6
          simp only [he2, show runF digitM src p + 2 - 1 = runF digitM src p + 1 by omega]
          rw [power_in (by omega)] at hpow
          split at hpow
          · cases hpow
          · split at hpow
            · omega
            · exact hdig _ hpow
      | false =>
        rw [num_no hdot hpow]
        exact ⟨h0, fun h => (h1 h).2⟩
  unfold numAt
  have hcut : cutS src p (numberM src p) = subB src p (numEnd src p) := by rw [he]; rfl
  rw [hcut, parseW_ok]
  dsimp only
  rw [he]
  rw [he] at hle
  by_cases h0 : (parseW (subB src p (numEnd src p))).2 = 0
  · rw [lex_num hl hd (fun q => q h0)]
    refine ⟨_, _, rfl, hle.2, fun q => ?_, fun _ => ⟨?_, rfl, hlast.1, hle.2, hlast.2⟩⟩
    · have h00 : ((parseW (subB src p (numEnd src p))).2 : Int) = 0 := by simpa using h0
      dsimp only at q
      rw [if_pos h00] at q
      cases q
    · have h00 : ((parseW (subB src p (numEnd src p))).2 : Int) = 0 := by simpa using h0
      dsimp only
      rw [if_pos h00]
      exact TokR.nu
  · rw [lex_nbad hl hd h0]
    have h00 : ¬ ((parseW (subB src p (numEnd src p))).2 : Int) = 0 := by simpa using h0
    refine ⟨_, _, rfl, hle.2, fun _ => ?_, fun q => ?_⟩
    · rw [if_neg h00]
      exact TokR.bad
    · exact absurd (if_neg h00) q
theorem str_same (hl : letterZ src[p] = false) (hd : digitM src[p] = false) (hq : (src[p].toNat : Int) = 34) : Same src p (some (strAt src p)) (lexZ src p src[p]) := by
  have hle := runF_le (p := untilP 34) (src := src) (i := p + 1) (by omega)
  unfold strAt
  dsimp only
  by_cases h1 : runF (untilP 34) src (p + 1) < src.length
  · have hg : ((src.getD (runF (untilP 34) src (p + 1) + 1 - 1) 0).toNat : Int) = (src[runF (untilP 34) src (p + 1)].toNat : Int) := by
      rw [Nat.add_sub_cancel, List.getD_eq_getElem?_getD, List.getElem?_eq_getElem h1]
      rfl
    rw [hg]
    by_cases h2 : (src[runF (untilP 34) src (p + 1)].toNat : Int) = 34 ∧ runF (untilP 34) src (p + 1) - p - 1 ≤ 40
    · rw [if_pos ⟨by omega, h2.1, by omega⟩, lex_str hl hd hq h1 h2.1 (by omega)]
      refine ⟨_, _, rfl, by dsimp only; omega, fun q => absurd (show (4 : Int) = 1 from q) (by decide), fun _ => ⟨TokR.st, rfl, by omega, by omega, fun h => ?_⟩⟩
      simp only [Nat.add_sub_cancel]
      omega
    · rw [if_neg (fun q => h2 ⟨q.2.1, by have := q.2.2; omega⟩), lex_sbad hl hd hq (fun _ q => by omega)]
      exact ⟨_, _, rfl, Nat.le_refl _, fun _ => TokR.bad, fun q => absurd rfl q⟩
  · rw [if_neg (fun q => by have := q.1; omega), lex_sbad hl hd hq (fun q => absurd q h1)]
    exact ⟨_, _, rfl, Nat.le_refl _, fun _ => TokR.bad, fun q => absurd rfl q⟩
theorem two_iff {c d : UInt8} : [c, d] ∈ twoL ↔ (d.toNat = 61 ∧ (c.toNat = 61 ∨ c.toNat = 126 ∨ c.toNat = 60 ∨ c.toNat = 62)) ∨ (c.toNat = 46 ∧ d.toNat = 46) ∨ (c.toNat = 47 ∧ d.toNat = 47) := by
  have e : ∀ (x : UInt8) (n : Nat), n < 256 → (x = UInt8.ofNat n ↔ x.toNat = n) := fun x n hn => by
    constructor
    · rintro rfl; rw [UInt8.toNat_ofNat']; omega
    · rintro rfl; simp
  have e1 := fun x => e x 61 (by decide)
  have e2 := fun x => e x 126 (by decide)
  have e3 := fun x => e x 60 (by decide)
  have e4 := fun x => e x 62 (by decide)
  have e5 := fun x => e x 46 (by decide)
  have e6 := fun x => e x 47 (by decide)
  simp only [twoL, List.mem_cons, List.cons.injEq, and_true, List.not_mem_nil, or_false]
  rw [show (61 : UInt8) = UInt8.ofNat 61 from rfl, show (126 : UInt8) = UInt8.ofNat 126 from rfl, show (60 : UInt8) = UInt8.ofNat 60 from rfl, show (62 : UInt8) = UInt8.ofNat 62 from rfl, show (46 : UInt8) = UInt8.ofNat 46 from rfl, show (47 : UInt8) = UInt8.ofNat 47 from rfl]
  rw [e1, e1, e2, e3, e4, e5, e5, e6, e6]
  omega
theorem two_sg {s : List UInt8} (h : s ∈ twoL) : s ∈ sgL := by
  have : ∀ s, s ∈ twoL → s ∈ sgL := by decide
  exact this s h
theorem cut_two (h1 : p + 1 < src.length) : subB src p (p + 2) = [src[p], src[p + 1]] := by
  unfold subB
  rw [List.drop_take, List.drop_eq_getElem_cons hp, show p + 2 - p = 2 by omega, List.take_succ_cons, List.drop_eq_getElem_cons h1, List.take_succ_cons, List.take_zero]
theorem cut_one : subB src p (p + 1) = [src[p]] := by
  unfold subB
  rw [List.drop_take, List.drop_eq_getElem_cons hp, show p + 1 - p = 1 by omega, List.take_succ_cons, List.take_zero]
theorem sign_same (hl : letterZ src[p] = false) (hd : digitM src[p] = false) (hq : ¬ (src[p].toNat : Int) = 34) {r : Nat} (hr : src[p].toNat < 128 → r = src[p].toNat) (hr2 : 128 ≤ src[p].toNat → 128 ≤ r) :
    Same src p (some (.tok (signAt src p r).1 ⟨signM (signAt src p r).2, p, [], 0, 13⟩)) (lexZ src p src[p]) := by
  by_cases h128 : src[p].toNat < 128
  · have hrr := hr h128
    subst hrr
    have henc := enc_lo h128
    by_cases h2 : p + 1 < src.length ∧ subB src p (p + 2) ∈ twoL
    · rw [lex_two hl hd hq h2]
      have h3 := h2.2
      rw [cut_two hp h2.1, two_iff hp] at h3
      have hs : signAt src p (src[p].toNat : Nat) = (p + 2, subB src p (p + 2)) := by
        unfold signAt
        have hg : ((src.getD (p + 1) 0).toNat : Int) = (src[p + 1].toNat : Int) := by simp [List.getD_eq_getElem?_getD, h2.1]
        have htw : twinOf (src[p].toNat : Nat) = some ((src[p + 1].toNat : Nat) : Int) := by
          unfold twinOf
          rcases h3 with ⟨h4, h5⟩ | ⟨h4, h5⟩ | ⟨h4, h5⟩
          · rw [if_neg (by omega), if_pos (by omega), h4]; rfl
          · rw [if_pos (by omega), h4, h5]; rfl
          · rw [if_pos (by omega), h4, h5]; rfl
        rw [htw]
        dsimp only
        rw [if_pos ⟨h2.1, hg⟩]
        rfl
      rw [hs]
      have hy := sign_yes (two_sg hp h2.2)
      refine ⟨_, _, rfl, by dsimp only; omega, fun q => by dsimp only at q; omega, fun _ => ⟨TokR.sym ⟨Int.le_trans (by decide : (5 : Int) ≤ 24) hy.1, hy.2.1⟩ hy.2.2, rfl, by dsimp only; omega, by dsimp only; omega, fun h => ?_⟩⟩
      simp only [show p + 2 - 1 = p + 1 by omega]
      omega
    · have hs : signAt src p (src[p].toNat : Nat) = (p + 1, [src[p]]) := by
        unfold signAt
        cases htw : twinOf ((src[p].toNat : Nat) : Int) with
        | none => dsimp only; rw [henc]
        | some tw =>
          dsimp only
          rw [if_neg ?_, henc]
          rintro ⟨q1, q2⟩
          refine h2 ⟨q1, ?_⟩
          rw [cut_two hp q1, two_iff hp]
          have hg : ((src.getD (p + 1) 0).toNat : Int) = (src[p + 1].toNat : Int) := by simp [List.getD_eq_getElem?_getD, q1]
          rw [hg] at q2
          unfold twinOf at htw
          split at htw
          · rename_i hc
            injection htw with htw
            rw [IntKind.wrap_u8] at htw
            omega
          · split at htw
            · injection htw with htw
              omega
            · cases htw
      rw [hs]
      dsimp only
      by_cases h1 : src[p].toNat ∈ oneL
      · rw [lex_one hl hd hq h2 h1]
        have hy := sign_yes ((one_same _).2 h1)
        refine ⟨_, _, rfl, by dsimp only; omega, fun q => by dsimp only at q; omega, fun _ => ⟨TokR.sym ⟨Int.le_trans (by decide : (5 : Int) ≤ 24) hy.1, hy.2.1⟩ (by rw [cut_one hp]; exact hy.2.2), rfl, by omega, by omega, fun h => ?_⟩⟩
        simp only [Nat.add_sub_cancel]
        exact h128
      · rw [lex_bad hl hd hq h2 h1, sign_no (fun q => h1 ((one_same _).1 q))]
        exact ⟨_, _, rfl, Nat.le_refl _, fun _ => TokR.bad, fun q => absurd rfl q⟩
  · have h128' : 128 ≤ src[p].toNat := by omega
    have hr3 := hr2 h128'
    have h2 : ¬ (p + 1 < src.length ∧ subB src p (p + 2) ∈ twoL) := by
      rintro ⟨q1, q2⟩
      rw [cut_two hp q1, two_iff hp] at q2
      omega
    have h1 : ¬ src[p].toNat ∈ oneL := by
      intro q
      have : ∀ n, n ∈ oneL → n < 128 := by decide
      have := this _ q
      omega
    rw [lex_bad hl hd hq h2 h1]
    have hs : signAt src p (r : Nat) = (p + 1, encR (r : Nat)) := by
      unfold signAt twinOf
      rw [if_neg (by omega), if_neg (by omega)]
    rw [hs]
    dsimp only
    obtain ⟨b, l, he, hb⟩ := enc_hi hr3
    have hno : encR ((r : Nat) : Int) ∉ sgL := by
      rw [he]
      intro q
      have : ∀ s, s ∈ sgL → ∀ x, x ∈ s → x.toNat < 128 := by decide
      have := this _ q b List.mem_cons_self
      omega
    rw [sign_no hno]
    exact ⟨_, _, rfl, Nat.le_refl _, fun _ => TokR.bad, fun q => absurd rfl q⟩
end
end Go.Zm
