/- Plain: the interpreter and the machine go on together: calls end; threads end, sleep and wake. -/
import Derived.Test.Qxb6500573aGreatDoorSim1
namespace Go.Sm
open Go Go.Sl Go.Wl Go.Nm Go.Proofs
set_option linter.unusedVariables false
section
variable {K : Cn} {es : List EvM} {ρ : Nat → Option Plc} {m : VM} {u : Nat} {S : List V}
/-- One of the calls. -/
theorem TRs.split {aw : Nat} {fs : List Fr} {l : List FI} {Tk : List TkM} {W : List V} {e : Nat} (ht : TRs K es ρ m u S aw fs l Tk W e) : ∀ {k : Nat} {f : Fr}, fs[k]? = some f → ∃ F Tk' W', l[k]? = some F ∧ TRs K es ρ m u S 2 (fs.take k) (l.take k) Tk' W' f.ret.toNat ∧ F.h = W'.length ∧ W' <+: W ∧ f.base = (F.B : Int) ∧ (0 ≤ f.ret ∧ f.ret ≤ F.B) ∧ (∀ G, G ∈ l.drop k → F.B ≤ G.B) ∧ F.B ≤ e := by
  induction ht with
  | nil => intro k f hk; simp at hk
  | @snoc aw fs l Tk W f F e seg h1 hf hh ih =>
    intro k f' hk
    have hlen := h1.lens
    have h2 := hf.e1
    have h3 := hf.r
    by_cases hkl : k < fs.length
    · rw [List.getElem?_append_left hkl] at hk
      obtain ⟨F', Tk', W', q1, q2, q3, q4, q5, q6, q7, q8⟩ := ih hk
      refine ⟨F', Tk', W', by rw [List.getElem?_append_left (by omega)]; exact q1, ?_, q3, q4.trans (List.prefix_append _ _), q5, q6, fun G hG => ?_, by omega⟩
      · rw [List.take_append_of_le_length (by omega), List.take_append_of_le_length (by omega)]; exact q2
      · rw [List.drop_append_of_le_length (by omega)] at hG
        rcases List.mem_append.1 hG with hG | hG
        · exact q7 G hG
        · rw [List.mem_singleton] at hG; subst hG; omega
    · have hkl2 := (List.getElem?_eq_some_iff.1 hk).1
      rw [List.length_append, List.length_singleton] at hkl2
      have hke : k = fs.length := by omega
      subst hke
      rw [List.getElem?_append_right (Nat.le_refl _), Nat.sub_self] at hk
      injection hk with hk
      subst hk
      refine ⟨F, Tk, W, ?_, ?_, hh, List.prefix_append _ _, hf.b, hf.r, fun G hG => ?_, by omega⟩
      · rw [hlen.2.2.1]; simp
      · rw [List.take_left' rfl, hlen.2.2.1, List.take_left' rfl]; exact h1
      · rw [hlen.2.2.1, List.drop_left' rfl, List.mem_singleton] at hG
        subst hG
        exact Nat.le_refl _
/-- Values come upon the top. -/
theorem TRs.pushed {fs : List Fr} {l : List FI} {Tk : List TkM} {W : List V} {e : Nat} (ht : TRs K es ρ m u S 2 fs l Tk W e) (hne : fs ≠ []) (X : List V) (he : e ≤ S.length) (hX : X.length = 2) : TRs K es ρ m u (S.take e ++ X) 0 fs l Tk (W ++ X) (e + X.length) := by
  generalize haw : (2 : Nat) = aw at ht
  cases ht with
  | nil => exact absurd rfl hne
  | @snoc aw fs l Tk W f F e seg h1 hf hh =>
    subst haw
    have h2 := hf.e1
    have h3 := hf.r
    have hlen : (S.take e).length = e := by rw [List.length_take]; omega
    have hll := hf.ll
    rw [List.append_assoc]
    refine .snoc (h1.congr ?_ (by rw [List.length_append, hlen]; omega)) ⟨hf.b, hf.r, hf.pc, hf.cl, hf.ll, ⟨by omega, by rw [List.length_append, hlen]; exact Nat.le_refl _⟩, ?_, hf.kt, by have := hf.nc; omega, fun p hp => ?_, fun q hq => ⟨(hf.iv q hq).1, (hf.iv q hq).2.app _⟩⟩ hh
    · rw [List.take_append_of_le_length (by omega), List.take_take, Nat.min_eq_left (by omega)]
    · rw [hf.sg, List.append_assoc]
      congr 1
      · refine hidV_congr _ _ fun k hk => ?_
        have := lt_of hk
        rw [List.getElem?_append_left (by omega), List.getElem?_take_of_lt (by omega)]
      · rw [List.take_of_length_le (l := S.take e ++ X) (by rw [List.length_append, hlen]; exact Nat.le_refl _), List.drop_append_of_le_length (by omega)]
    · obtain ⟨v, w1, w2⟩ := hf.tv p hp
      refine ⟨v, ?_, w2⟩
      rw [List.take_of_length_le (l := S.take e ++ X) (by rw [List.length_append, hlen]; exact Nat.le_refl _), List.drop_append_of_le_length (by omega), List.getElem?_append_left (lt_of w1)]
      exact w1
theorem unwP_skip : ∀ (T1 R : List TkM) (d : Int), (∀ q, q ∈ T1 → q.k ≠ 3) → unwP (T1 ++ R) d = unwP R d
  | [], R, d, _ => rfl
  | q :: T1, R, d, h => by
    show (if q.k = 3 then _ else unwP (T1 ++ R) d) = _
    rw [if_neg (h q List.mem_cons_self)]
    exact unwP_skip T1 R d fun q hq => h q (List.mem_cons_of_mem _ hq)
theorem retP_skip : ∀ (T1 R : List TkM), (∀ q, q ∈ T1 → q.k ≠ 3) → retP (T1 ++ R) = retP R
  | [], R, _ => rfl
  | q :: T1, R, h => by
    show (if q.k ≠ 3 then retP (T1 ++ R) else _) = _
    rw [if_pos (h q List.mem_cons_self)]
    exact retP_skip T1 R fun q hq => h q (List.mem_cons_of_mem _ hq)
theorem unwP_foot (prot h d : Int) (R : List TkM) : unwP (⟨3, prot, h, none⟩ :: R) d = if prot = 1 then (some (⟨3, prot, h, none⟩, R), d - 1) else unwP R (d - 1) := by
  show (if (3 : Int) = 3 then _ else _) = _
  rw [if_pos rfl]
/-- How far an error flies: the same on both sides. -/
theorem TRs.unw {aw : Nat} {fs : List Fr} {l : List FI} {Tk : List TkM} {W : List V} {e : Nat} (ht : TRs K es ρ m u S aw fs l Tk W e) : Bot fs → ∀ d : Int,
    (∃ (k : Nat) (f : Fr) (F : FI) (Tk' : List TkM) (W' : List V), fs[k + 1]? = some f ∧ f.prot = true ∧ (∀ (j : Nat) (f' : Fr), k + 1 < j → fs[j]? = some f' → f'.prot = false) ∧ l[k + 1]? = some F ∧ unwP Tk d = (some (⟨3, 1, (F.h : Int), none⟩, Tk'), d - ((fs.length : Int) - ((k : Int) + 1))) ∧ TRs K es ρ m u S 2 (fs.take (k + 1)) (l.take (k + 1)) Tk' W' f.ret.toNat ∧ F.h = W'.length ∧ W' <+: W) ∨
    ((∀ (j : Nat) (f' : Fr), fs[j]? = some f' → f'.prot = false) ∧ unwP Tk d = (none, d - (fs.length : Int))) := by
  induction ht with
  | nil => intro _ d; exact .inr ⟨fun j f' h => by simp at h, by simp [unwP]⟩
  | @snoc aw fs l Tk W f F e seg h1 hf hh ih =>
    intro hb d
    obtain ⟨T1, e1, e2⟩ := hf.kt.len
    have hlen := h1.lens
    have hu : unwP (F.T ++ Tk) d = if (if f.prot = true then (1 : Int) else 0) = 1 then (some (⟨3, if f.prot = true then 1 else 0, (F.h : Int), none⟩, Tk), d - 1) else unwP Tk (d - 1) := by
      rw [e1, List.append_assoc, unwP_skip _ _ _ e2]
      exact unwP_foot _ _ _ _
    rw [hu]
    by_cases hp : f.prot = true
    · rw [if_pos hp, if_pos rfl]
      have hne : fs ≠ [] := fun q => by
        subst q
        have := hb f rfl
        rw [hp] at this
        cases this
      obtain ⟨k, hk⟩ : ∃ k, fs.length = k + 1 := by
        cases fs with
        | nil => exact absurd rfl hne
        | cons a b => exact ⟨b.length, rfl⟩
      refine .inl ⟨k, f, F, Tk, W, by rw [← hk]; simp, hp, fun j f' hj hj' => ?_, by rw [← hk, hlen.2.2.1]; simp, ?_, ?_, hh, List.prefix_append _ _⟩
      · have := lt_of hj'
        simp at this
        omega
      · rw [List.length_append, List.length_singleton, hk]
        congr 1
        push_cast
        omega
      · rw [← hk, List.take_left' rfl, hlen.2.2.1, List.take_left' rfl]
        exact h1
    · have hp0 : f.prot = false := by cases hq : f.prot <;> simp_all
      rw [if_neg hp, if_neg (by decide)]
      have hb' : Bot fs := fun f' hf' => hb f' (by rw [List.getElem?_append_left (lt_of hf')]; exact hf')
      rcases ih hb' (d - 1) with ⟨k, f', F', Tk', W', q1, q2, q3, q4, q5, q6, q7, q8⟩ | ⟨q1, q2⟩
      · have hkl := lt_of q1
        refine .inl ⟨k, f', F', Tk', W', by rw [List.getElem?_append_left hkl]; exact q1, q2, fun j f2 hj hj' => ?_, by rw [List.getElem?_append_left (by omega)]; exact q4, ?_, ?_, q7, q8.trans (List.prefix_append _ _)⟩
        · by_cases hjl : j < fs.length
          · rw [List.getElem?_append_left hjl] at hj'
            exact q3 j f2 hj hj'
          · have hj2 := lt_of hj'
            rw [List.length_append, List.length_singleton] at hj2
            rw [List.getElem?_append_right (by omega), show j - fs.length = 0 from by omega] at hj'
            injection hj' with hj'
            subst hj'
            exact hp0
        · rw [q5, List.length_append, List.length_singleton]
          congr 1
          push_cast
          omega
        · rw [List.take_append_of_le_length (by omega), List.take_append_of_le_length (by omega)]
          exact q6
      · refine .inr ⟨fun j f2 hj' => ?_, ?_⟩
        · by_cases hjl : j < fs.length
          · rw [List.getElem?_append_left hjl] at hj'
            exact q1 j f2 hj'
          · have hj2 := lt_of hj'
            rw [List.length_append, List.length_singleton] at hj2
            rw [List.getElem?_append_right (by omega), show j - fs.length = 0 from by omega] at hj'
            injection hj' with hj'
            subst hj'
            exact hp0
        · rw [q2, List.length_append, List.length_singleton]
          congr 1
          push_cast
          omega
end
end Go.Sm
