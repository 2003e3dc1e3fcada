/- Plain: the fourth law. -/
import Derived.Test.Qxb6500573aGreatDoorSN0
import Derived.Test.Qxb6500573aGreatDoorSN1
import Derived.Test.Qxb6500573aGreatDoorSN2
import Derived.Test.Qxb6500573aGreatDoorSN3
import Derived.Test.Qxb6500573aGreatDoorSN4
import Derived.Test.Qxb6500573aGreatDoorSN5
import Derived.Test.Qxb6500573aGreatDoorSN6
import Derived.Test.Qxb6500573aGreatDoorSN7
import Derived.Test.Qxb6500573aGreatDoorSN8
set_option linter.unusedSimpArgs false
set_option linter.unusedVariables false
set_option linter.unusedSectionVars false
namespace Go.Wl
open Go Go.Sl Go.Proofs
set_option linter.unusedVariables false
set_option linter.unusedSimpArgs false
set_option maxRecDepth 100000
theorem law_one (c : CSt) (m : VM) (k : Int) (x : Nat) (t : List UInt8) (hJ : JJ c m) (hx : x < 9218868437227405312) (hf : formatM x = some t) (hs : (sayM k t).src ≠ []) : ∃ c1 m1 c2 m2, runM L0 (sayM k t).src (sayM k t).fuel c m = some (⟨0, 0, 0, (sayM k t).out, noneT⟩, c1, m1) ∧ runM L0 (sayM k t).src ((sayM k t).fuel - 1) c1 m1 = some (⟨9, 0, 0, (sayM k t).short, [45]⟩, c2, m2) ∧ JJ c2 m2 ∧ (-1000000 ≤ (sayM k t).fuel ∧ (sayM k t).fuel ≤ 1000000) := by
  by_cases h1 : k = 1
  · subst h1
    have e : sayM 1 t = say1 t := rfl
    rw [e]
    exact (one1 hx hf c m hJ).use
  by_cases h2 : k = 2
  · subst h2
    have e : sayM 2 t = say2 t := rfl
    rw [e]
    exact (one2 hx hf c m hJ).use
  by_cases h3 : k = 3
  · subst h3
    have e : sayM 3 t = say3 t := rfl
    rw [e]
    exact (one3 hx hf c m hJ).use
  by_cases h4 : k = 4
  · subst h4
    have e : sayM 4 t = say4 t := rfl
    rw [e]
    exact (one4 hx hf c m hJ).use
  by_cases h5 : k = 5
  · subst h5
    have e : sayM 5 t = say5 t := rfl
    rw [e]
    exact (one5 hx hf c m hJ).use
  by_cases h6 : k = 6
  · subst h6
    have e : sayM 6 t = say6 t := rfl
    rw [e]
    exact (one6 hx hf c m hJ).use
  by_cases h7 : k = 7
  · subst h7
    have e : sayM 7 t = say7 t := rfl
    rw [e]
    exact (one7 hx hf c m hJ).use
  by_cases h8 : k = 8
  · subst h8
    have e : sayM 8 t = say8 t := rfl
    rw [e]
    exact (one8 hx hf c m hJ).use
  by_cases h9 : k = 9
  · subst h9
    have e : sayM 9 t = say9 t := rfl
    rw [e]
    exact (one9 hx hf c m hJ).use
  by_cases h10 : k = 10
  · subst h10
    have e : sayM 10 t = say10 t := rfl
    rw [e]
    exact (one10 hx hf c m hJ).use
  by_cases h11 : k = 11
  · subst h11
    have e : sayM 11 t = say11 t := rfl
    rw [e]
    exact (one11 hx hf c m hJ).use
  by_cases h12 : k = 12
  · subst h12
    have e : sayM 12 t = say12 t := rfl
    rw [e]
    exact (one12 hx hf c m hJ).use
  by_cases h13 : k = 13
  · subst h13
    have e : sayM 13 t = say13 t := rfl
    rw [e]
    exact (one13 hx hf c m hJ).use
  by_cases h14 : k = 14
  · subst h14
    have e : sayM 14 t = say14 t := rfl
    rw [e]
    exact (one14 hx hf c m hJ).use
  by_cases h15 : k = 15
  · subst h15
    have e : sayM 15 t = say15 t := rfl
    rw [e]
    exact (one15 hx hf c m hJ).use
  by_cases h16 : k = 16
  · subst h16
    have e : sayM 16 t = say16 t := rfl
    rw [e]
    exact (one16 hx hf c m hJ).use
  by_cases h17 : k = 17
  · subst h17
    have e : sayM 17 t = say17 t := rfl
    rw [e]
    exact (one17 hx hf c m hJ).use
  by_cases h18 : k = 18
  · subst h18
    have e : sayM 18 t = say18 t := rfl
    rw [e]
    exact (one18 hx hf c m hJ).use
  by_cases h19 : k = 19
  · subst h19
    have e : sayM 19 t = say19 t := rfl
    rw [e]
    exact (one19 hx hf c m hJ).use
  by_cases h20 : k = 20
  · subst h20
    have e : sayM 20 t = say20 t := rfl
    rw [e]
    exact (one20 hx hf c m hJ).use
  by_cases h21 : k = 21
  · subst h21
    have e : sayM 21 t = say21 t := rfl
    rw [e]
    exact (one21 hx hf c m hJ).use
  by_cases h22 : k = 22
  · subst h22
    have e : sayM 22 t = say22 t := rfl
    rw [e]
    exact (one22 hx hf c m hJ).use
  by_cases h23 : k = 23
  · subst h23
    have e : sayM 23 t = say23 t := rfl
    rw [e]
    exact (one23 hx hf c m hJ).use
  by_cases h24 : k = 24
  · subst h24
    have e : sayM 24 t = say24 t := rfl
    rw [e]
    exact (one24 hx hf c m hJ).use
  by_cases h25 : k = 25
  · subst h25
    have e : sayM 25 t = say25 t := rfl
    rw [e]
    exact (one25 hx hf c m hJ).use
  by_cases h26 : k = 26
  · subst h26
    have e : sayM 26 t = say26 t := rfl
    rw [e]
    exact (one26 hx hf c m hJ).use
  by_cases h27 : k = 27
  · subst h27
    have e : sayM 27 t = say27 t := rfl
    rw [e]
    exact (one27 hx hf c m hJ).use
  by_cases h28 : k = 28
  · subst h28
    have e : sayM 28 t = say28 t := rfl
    rw [e]
    exact (one28 hx hf c m hJ).use
  by_cases h29 : k = 29
  · subst h29
    have e : sayM 29 t = say29 t := rfl
    rw [e]
    exact (one29 hx hf c m hJ).use
  by_cases h30 : k = 30
  · subst h30
    have e : sayM 30 t = say30 t := rfl
    rw [e]
    exact (one30 hx hf c m hJ).use
  by_cases h31 : k = 31
  · subst h31
    have e : sayM 31 t = say31 t := rfl
    rw [e]
    exact (one31 hx hf c m hJ).use
  by_cases h32 : k = 32
  · subst h32
    have e : sayM 32 t = say32 t := rfl
    rw [e]
    exact (one32 hx hf c m hJ).use
  by_cases h33 : k = 33
  · subst h33
    have e : sayM 33 t = say33 t := rfl
    rw [e]
    exact (one33 hx hf c m hJ).use
  by_cases h34 : k = 34
  · subst h34
    have e : sayM 34 t = say34 t := rfl
    rw [e]
    exact (one34 hx hf c m hJ).use
  by_cases h35 : k = 35
  · subst h35
    have e : sayM 35 t = say35 t := rfl
    rw [e]
    exact (one35 hx hf c m hJ).use
  by_cases h36 : k = 36
  · subst h36
    have e : sayM 36 t = say36 t := rfl
    rw [e]
    exact (one36 hx hf c m hJ).use
  by_cases h37 : k = 37
  · subst h37
    have e : sayM 37 t = say37 t := rfl
    rw [e]
    exact (one37 hx hf c m hJ).use
  by_cases h38 : k = 38
  · subst h38
    have e : sayM 38 t = say38 t := rfl
    rw [e]
    exact (one38 hx hf c m hJ).use
  by_cases h39 : k = 39
  · subst h39
    have e : sayM 39 t = say39 t := rfl
    rw [e]
    exact (one39 hx hf c m hJ).use
  refine absurd ?_ hs
  unfold sayM
  rw [if_neg h1, if_neg h2, if_neg h3, if_neg h4, if_neg h5, if_neg h6, if_neg h7, if_neg h8, if_neg h9, if_neg h10, if_neg h11, if_neg h12, if_neg h13, if_neg h14, if_neg h15, if_neg h16, if_neg h17, if_neg h18, if_neg h19, if_neg h20, if_neg h21, if_neg h22, if_neg h23, if_neg h24, if_neg h25, if_neg h26, if_neg h27, if_neg h28, if_neg h29, if_neg h30, if_neg h31, if_neg h32, if_neg h33, if_neg h34, if_neg h35, if_neg h36, if_neg h37, if_neg h38, if_neg h39]
  rfl
theorem law_two (c : CSt) (m : VM) (k : Int) (x : Nat) (t : List UInt8) (hJ : JJ c m) (hx : x < 9218868437227405312) (hf : formatM x = some t) (hs : (morM k t).src ≠ []) : ∃ c1 m1 c2 m2, runM L0 (morM k t).src (morM k t).fuel c m = some (⟨0, 0, (morM k t).m, (morM k t).out, noneT⟩, c1, m1) ∧ runM L0 (morM k t).src ((morM k t).fuel - 1) c1 m1 = some (⟨9, 0, (morM k t).ms, (morM k t).short, [45]⟩, c2, m2) ∧ JJ c2 m2 ∧ (-1000000 ≤ (morM k t).fuel ∧ (morM k t).fuel ≤ 1000000) := by
  by_cases h40 : k = 40
  · subst h40
    have e : morM 40 t = say40 t := rfl
    rw [e]
    exact (one40 hx hf c m hJ).use
  by_cases h41 : k = 41
  · subst h41
    have e : morM 41 t = say41 t := rfl
    rw [e]
    exact (one41 hx hf c m hJ).use
  by_cases h42 : k = 42
  · subst h42
    have e : morM 42 t = say42 t := rfl
    rw [e]
    exact (one42 hx hf c m hJ).use
  by_cases h43 : k = 43
  · subst h43
    have e : morM 43 t = say43 t := rfl
    rw [e]
    exact (one43 hx hf c m hJ).use
  by_cases h44 : k = 44
  · subst h44
    have e : morM 44 t = say44 t := rfl
    rw [e]
    exact (one44 hx hf c m hJ).use
  by_cases h45 : k = 45
  · subst h45
    have e : morM 45 t = say45 t := rfl
    rw [e]
    exact (one45 hx hf c m hJ).use
  by_cases h46 : k = 46
  · subst h46
    have e : morM 46 t = say46 t := rfl
    rw [e]
    exact (one46 hx hf c m hJ).use
  by_cases h47 : k = 47
  · subst h47
    have e : morM 47 t = say47 t := rfl
    rw [e]
    exact (one47 hx hf c m hJ).use
  by_cases h48 : k = 48
  · subst h48
    have e : morM 48 t = say48 t := rfl
    rw [e]
    exact (one48 hx hf c m hJ).use
  by_cases h49 : k = 49
  · subst h49
    have e : morM 49 t = say49 t := rfl
    rw [e]
    exact (one49 hx hf c m hJ).use
  by_cases h50 : k = 50
  · subst h50
    have e : morM 50 t = say50 t := rfl
    rw [e]
    exact (one50 hx hf c m hJ).use
  by_cases h51 : k = 51
  · subst h51
    have e : morM 51 t = say51 t := rfl
    rw [e]
    exact (one51 hx hf c m hJ).use
  by_cases h52 : k = 52
  · subst h52
    have e : morM 52 t = say52 t := rfl
    rw [e]
    exact (one52 hx hf c m hJ).use
  by_cases h53 : k = 53
  · subst h53
    have e : morM 53 t = say53 t := rfl
    rw [e]
    exact (one53 hx hf c m hJ).use
  by_cases h54 : k = 54
  · subst h54
    have e : morM 54 t = say54 t := rfl
    rw [e]
    exact (one54 hx hf c m hJ).use
  refine absurd ?_ hs
  unfold morM
  rw [if_neg h40, if_neg h41, if_neg h42, if_neg h43, if_neg h44, if_neg h45, if_neg h46, if_neg h47, if_neg h48, if_neg h49, if_neg h50, if_neg h51, if_neg h52, if_neg h53, if_neg h54]
  rfl
/-- What the fourth law's walk asks. -/
theorem slaw : SLaw L0 JJ := ⟨⟨rfl, by decide⟩, fun x hx => by
    obtain ⟨t, h1, _, h2, _⟩ := fmt_all hx
    exact ⟨t, h1, by omega⟩, law_one, law_two⟩
end Go.Wl
