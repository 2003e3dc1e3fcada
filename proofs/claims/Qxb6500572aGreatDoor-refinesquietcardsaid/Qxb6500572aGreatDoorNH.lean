/- The two validators: an instruction, a function. -/
import Derived.Test.Qxb6500572aGreatDoorNG
import Derived.Test.Qxb6500572aGreatDoorWPmI
import Derived.Test.Qxb6500572aGreatDoorWPmJ
namespace Go.Wl
open Go Go.Sl
set_option linter.unusedVariables false
variable {src : List Ins} {i : Nat} {o : List Int} {C C' C1 : Chk} {K K' : Km} {code : List Flat} {c : Ins} {fs : List Fun} {fsM : List Fm} {u : Fun} {uM : Fm}
theorem well_five {c : Ins} (h : well c = true) (h5 : c.op = 5) : c.imm = 0 := by
  have hwp : wellP c.op c.imm c.tab.length := by unfold well at h; simpa using h
  unfold wellP at hwp
  omega
theorem KR.step (h : KR src i o C K code) (hi : i < src.length) (hc : src[i] = c) (hF : FRel fs fsM) (hU : URel u uM) (hs : uM.src = src) (hne : nest (src.drop i) o = 0) :
    (oneM fsM uM code K i c).2.2 = (one fs u C c).2 ∧ ((one fs u C c).2 = 0 → (∃ o', nest (src.drop (i + 1)) o' = 0 ∧ KR src (i + 1) o' (one fs u C c).1 (oneM fsM uM code K i c).1 (oneM fsM uM code K i c).2.1) ∨ (i + 1 = src.length ∧ (one fs u C c).1.code = (oneM fsM uM code K i c).2.1)) := by
  have hne0 := hne
  rw [List.drop_eq_getElem_cons hi, hc] at hne
  have hw := nest_well hne
  have hne1 := hne
  simp only [nest, hw, if_true] at hne
  by_cases h1 : c.op = 1 ∨ c.op = 2 ∨ c.op = 3
  · rw [if_pos h1] at hne
    split at hne
    · cases hne
    · have := h.enter hi hc h1
      unfold oneM one
      rw [if_pos h1, if_pos h1, hs]
      exact ⟨this.1, fun e => .inl ⟨_, hne, this.2 e⟩⟩
  rw [if_neg h1] at hne
  by_cases h4 : c.op = 4
  · rw [if_pos h4] at hne
    split at hne
    · rename_i hl
      have := h.turn hi hc h4 hl hne
      unfold oneM one
      rw [if_neg h1, if_neg h1, if_pos h4, if_pos h4, hs]
      exact ⟨this.1, fun e => .inl ⟨_, hne, this.2 e⟩⟩
    · cases hne
  rw [if_neg h4] at hne
  by_cases h5 : c.op = 5
  · rw [if_pos h5] at hne
    unfold oneM one
    rw [if_neg h1, if_neg h1, if_neg h4, if_neg h4, if_pos h5, if_pos h5]
    refine ⟨h.leaveE, fun e => ?_⟩
    split at hne
    · rename_i ho
      subst ho
      split at hne
      · rename_i hr
        have hl : i + 1 = src.length := by
          have := congrArg List.length hr
          rw [List.length_drop, List.length_nil] at this
          omega
        exact .inr ⟨hl, h.last hi hc h5 hl (well_five hw h5)⟩
      · cases hne
    · rename_i ho
      exact .inl ⟨_, hne, h.leave hi hc h5 (by cases o with
        | nil => exact absurd rfl ho
        | cons => simp)⟩
  rw [if_neg h5] at hne
  by_cases h6 : c.op = 6 ∨ c.op = 7
  · have := h.branch hi hc hw h6
    unfold oneM one
    rw [if_neg h1, if_neg h1, if_neg h4, if_neg h4, if_neg h5, if_neg h5, if_pos h6, if_pos h6, hs]
    exact ⟨this.1, fun e => .inl ⟨_, hne, this.2 e⟩⟩
  by_cases h8 : c.op = 8
  · have := h.table hi hc hw h8
    unfold oneM one
    rw [if_neg h1, if_neg h1, if_neg h4, if_neg h4, if_neg h5, if_neg h5, if_neg h6, if_neg h6, if_pos h8, if_pos h8, hs]
    exact ⟨this.1, fun e => .inl ⟨_, hne, this.2 e⟩⟩
  · have := h.other hi hc hF hU hw (by omega)
    exact ⟨this.1, fun e => .inl ⟨_, hne, this.2 e⟩⟩
/-- A function: error, place and code are the same. -/
theorem KR.run (hF : FRel fs fsM) (hU : URel u uM) (hs : uM.src = src) : ∀ (n i : Nat) (o : List Int) (C : Chk) (K : Km) (code : List Flat), n + i = src.length → KR src i o C K code → nest (src.drop i) o = 0 →
    (runOneM fsM uM (src.drop i) K code i).2.2.2 = (runOne fs u (src.drop i) C i).2.2 ∧ (runOneM fsM uM (src.drop i) K code i).2.2.1 = (runOne fs u (src.drop i) C i).2.1 ∧ ((runOne fs u (src.drop i) C i).2.2 = 0 → (runOneM fsM uM (src.drop i) K code i).2.1 = (runOne fs u (src.drop i) C i).1.code)
  | 0, i, o, C, K, code, hn, h, hne => by rw [List.drop_eq_nil_of_le (by omega)] at hne; simp [nest] at hne
  | n + 1, i, o, C, K, code, hn, h, hne => by
    have hi : i < src.length := by omega
    obtain ⟨h1, h2⟩ := h.step hi rfl hF hU hs hne
    rw [List.drop_eq_getElem_cons hi]
    simp only [runOneM, runOne]
    rw [h1]
    by_cases he : (one fs u C src[i]).2 = 0
    · rw [if_neg (by simpa using he), if_neg (by simpa using he)]
      rcases h2 he with ⟨o', hn', h'⟩ | ⟨hl, hcd⟩
      · exact KR.run hF hU hs n (i + 1) o' _ _ _ (by omega) h' hn'
      · rw [List.drop_eq_nil_of_le (by omega)]
        exact ⟨rfl, rfl, fun _ => hcd.symm⟩
    · rw [if_pos he, if_pos he]
      exact ⟨rfl, rfl, fun e => absurd e he⟩
theorem bt_res {r : List UInt8} (hr : r.length ≤ 1) (ht : ∀ t, t ∈ r → t = 105 ∨ t = 108) : resOf (if r = [] then 0 else ((r.getD 0 0).toNat : Int)) = r := by
  cases r with
  | nil => rfl
  | cons x l =>
    cases l with
    | cons y l => simp at hr
    | nil =>
      rcases ht x (by simp) with rfl | rfl <;> rfl
theorem KR.begin (hU : URel u uM) (hr : u.results.length ≤ 1) (ht : ∀ t, t ∈ u.results → t = 105 ∨ t = 108) : KR src 0 [] (Chk.start u) (Km.start uM) [] := by
  have hres : resOf (if uM.results = [] then 0 else ((uM.results.getD 0 0).toNat : Int)) = u.results := by rw [hU.r]; exact bt_res hr ht
  have b0 : ∀ {j : Nat} {b : Blk}, (Chk.start u).opn[j]? = some b → b = ⟨u.results, u.results, 0, -1, false, none, []⟩ := fun {j b} h => by
    have := List.mem_of_getElem? h
    simpa [Chk.start] using this
  have c0 : ∀ {j : Nat} {b : Ctl}, (Km.start uM).cs[j]? = some b → j = 0 ∧ b = ⟨1, if uM.results = [] then 0 else ((uM.results.getD 0 0).toNat : Int), 0, -1, false⟩ := fun {j b} h => by
    have := (List.getElem?_eq_some_iff.1 h).1
    have hj : j = 0 := by simp [Km.start] at this; exact this
    subst hj
    have := List.mem_of_getElem? h
    exact ⟨rfl, by simpa [Km.start] using this⟩
  refine ⟨rfl, rfl, rfl, ?_, ?_, ?_, rfl, rfl, ?_, ?_, ?_, ?_, ?_⟩
  · intro j b c hb hc
    obtain rfl := b0 hb
    obtain ⟨_, rfl⟩ := c0 hc
    refine ⟨hres.symm, ?_, rfl, rfl, rfl, by simp⟩
    show u.results = labelM _
    unfold labelM
    rw [if_neg (by simp)]
    exact hres.symm
  · intro j c hc hj
    have := (c0 hc).1
    omega
  · intro c hc
    obtain ⟨_, rfl⟩ := c0 hc
    exact ⟨rfl, rfl⟩
  · intro a x y hx
    simp [Chk.start] at hx
  · intro j b c a hb hc ha
    obtain rfl := b0 hb
    simp at ha
  · intro j b c a hb hc ha
    obtain rfl := b0 hb
    simp at ha
  · intro i j b b' a hb hb' ha
    obtain rfl := b0 hb
    simp at ha
  · intro b hb a ha
    obtain ⟨j, hj⟩ := List.getElem?_of_mem hb
    obtain rfl := b0 hj
    simp at ha
theorem FRel.flat (fsM : List Fm) : FRel (fsM.map Fm.flat) fsM where
  len := by simp
  at_ := fun g f m hf hm => by
    rw [List.getElem?_map, hm] at hf
    simp only [Option.map_some, Option.some.injEq] at hf
    subst hf
    exact ⟨rfl, rfl⟩
theorem URel.flat (uM : Fm) : URel uM.flat uM := ⟨rfl, rfl, rfl⟩
/-- What the model's checker meets, on the way. -/
theorem KR.stepOk (h : KR src i o C K code) {o1 : List Int} {n : Nat} (hC : CI C o1 n) (hn : n ≤ 1000) (hi : i < src.length) (hc : src[i] = c) (hs : uM.src = src) (hne : nest (src.drop i) o = 0) : StepOk uM K code c where
  kb := by
    have := hC.st; have := hC.len; have := hC.ol; have := h.len; have := hC.top
    refine ⟨by rw [h.st]; omega, by omega, by omega, by rw [h.st, h.syn.ht]; exact hC.top⟩
  lab := by
    rw [hs]
    have key : ∀ l, l < K.cs.length → (K.lab l).at_ < src.length ∧ ((K.lab l).op = 2 → 0 ≤ (K.lab l).at_) := fun l hl => by
      have e : K.cs[K.cs.length - 1 - l]? = some (K.lab l) := by rw [labM_eq hl]; exact List.getElem?_eq_getElem (by omega)
      by_cases hz : K.cs.length - 1 - l = 0
      · rw [hz] at e
        have := h.bot _ e
        rw [this.1, this.2]
        exact ⟨by omega, fun q => by omega⟩
      · have := (h.scn _ _ e (by omega)).1
        exact ⟨by have := this.atl; omega, fun _ => this.at0⟩
    exact ⟨fun l hl => (key l hl).1, fun l hl => (key l hl).2⟩
  els := fun h4 => by
    rw [List.drop_eq_getElem_cons hi, hc] at hne
    have := nest_four hne h4
    have ho : 0 < o.length := by cases o with
      | nil => simp at this
      | cons => simp
    exact (h.topop ho).2.at0
  wl := by rw [List.drop_eq_getElem_cons hi, hc] at hne; exact nest_well hne
  cl := by have := hC.code; rw [h.ml, ← h.cl]; omega
theorem KR.runOk (hF : FRel fs fsM) (hU : URel u uM) (hs : uM.src = src) (hf : ∀ f, f ∈ fs → f.results.length ≤ 1) (hsl : src.length ≤ 1000) : ∀ (n i : Nat) (o o1 : List Int) (C : Chk) (K : Km) (code : List Flat), n + i = src.length → KR src i o C K code → nest (src.drop i) o = 0 → CI C o1 i → nest (src.drop i) o1 = 0 →
    RunOk fsM uM (src.drop i) K code i
  | 0, i, o, o1, C, K, code, hn, h, hne, hC, hne1 => by rw [List.drop_eq_nil_of_le (by omega)] at hne; simp [nest] at hne
  | n + 1, i, o, o1, C, K, code, hn, h, hne, hC, hne1 => by
    have hi : i < src.length := by omega
    obtain ⟨h1, h2⟩ := h.step hi rfl hF hU hs hne
    have hso := h.stepOk hC (by omega) hi rfl hs hne
    rw [List.drop_eq_getElem_cons hi]
    refine ⟨hso, fun he => ?_⟩
    rw [h1] at he
    rcases h2 he with ⟨o', hn', h'⟩ | ⟨hl, hcd⟩
    · rw [List.drop_eq_getElem_cons hi] at hne1
      rcases hC.one (fs := fs) (u := u) hf hne1 with ⟨o2, hn2, hC2⟩ | ⟨_, _, hr⟩
      · exact KR.runOk hF hU hs hf hsl n (i + 1) o' o2 _ _ _ (by omega) h' hn' hC2 hn2
      · rw [hr]; trivial
    · rw [List.drop_eq_nil_of_le (by omega)]; trivial
end Go.Wl
