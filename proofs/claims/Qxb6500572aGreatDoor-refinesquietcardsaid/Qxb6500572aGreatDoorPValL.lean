/- The code's numbers stay small; a function's whole walk. -/
import Derived.Test.Qxb6500572aGreatDoorPValK
namespace Go.Wl
open Go Go.Sl
set_option linter.unusedVariables false
variable {P : Prog} {u : Fun} {n : Nat} {C C1 C2 C' : Chk} {T T' : Typ} {G G' : Goals} {fs : List Fun} {c : Ins} {o : List Int}
def fok (x : Flat) : Prop := i64ok x.op ∧ i64ok x.imm ∧ i64ok x.keep ∧ i64ok x.cut
def bok (b : Blk) : Prop := -1 ≤ b.head ∧ b.head ≤ 100000 ∧ b.height ≤ 100000 ∧ b.carry.length ≤ 100000
structure FB (C : Chk) : Prop where
  c : ∀ x, x ∈ C.code → fok x
  o : ∀ b, b ∈ C.opn → bok b
theorem bok_core {a b : Blk} (h : a.core = b.core) (hb : bok a) : bok b := by
  obtain ⟨_, h2, h3, h4, _⟩ := core_fields h
  unfold bok at hb ⊢; rw [← h2, ← h3, ← h4]; exact hb
theorem FB.stp (h : FB C) (s : C'.opn.map Blk.core = C.opn.map Blk.core) (hc : ∀ x, x ∈ C'.code → x ∈ C.code ∨ fok x) : FB C' :=
  ⟨fun x hx => (hc x hx).elim (h.c x) id, fun b hb => by obtain ⟨b0, h1, h2⟩ := mem_core s hb; exact bok_core h2 (h.o b0 h1)⟩
theorem small {x : Int} (h : -100000 ≤ x ∧ x ≤ 100000) : i64ok x := by unfold i64ok; omega
theorem fok_lab (h : FB C) {l : Nat} (hl : l < C.opn.length) {op : Int} (ho : -100000 ≤ op ∧ op ≤ 100000) : fok ⟨op, (lab C l).head, (lab C l).carry.length, (lab C l).height⟩ := by
  obtain ⟨h1, h2, h3, h4⟩ := h.o _ (List.mem_of_getElem? (lab_get hl))
  exact ⟨small ho, small (by dsimp only; omega), small (by dsimp only; omega), small (by dsimp only; omega)⟩
theorem special_code (fs : List Fun) (u : Fun) (C : Chk) (c : Ins) {r : Chk × Int} (h : special fs u C c = some r) : r.1.code = C.code := by
  unfold special at h
  split at h
  · cases h; exact (pops_less C _).2.1
  · split at h
    · cases h; exact (pops_less C _).2.1
    · split at h
      · cases h; exact (pops_less C _).2.1
      · split at h
        · cases h
          unfold callI
          split
          · rfl
          · split
            · exact (pops_less C _).2.1
            · rfl
        · split at h
          · cases h
            unfold sel
            dsimp only
            have h1 := (pops_less C [105]).2.1
            have hp : ∀ (D : Chk) (t : UInt8), (pop D t).1.code = D.code := fun D t => by
              unfold pop; split
              · rfl
              · split <;> rfl
            rw [hp, hp, h1]
          · split at h
            · cases h
              unfold localI
              split
              · rfl
              · dsimp only
                split
                · exact (pops_less C _).2.1
                · exact (pops_less C _).2.1
            · cases h
theorem fill_mem {code : List Flat} {L : List Nat} {t : Int} (ht : -100000 ≤ t ∧ t ≤ 100000) (h : ∀ x, x ∈ code → fok x) : ∀ x, x ∈ fillC code L t → fok x := by
  intro x hx
  obtain ⟨k, hk, hke⟩ := List.mem_iff_getElem.1 hx
  have hg : (fillC code L t)[k]? = some x := by rw [List.getElem?_eq_getElem hk, hke]
  rw [fillC_get] at hg
  cases hc : code[k]? with
  | none => rw [hc] at hg; cases hg
  | some y =>
    rw [hc] at hg
    have hy := h y (List.mem_of_getElem? hc)
    have e := Option.some.inj hg
    rw [← e]
    split
    · exact ⟨hy.1, small ht, hy.2.2.1, hy.2.2.2⟩
    · exact hy
theorem FB.one (h : FB C) (hci : CI C o n) (hn : n ≤ 24) (hw : well c = true) (h64 : i64ok c.op ∧ i64ok c.imm) (hf : ∀ f, f ∈ fs → f.results.length ≤ 1) (hop : c.op = 6 ∨ c.op = 7 → 0 ≤ c.imm) : FB (Wl.one fs u C c).1 := by
  have hst := hci.st
  have hcd := hci.code
  have hpos := hci.pos
  have hwp : wellP c.op c.imm c.tab.length := by unfold well at hw; simpa using hw
  have hopr : -100000 ≤ c.op ∧ c.op ≤ 100000 := by unfold wellP at hwp; omega
  unfold Wl.one
  by_cases h123 : c.op = 1 ∨ c.op = 2 ∨ c.op = 3
  · rw [if_pos h123]
    have hro := resOf_len c.imm
    unfold enter
    by_cases h2 : c.op = 2
    · rw [if_pos h2]
      refine ⟨h.c, fun b hb => ?_⟩
      rcases List.mem_append.1 hb with hb | hb
      · exact h.o b hb
      · simp at hb; subst hb; unfold bok; simp; omega
    · rw [if_neg h2]
      by_cases h3 : c.op = 3
      · rw [if_pos h3]
        dsimp only
        have hl := pops_less C [105]
        refine ⟨fun x hx => ?_, fun b hb => ?_⟩
        · rcases List.mem_append.1 (show x ∈ (pops C [105]).1.code ++ [(⟨3, -1, 0, 0⟩ : Flat)] from hx) with hx | hx
          · rw [hl.2.1] at hx; exact h.c x hx
          · simp at hx; subst hx; exact ⟨small (by decide), small (by decide), small (by decide), small (by decide)⟩
        · rcases List.mem_append.1 (show b ∈ (pops C [105]).1.opn ++ [_] from hb) with hb | hb
          · rw [hl.1] at hb; exact h.o b hb
          · have := hl.2.2.1
            simp at hb; subst hb; unfold bok; simp [hole]; omega
      · rw [if_neg h3]
        refine ⟨h.c, fun b hb => ?_⟩
        rcases List.mem_append.1 hb with hb | hb
        · exact h.o b hb
        · simp at hb; subst hb; unfold bok; simp; omega
  rw [if_neg h123]
  by_cases h4 : c.op = 4
  · rw [if_pos h4, turn_eq]
    have hl := closes_less C
    obtain ⟨C1, hC1⟩ : ∃ C1, (closes C).1 = C1 := ⟨_, rfl⟩
    rw [hC1] at hl ⊢
    have hcl : C1.code.length = C.code.length := by rw [hl.2.1]
    have h4x : ∀ x, x ∈ (hole C1 ⟨4, -1, 0, 0⟩).code → fok x := fun x hx => by
      rcases List.mem_append.1 (show x ∈ C1.code ++ [(⟨4, -1, 0, 0⟩ : Flat)] from hx) with hx | hx
      · rw [hl.2.1] at hx; exact h.c x hx
      · simp at hx; subst hx; exact ⟨small (by decide), small (by decide), small (by decide), small (by decide)⟩
    have htm : bok C1.top := h.o _ (by rw [← hl.1]; exact top_mem (by rw [hl.1]; exact hpos))
    refine ⟨fun x hx => ?_, fun b hb => ?_⟩
    · have hx' : x ∈ (fillO (hole C1 ⟨4, -1, 0, 0⟩) C1.top.alt (hole C1 ⟨4, -1, 0, 0⟩).code.length).code := hx
      cases ha : C1.top.alt with
      | none => rw [ha] at hx'; exact h4x x hx'
      | some a =>
        rw [ha] at hx'
        exact fill_mem (L := [a]) (t := ((hole C1 ⟨4, -1, 0, 0⟩).code.length : Nat)) (by simp [hole]; omega) h4x x hx'
    · rcases mem_setTop hb with hb | hb
      · have : b ∈ C1.opn := by
          revert hb; unfold fillO; split <;> exact id
        rw [hl.1] at this; exact h.o b this
      · subst hb; exact htm
  rw [if_neg h4]
  by_cases h5 : c.op = 5
  · rw [if_pos h5]
    have hl := closes_less C
    unfold leave
    obtain ⟨R, hR⟩ : ∃ R, closes C = R := ⟨_, rfl⟩
    rw [hR] at hl ⊢
    obtain ⟨C1, e1⟩ := R
    dsimp only at hl ⊢
    have hcl : C1.code.length = C.code.length := by rw [hl.2.1]
    have hfm := fill_mem (code := C1.code) (L := C1.top.wait ++ C1.top.alt.toList) (t := (C1.code.length : Nat)) (by omega) (by rw [hl.2.1]; exact h.c)
    refine ⟨fun x hx => ?_, fun b hb => ?_⟩
    · dsimp only at hx
      split at hx
      · rcases List.mem_append.1 hx with hx | hx
        · exact hfm x hx
        · simp at hx; subst hx; exact ⟨small (by decide), small (by decide), small (by decide), small (by decide)⟩
      · exact hfm x hx
    · have := List.mem_of_mem_take hb
      rw [hl.1] at this; exact h.o b this
  rw [if_neg h5]
  have hs := stp_rest (fs := fs) (u := u) hci.pos hf (fun b hb => (hci.typ b hb).2.1) (well_parts hw).1 (well_parts hw).2 h123 h4 h5
  unfold Wl.one at hs
  rw [if_neg h123, if_neg h4, if_neg h5] at hs
  refine h.stp hs.core (fun x hx => ?_)
  by_cases h67 : c.op = 6 ∨ c.op = 7
  · rw [if_pos h67] at hx
    unfold branch at hx
    split at hx
    · exact .inl hx
    · rename_i hlt
      dsimp only at hx
      have hl : c.imm.toNat < C.opn.length := by have := hop h67; omega
      have hf1 := (jump_facts (op := c.op) hl).1
      have hx' : x ∈ (jump C c.op c.imm.toNat).1.code := by
        split at hx
        · have e : (leaves (jump C c.op c.imm.toNat).1 (jump C c.op c.imm.toNat).2).1.code = (jump C c.op c.imm.toNat).1.code := (pops_less _ _).2.1
          rw [e] at hx; exact hx
        · have e : (swap (jump C c.op c.imm.toNat).1 ((jump C c.op c.imm.toNat).2 ++ [105]) (jump C c.op c.imm.toNat).2).1.code = (jump C c.op c.imm.toNat).1.code := (pops_less _ _).2.1
          rw [e] at hx; exact hx
      rw [hf1] at hx'
      rcases List.mem_append.1 hx' with hx' | hx'
      · exact .inl hx'
      · simp at hx'; subst hx'; exact .inr (fok_lab h hl hopr)
  rw [if_neg h67] at hx
  by_cases h8 : c.op = 8
  · rw [if_pos h8] at hx
    unfold table at hx
    split at hx
    · exact .inl hx
    · rename_i hany
      dsimp only at hx
      have hlt : ∀ t, t ∈ c.tab → t.toNat < C.opn.length := fun t ht => by
        by_cases hh : t.toNat < C.opn.length
        · exact hh
        · exact absurd (List.any_eq_true.2 ⟨t, ht, by simpa using hh⟩) hany
      have hf1 := (jumps_facts c.tab (hole C ⟨8, (c.tab.length : Int) - 1, 0, 0⟩) hlt).1
      have e : ∀ l, (leaves (jumps (hole C ⟨8, (c.tab.length : Int) - 1, 0, 0⟩) c.tab) l).1.code = (jumps (hole C ⟨8, (c.tab.length : Int) - 1, 0, 0⟩) c.tab).code := fun l => (pops_less _ _).2.1
      rw [e, hf1] at hx
      rcases List.mem_append.1 hx with hx | hx
      · rcases List.mem_append.1 (show x ∈ C.code ++ [_] from hx) with hx | hx
        · exact .inl hx
        · have := (well_parts hw).2
          simp at hx; subst hx; exact .inr ⟨small (by dsimp only; omega), small (by dsimp only; omega), small (by dsimp only; omega), small (by dsimp only; omega)⟩
      · obtain ⟨t, ht, hte⟩ := List.mem_map.1 hx
        rw [← hte]
        exact .inr (fok_lab h (hlt t ht) (by decide))
  rw [if_neg h8] at hx
  dsimp only at hx
  rcases List.mem_append.1 (show x ∈ _ ++ [_] from hx) with hx | hx
  · left
    revert hx
    cases hsp : special fs u C c with
    | some r => intro hx; dsimp only at hx; rw [special_code fs u C c hsp] at hx; exact hx
    | none =>
      cases hsg : sigs c.op with
      | none => exact id
      | some p =>
        obtain ⟨i, oo⟩ := p
        intro hx
        have e : (swap C i oo).1.code = C.code := (pops_less _ _).2.1
        dsimp only at hx
        rw [e] at hx; exact hx
  · simp at hx; subst hx; exact .inr ⟨h64.1, h64.2, small (by dsimp only; omega), small (by dsimp only; omega)⟩
theorem FB.start (u : Fun) (hr : u.results.length ≤ 1) : FB (Chk.start u) := ⟨fun x hx => by simp [Chk.start] at hx, fun b hb => by simp [Chk.start] at hb; subst hb; unfold bok; simp; omega⟩
theorem VI.one (h : VI P u n C T G) (hE : Env1 P fs u) (hw : well c = true) (h64 : i64ok c.imm) (h4 : c.op = 4 → ∃ al, C.top.alt = some al) (h5 : c.op = 5 → C.opn.length ≠ 1) (he : (Wl.one fs u C c).2 = 0) : ∃ T' G', VI P u (n + 1) (Wl.one fs u C c).1 T' G' ∧ TLe T T' := by
  have hwp : wellP c.op c.imm c.tab.length := by unfold well at hw; simpa using hw
  unfold wellP at hwp
  by_cases h18 : 1 ≤ c.op ∧ c.op ≤ 8
  · unfold Wl.one at he ⊢
    by_cases h123 : c.op = 1 ∨ c.op = 2 ∨ c.op = 3
    · rw [if_pos h123] at he ⊢; exact h.enter h123 (by omega) he
    rw [if_neg h123] at he ⊢
    by_cases e4 : c.op = 4
    · rw [if_pos e4] at he ⊢
      obtain ⟨al, hal⟩ := h4 e4
      exact h.turn hal he
    rw [if_neg e4] at he ⊢
    by_cases e5 : c.op = 5
    · rw [if_pos e5] at he ⊢; exact h.leave (h5 e5) he
    rw [if_neg e5] at he ⊢
    by_cases e67 : c.op = 6 ∨ c.op = 7
    · rw [if_pos e67] at he ⊢; exact h.branch e67 (by omega) he
    rw [if_neg e67, if_pos (by omega)] at he ⊢
    exact h.table (by omega) (by omega) he
  · exact h.other hE h18 h64 (fun hh => by omega) he
theorem VI.start (hr : u.results.length ≤ 1 ∧ ty2 u.results) : VI P u 0 (Chk.start u) (fun pc => if pc = 0 then some [] else none) (fun _ => none) := by
  have hm : ∀ b, b ∈ (Chk.start u).opn → b = ⟨u.results, u.results, 0, -1, false, none, []⟩ := fun b hb => by simpa [Chk.start] using hb
  have hg : ∀ {j : Nat} {b : Blk}, (Chk.start u).opn[j]? = some b → j = 0 ∧ b = ⟨u.results, u.results, 0, -1, false, none, []⟩ := fun {j b} hb => by
    rcases app_get (l := []) (show ([] ++ [_])[j]? = some b from hb) with ⟨e, _⟩ | ⟨e, e'⟩
    · simp at e
    · exact ⟨e, e'⟩
  have hL : Live (Chk.start u) := fun i b hi hb => by rw [(hg hb).2]
  refine ⟨by simp [Chk.start], fun b hb => by rw [hm b hb]; simp, fun i j a b hij ha hb => by rw [(hg ha).2, (hg hb).2]; exact Nat.le_refl _, fun b hb => by rw [hm b hb]; exact ⟨hr.1, hr.2, fun _ => rfl, fun e => by dsimp only at e; omega⟩, Nat.le_refl _, fun _ t ht => by simp [Chk.start] at ht, fun j b hb _ t ht => by simp [Chk.start] at ht, fun _ => rfl, fun hn => absurd hL hn, fun pc hpc => ?_, fun pc τ hτ => ?_, fun pc τ c hc => by simp [Chk.start] at hc, fun a t ht => (by cases ht), fun b hb a ha => ?_, fun i j a b x ha hb hx => ?_, fun b hb a ha => ?_, fun j b hb h0 => ?_, fun b hb => ?_, rfl⟩
  · simp [Chk.start] at hpc; simp; omega
  · split at hτ
    · cases hτ; exact ⟨Nat.le_refl _, fun t ht => by simp at ht⟩
    · cases hτ
  · rw [hm b hb] at ha; simp [pend] at ha
  · rw [(hg ha).2] at hx; simp [pend] at hx
  · rw [hm b hb] at ha; cases ha
  · rw [(hg hb).2] at h0; dsimp only at h0; omega
  · rw [(hg hb).2]; exact ⟨rfl, rfl, by dsimp only; omega, rfl⟩
/-- What held, at each instruction. -/
def Tr (P : Prog) (fs : List Fun) (u : Fun) (T' : Typ) : List Ins → Chk → Nat → Prop
  | [], _, _ => True
  | c :: cs, C, n => (∃ T G, VI P u n C T G ∧ TLe T T') ∧ Tr P fs u T' cs (Wl.one fs u C c).1 (n + 1)
/-- The whole walk over a function. -/
theorem run_flow : ∀ {cs : List Ins} {C : Chk} {n i : Nat} {o : List Int} {T : Typ} {G : Goals}, VI P u n C T G → CI C o n → FB C → Env1 P fs u → nest cs o = 0 → n + cs.length ≤ 24 → (∀ c, c ∈ cs → i64ok c.op ∧ i64ok c.imm) → (runOne fs u cs C i).2.2 = 0 →
    (∃ T', Flow P { u with code := (runOne fs u cs C i).1.code } T' ∧ TLe T T' ∧ Tr P fs u T' cs C n) ∧ (runOne fs u cs C i).1.code.length ≤ 1000 ∧ ∀ x, x ∈ (runOne fs u cs C i).1.code → fok x
  | [], C, n, i, o, T, G, h, hci, hfb, hE, hne, hn, h64, he => by simp [nest] at hne
  | c :: cs, C, n, i, o, T, G, h, hci, hfb, hE, hne, hn, h64, he => by
    have hw := nest_well hne
    have hc64 := h64 c List.mem_cons_self
    have hfr : ∀ f, f ∈ fs → f.results.length ≤ 1 := fun f hf => (hE.fty f hf).2.2
    simp only [List.length_cons] at hn
    have hfb' := hfb.one (fs := fs) (u := u) hci (by omega) hw hc64 hfr (well_parts hw).1
    unfold runOne at he ⊢
    by_cases h0 : (Wl.one fs u C c).2 = 0
    · rw [if_neg (by simpa using h0)] at he ⊢
      by_cases h5 : c.op = 5 ∧ o = []
      · obtain ⟨h5, rfl⟩ := h5
        have hrest : cs = [] := by
          have hne' := hne
          simp only [nest, hw, if_true] at hne'
          rw [if_neg (by omega), if_neg (by omega), if_pos h5] at hne'
          split at hne'
          · assumption
          · cases hne'
        subst hrest
        have e1 : Wl.one fs u C c = leave C := by unfold Wl.one; rw [if_neg (by omega), if_neg (by omega), if_pos h5]
        rw [e1] at h0 hfb' ⊢
        have hol : C.opn.length = 1 := hci.len
        unfold runOne
        obtain ⟨TT, hTT, hTL⟩ := h.done (by omega) hol h0
        refine ⟨⟨TT, hTT, hTL, ⟨T, G, h, hTL⟩, trivial⟩, ?_, hfb'.c⟩
        have hl := closes_less C
        have hcd := hci.code
        show (leave C).1.code.length ≤ 1000
        unfold leave
        dsimp only
        split
        · rw [List.length_append, fillC_len, hl.2.1]; simp; omega
        · rw [fillC_len, hl.2.1]; omega
      · rcases hci.one (fs := fs) (u := u) hfr hne with ⟨o', hne', hci'⟩ | ⟨q1, q2, _⟩
        · obtain ⟨T', G', h', hle⟩ := h.one hE hw hc64.2 (fun e4 => by obtain ⟨a, ha, _⟩ := hci.top4 (nest_four hne e4); exact ⟨a, ha⟩) (fun e5 => by
            have := hci.len
            cases o with
            | nil => exact absurd ⟨e5, rfl⟩ h5
            | cons a l => simp at this; omega) h0
          obtain ⟨⟨TT, q1, q2, q3⟩, q4⟩ := run_flow h' hci' hfb' hE hne' (by omega) (fun x hx => h64 x (List.mem_cons_of_mem _ hx)) he
          exact ⟨⟨TT, q1, hle.trans q2, ⟨T, G, h, hle.trans q2⟩, q3⟩, q4⟩
        · exact absurd ⟨q1, q2⟩ h5
    · rw [if_pos h0] at he; exact absurd he h0
end Go.Wl
