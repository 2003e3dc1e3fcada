/- What every state of the validator meets (plain). -/
import Derived.Test.Qxb6500572aGreatDoorWPrepI
namespace Go.Wl
open Go Go.Sl
set_option linter.unusedVariables false
set_option linter.unusedSimpArgs false

/-- All of a block but what waits and whether it is dead. -/
def Blk.core (b : Blk) : Blk := { b with wait := [], dead := false }
theorem core_fields {a b : Blk} (h : a.core = b.core) : a.res = b.res ∧ a.carry = b.carry ∧ a.height = b.height ∧ a.head = b.head ∧ a.alt = b.alt := by
  cases a; cases b; simp [Blk.core] at h ⊢; exact h
theorem core_of_strip {a b : List Blk} (h : a.map Blk.strip = b.map Blk.strip) : a.map Blk.core = b.map Blk.core := by
  have := congrArg (List.map Blk.core) h
  simp only [List.map_map] at this
  have e : Blk.core ∘ Blk.strip = Blk.core := by funext b; rfl
  rwa [e] at this
theorem core_len {a b : List Blk} (h : a.map Blk.core = b.map Blk.core) : a.length = b.length := by simpa using congrArg List.length h
theorem core_getD {a b : List Blk} (h : a.map Blk.core = b.map Blk.core) (i : Nat) : (a.getD i Blk.nil).core = (b.getD i Blk.nil).core := by
  have hl := core_len h
  rw [List.getD_eq_getElem?_getD, List.getD_eq_getElem?_getD]
  by_cases hi : i < a.length
  · have := congrArg (fun l => l[i]?) h
    simp only [List.getElem?_map, List.getElem?_eq_getElem hi, List.getElem?_eq_getElem (show i < b.length by omega), Option.map_some, Option.some.injEq] at this
    rw [List.getElem?_eq_getElem hi, List.getElem?_eq_getElem (show i < b.length by omega)]; exact this
  · rw [List.getElem?_eq_none (by omega), List.getElem?_eq_none (by omega)]
theorem core_top {C C' : Chk} (h : C'.opn.map Blk.core = C.opn.map Blk.core) : C'.top.core = C.top.core := by
  unfold Chk.top; rw [core_len h]; exact core_getD h _
theorem set_core {l : List Blk} {i : Nat} {b : Blk} (h : (l.getD i Blk.nil).core = b.core) : (l.set i b).map Blk.core = l.map Blk.core := by
  apply List.ext_getElem
  · simp
  · intro j h1 h2
    simp only [List.length_map, List.length_set] at h1 h2
    simp only [List.getElem_map, List.getElem_set]
    split
    · rename_i e; subst e
      rw [← h, List.getD_eq_getElem?_getD, List.getElem?_eq_getElem h2]; rfl
    · rfl
def Waits (C : Chk) : Prop := ∀ b, b ∈ C.opn → ∀ a, a ∈ b.wait → a < C.code.length
def WaitsLe (C : Chk) (n : Nat) : Prop := ∀ b, b ∈ C.opn → b.wait.length ≤ n
/-- A step that opens and closes no block. -/
structure Stp (C C' : Chk) (d : Nat) : Prop where
  core : C'.opn.map Blk.core = C.opn.map Blk.core
  st : C'.st.length ≤ C.st.length + d
  ht : C.top.height ≤ C.st.length → C.top.height ≤ C'.st.length
  code : C.code.length ≤ C'.code.length ∧ C'.code.length ≤ C.code.length + d
  waits : Waits C → Waits C'
  wle : ∀ n, WaitsLe C n → WaitsLe C' (n + d)
theorem Stp.top {C C' : Chk} {d : Nat} (h : Stp C C' d) : C'.top.height = C.top.height := (core_fields (core_top h.core)).2.2.1
theorem Stp.trans {A B C : Chk} {d e : Nat} (h : Stp A B d) (g : Stp B C e) : Stp A C (d + e) :=
  ⟨g.core.trans h.core, by have := h.st; have := g.st; omega, fun x => by have := g.ht; rw [h.top] at this; exact this (h.ht x), by have := h.code; have := g.code; omega, fun x => g.waits (h.waits x),
    fun n x => by have := g.wle (n + d) (h.wle n x); rwa [Nat.add_assoc] at this⟩
theorem Stp.mono {A B : Chk} {d e : Nat} (h : Stp A B d) (le : d ≤ e) : Stp A B e :=
  ⟨h.core, by have := h.st; omega, h.ht, by have := h.code; omega, h.waits, fun n x b hb => by have := h.wle n x b hb; omega⟩
theorem Less.stp {C C' : Chk} (h : Less C C') : Stp C C' 0 :=
  ⟨by rw [h.1], by have := h.2.2.1; omega, h.2.2.2, by rw [h.2.1]; omega, fun x b hb => by rw [h.1] at hb; rw [h.2.1]; exact x b hb, fun n x b hb => by rw [h.1] at hb; have := x b hb; omega⟩
theorem stp_push (C : Chk) (o : List UInt8) : Stp C { C with st := C.st ++ o } o.length :=
  ⟨rfl, by simp, fun h => by simp; omega, by simp, fun x => x, fun n x b hb => by have := x b hb; omega⟩
theorem stp_hole (C : Chk) (f : Flat) : Stp C (hole C f) 1 :=
  ⟨rfl, by simp [hole], fun h => h, by simp [hole], fun x b hb a ha => by have := x b hb a ha; simp [hole]; omega, fun n x b hb => by have := x b hb; omega⟩
theorem stp_swap (C : Chk) (i o : List UInt8) : Stp C (swap C i o).1 o.length := by
  have := (Less.stp (pops_less C i)).trans (stp_push (pops C i).1 o)
  rwa [Nat.zero_add] at this
theorem mem_setTop {C : Chk} {b x : Blk} (h : x ∈ (C.setTop b).opn) : x ∈ C.opn ∨ x = b := List.mem_or_eq_of_mem_set h
theorem top_mem {C : Chk} (h : 0 < C.opn.length) : C.top ∈ C.opn := by rw [top_eq h]; exact List.getElem_mem _
theorem stp_leaves (C : Chk) (hN : 0 < C.opn.length) (l : List UInt8) : Stp C (leaves C l).1 0 := by
  have h1 := Less.stp (pops_less C l)
  have hN1 : 0 < (pops C l).1.opn.length := by rw [(pops_less C l).1]; exact hN
  generalize hP : pops C l = P at *
  have h2 : Stp P.1 (leaves C l).1 0 := by
    unfold leaves; rw [hP]
    refine ⟨?_, by simp; omega, fun h => by simp; omega, by simp [Chk.setTop], ?_, ?_⟩
    · exact set_core rfl
    · intro x b hb a ha
      rcases mem_setTop hb with h | h
      · exact x b h a ha
      · subst h; exact x _ (top_mem hN1) a ha
    · intro n x b hb
      rcases mem_setTop hb with h | h
      · have := x b h; omega
      · subst h; have := x _ (top_mem hN1); simp; omega
  exact h1.trans h2
theorem stp_jump (C : Chk) (op : Int) (l : Nat) (hl : l < C.opn.length) : Stp C (jump C op l).1 1 := by
  refine ⟨core_of_strip (jump_strip C op l), by rw [jump_st]; omega, fun h => by rw [jump_st]; exact h, by rw [jump_code]; omega, ?_, ?_⟩
  · intro x b hb a ha
    rw [jump_code]
    unfold jump at hb; dsimp only at hb; split at hb
    · rcases List.mem_or_eq_of_mem_set hb with h | h
      · have := x b h a ha; omega
      · subst h
        rcases List.mem_append.1 ha with h | h
        · have hm : C.opn.getD (C.opn.length - 1 - l) Blk.nil ∈ C.opn := by rw [List.getD_eq_getElem?_getD, List.getElem?_eq_getElem (by omega)]; exact List.getElem_mem _
          have := x _ hm a h; omega
        · simp at h; omega
    · have := x b hb a ha; omega
  · intro n x; exact jump_waits x
theorem stp_jumps : ∀ (l : List UInt8) (C : Chk), (∀ t, t ∈ l → t.toNat < C.opn.length) → Stp C (jumps C l) l.length
  | [], C, _ => Less.stp (Less.refl C)
  | t :: l, C, h => by
    have h1 := stp_jump C 6 t.toNat (h t (by simp))
    have hl : (jump C 6 t.toNat).1.opn.length = C.opn.length := core_len h1.core
    have := h1.trans (stp_jumps l (jump C 6 t.toNat).1 (fun x hx => by rw [hl]; exact h x (by simp [hx])))
    rw [Nat.add_comm] at this
    exact this

/-- 'o': the opcodes of the blocks open within the body (4: an if in its else arm). -/
structure CI (C : Chk) (o : List Int) (n : Nat) : Prop where
  len : C.opn.length = o.length + 1
  ol : o.length ≤ n
  hts : ∀ i j, i ≤ j → j < C.opn.length → (C.opn.getD i Blk.nil).height ≤ (C.opn.getD j Blk.nil).height
  top : C.top.height ≤ C.st.length
  st : C.st.length ≤ 10 * n
  code : C.code.length ≤ 10 * n
  typ : ∀ b, b ∈ C.opn → b.res.length ≤ 1 ∧ b.carry.length ≤ 1 ∧ ∀ a, b.alt = some a → a < C.code.length
  wle : WaitsLe C (10 * n)
  waits : Waits C
  alt : ∀ i, i < o.length → o.getD i 0 = 3 → ∃ a, (C.opn.getD (i + 1) Blk.nil).alt = some a
theorem mem_core {l l' : List Blk} (h : l'.map Blk.core = l.map Blk.core) {b : Blk} (hb : b ∈ l') : ∃ b0, b0 ∈ l ∧ b0.core = b.core := by
  have : b.core ∈ l.map Blk.core := by rw [← h]; exact List.mem_map_of_mem hb
  obtain ⟨b0, h1, h2⟩ := List.mem_map.1 this
  exact ⟨b0, h1, h2⟩
theorem CI.stp {C C' : Chk} {o : List Int} {n : Nat} (h : CI C o n) {d : Nat} (s : Stp C C' d) (hd : d ≤ 10) : CI C' o (n + 1) where
  len := by rw [core_len s.core]; exact h.len
  ol := by have := h.ol; omega
  hts := fun i j hij hj => by
    rw [(core_fields (core_getD s.core i)).2.2.1, (core_fields (core_getD s.core j)).2.2.1]
    exact h.hts i j hij (by rw [← core_len s.core]; exact hj)
  top := by rw [s.top]; exact s.ht h.top
  st := by have := s.st; have := h.st; omega
  code := by have := s.code; have := h.code; omega
  typ := fun b hb => by
    obtain ⟨b0, h1, h2⟩ := mem_core s.core hb
    have h3 := core_fields h2
    have h4 := h.typ b0 h1
    refine ⟨by rw [← h3.1]; exact h4.1, by rw [← h3.2.1]; exact h4.2.1, fun a ha => ?_⟩
    have := h4.2.2 a (by rw [h3.2.2.2.2]; exact ha)
    have := s.code; omega
  wle := fun b hb => by have := s.wle _ h.wle b hb; omega
  waits := s.waits h.waits
  alt := fun i hi h3 => by
    obtain ⟨a, ha⟩ := h.alt i hi h3
    exact ⟨a, by rw [(core_fields (core_getD s.core (i + 1))).2.2.2.2]; exact ha⟩
theorem CI.pos {C : Chk} {o : List Int} {n : Nat} (h : CI C o n) : 0 < C.opn.length := by have := h.len; omega
theorem stp_special {fs : List Fun} {u : Fun} {C : Chk} {c : Ins} {r : Chk × Int} (hN : 0 < C.opn.length) (hf : ∀ f, f ∈ fs → f.results.length ≤ 1) (h : special fs u C c = some r) : Stp C r.1 1 := by
  unfold special at h
  split at h
  · cases h; exact (stp_leaves C hN _).mono (by omega)
  split at h
  · cases h; exact (stp_leaves C hN _).mono (by omega)
  split at h
  · cases h; exact (Less.stp (pops_less C _)).mono (by omega)
  split at h
  · cases h; unfold callI; split
    · exact (Less.stp (Less.refl C)).mono (by omega)
    · split
      · rename_i f hfe
        exact (stp_swap C f.params f.results).mono (hf f (List.mem_of_getElem? hfe))
      · exact (Less.stp (Less.refl C)).mono (by omega)
  split at h
  · cases h
    have h1 := pops_less C [105]
    have h2 := h1.trans (pop_less _ 0)
    have h3 := h2.trans (pop_less _ (pop (pops C [105]).1 0).2.1)
    have := (Less.stp h3).trans (stp_push _ [(pop (pop (pops C [105]).1 0).1 (pop (pops C [105]).1 0).2.1).2.1])
    exact this
  split at h
  · cases h; unfold localI; split
    · exact (Less.stp (Less.refl C)).mono (by omega)
    · dsimp only; split
      · exact (Less.stp (pops_less C _)).mono (by omega)
      · refine (stp_swap C _ _).mono ?_
        rw [List.length_drop, List.length_take]; omega
  cases h
theorem getD_mem {l : List Blk} {i : Nat} (h : i < l.length) : l.getD i Blk.nil ∈ l := by rw [List.getD_eq_getElem?_getD, List.getElem?_eq_getElem h]; exact List.getElem_mem _
theorem stp_rest {fs : List Fun} {u : Fun} {C : Chk} {c : Ins} (hN : 0 < C.opn.length) (hf : ∀ f, f ∈ fs → f.results.length ≤ 1) (hcar : ∀ b, b ∈ C.opn → b.carry.length ≤ 1) (hc : c.op = 6 ∨ c.op = 7 → 0 ≤ c.imm) (ht : c.tab.length ≤ 5)
    (h1 : ¬ (c.op = 1 ∨ c.op = 2 ∨ c.op = 3)) (h4 : c.op ≠ 4) (h5 : c.op ≠ 5) : Stp C (one fs u C c).1 10 := by
  unfold one
  rw [if_neg h1, if_neg h4, if_neg h5]
  split
  · rename_i h67
    have hc0 := hc h67
    unfold branch; split
    · exact (Less.stp (Less.refl C)).mono (by omega)
    · rename_i hlt
      have hj := stp_jump C c.op c.imm.toNat (by omega)
      have hN' : 0 < (jump C c.op c.imm.toNat).1.opn.length := by rw [core_len hj.core]; exact hN
      have hcl : (jump C c.op c.imm.toNat).2.length ≤ 1 := by rw [jump_car]; exact hcar _ (getD_mem (by omega))
      dsimp only; split
      · exact (hj.trans (stp_leaves _ hN' _)).mono (by omega)
      · exact (hj.trans (stp_swap _ _ _)).mono (by omega)
  · split
    · unfold table; split
      · exact (Less.stp (Less.refl C)).mono (by omega)
      · rename_i hany
        have hall : ∀ t, t ∈ c.tab → t.toNat < C.opn.length := fun t htm => by
          rcases Nat.lt_or_ge t.toNat C.opn.length with h | h
          · exact h
          · exact absurd (List.any_eq_true.2 ⟨t, htm, by simpa using h⟩) hany
        have h6 := stp_hole C ⟨8, (c.tab.length : Int) - 1, 0, 0⟩
        have h7 := h6.trans (stp_jumps c.tab _ hall)
        have hN' : 0 < (jumps (hole C ⟨8, (c.tab.length : Int) - 1, 0, 0⟩) c.tab).opn.length := by rw [core_len h7.core]; exact hN
        exact (h7.trans (stp_leaves _ hN' _)).mono (by omega)
    · dsimp only
      cases hs : special fs u C c with
      | some r => exact ((stp_special hN hf hs).trans (stp_hole _ _)).mono (by omega)
      | none =>
        dsimp only
        cases hg : sigs c.op with
        | some p =>
          have := sigs_small hg
          exact ((stp_swap C p.1 p.2).trans (stp_hole _ _)).mono (by omega)
        | none => exact (stp_hole _ _).mono (by omega)
theorem getD_app_l {l : List Blk} {i : Nat} {b : Blk} (h : i < l.length) : (l ++ [b]).getD i Blk.nil = l.getD i Blk.nil := by
  rw [List.getD_eq_getElem?_getD, List.getD_eq_getElem?_getD, List.getElem?_append_left h]
theorem getD_app_r {l : List Blk} {b : Blk} : (l ++ [b]).getD l.length Blk.nil = b := by
  rw [List.getD_eq_getElem?_getD, List.getElem?_append_right (Nat.le_refl _)]; simp
theorem top_getD (C : Chk) : C.top = C.opn.getD (C.opn.length - 1) Blk.nil := rfl
theorem CI.push {C : Chk} {o : List Int} {n : Nat} (h : CI C o n) {nb : Blk} {x : Int} (hh : nb.height = C.st.length) (hr : nb.res.length ≤ 1) (hcr : nb.carry.length ≤ 1) (hw : nb.wait = []) (ha : ∀ a, nb.alt = some a → a < C.code.length) (hx : x = 3 → ∃ a, nb.alt = some a) (hol : o.length + 1 ≤ n) :
    CI { C with opn := C.opn ++ [nb] } (o ++ [x]) n where
  len := by simp [h.len]
  ol := by simpa using hol
  hts := fun i j hij hj => by
    simp only [List.length_append, List.length_cons, List.length_nil] at hj
    dsimp only
    by_cases hjl : j < C.opn.length
    · rw [getD_app_l hjl, getD_app_l (show i < C.opn.length by omega)]; exact h.hts i j hij hjl
    · have e : j = C.opn.length := by omega
      subst e
      rw [getD_app_r, hh]
      by_cases hil : i < C.opn.length
      · rw [getD_app_l hil]
        have := h.hts i (C.opn.length - 1) (by omega) (by omega)
        have := h.top
        rw [top_getD] at this; omega
      · have : i = C.opn.length := by omega
        subst this; rw [getD_app_r, hh]; exact Nat.le_refl _
  top := by
    rw [top_getD]; simp only [List.length_append, List.length_cons, List.length_nil, Nat.add_sub_cancel]
    rw [getD_app_r, hh]; exact Nat.le_refl _
  st := h.st
  code := h.code
  typ := fun b hb => by
    rcases List.mem_append.1 hb with hb | hb
    · exact h.typ b hb
    · simp at hb; subst hb; exact ⟨hr, hcr, ha⟩
  wle := fun b hb => by
    rcases List.mem_append.1 hb with hb | hb
    · exact h.wle b hb
    · simp at hb; subst hb; rw [hw]; simp
  waits := fun b hb a hab => by
    rcases List.mem_append.1 hb with hb | hb
    · exact h.waits b hb a hab
    · simp at hb; subst hb; rw [hw] at hab; simp at hab
  alt := fun i hi h3 => by
    dsimp only
    simp only [List.length_append, List.length_cons, List.length_nil] at hi
    by_cases hil : i < o.length
    · rw [List.getD_eq_getElem?_getD, List.getElem?_append_left hil, ← List.getD_eq_getElem?_getD] at h3
      obtain ⟨a, ha'⟩ := h.alt i hil h3
      exact ⟨a, by rw [getD_app_l (by have := h.len; omega)]; exact ha'⟩
    · have : i = o.length := by omega
      subst this
      rw [List.getD_eq_getElem?_getD, List.getElem?_append_right (Nat.le_refl _)] at h3
      simp at h3
      obtain ⟨a, ha'⟩ := hx h3
      exact ⟨a, by rw [← h.len, getD_app_r]; exact ha'⟩
theorem resOf_len (i : Int) : (resOf i).length ≤ 1 := by unfold resOf; split <;> simp
theorem CI.enter {C : Chk} {o : List Int} {n : Nat} (h : CI C o n) (c : Ins) (hop : c.op = 1 ∨ c.op = 2 ∨ c.op = 3) : CI (enter C c).1 (o ++ [c.op]) (n + 1) := by
  have h0 := h.stp (Less.stp (Less.refl C)) (by omega)
  unfold Wl.enter
  split
  · exact h0.push rfl (resOf_len _) (by simp) rfl (fun a ha => by cases ha) (fun e => by omega) (by have := h.ol; omega)
  · split
    · have h1 := h.stp ((Less.stp (pops_less C [105])).trans (stp_hole _ ⟨3, -1, 0, 0⟩)) (by omega)
      exact h1.push rfl (resOf_len _) (resOf_len _) rfl (fun a ha => by cases ha; simp [hole]) (fun _ => ⟨_, rfl⟩) (by have := h.ol; omega)
    · exact h0.push rfl (resOf_len _) (resOf_len _) rfl (fun a ha => by cases ha) (fun e => by omega) (by have := h.ol; omega)
theorem CI.leave {C : Chk} {o : List Int} {n : Nat} (h : CI C o n) (ho : 0 < o.length) : CI (leave C).1 o.dropLast (n + 1) := by
  have hl := closes_less C
  have h1 := h.stp (Less.stp hl) (by omega)
  unfold Wl.leave
  generalize hP : closes C = P at *
  obtain ⟨C1, e1⟩ := P
  dsimp only at h1 hl ⊢
  have hlen := h1.len
  have htm := top_mem h1.pos
  have hty := h1.typ _ htm
  have hcl : (if C1.opn.length = 1 then fillC C1.code (C1.top.wait ++ C1.top.alt.toList) C1.code.length ++ [⟨5, 0, 0, 0⟩] else fillC C1.code (C1.top.wait ++ C1.top.alt.toList) C1.code.length).length = C1.code.length := by
    rw [if_neg (by omega), fillC_len]
  have hge : ∀ i, i < C1.opn.length - 1 → (C1.opn.take (C1.opn.length - 1)).getD i Blk.nil = C1.opn.getD i Blk.nil := fun i hi => by
    rw [List.getD_eq_getElem?_getD, List.getD_eq_getElem?_getD, List.getElem?_take_of_lt hi]
  have htl : (C1.opn.take (C1.opn.length - 1)).length = C1.opn.length - 1 := by rw [List.length_take]; omega
  refine ⟨?_, ?_, ?_, ?_, ?_, ?_, ?_, ?_, ?_, ?_⟩
  · dsimp only; rw [htl, List.length_dropLast]; omega
  · rw [List.length_dropLast]; have := h.ol; omega
  · intro i j hij hj
    dsimp only at hj ⊢
    rw [htl] at hj
    rw [hge i (by omega), hge j hj]; exact h1.hts i j hij (by omega)
  · rw [top_getD]; dsimp only
    rw [htl, hge _ (by omega), List.length_append]
    have := h1.hts (C1.opn.length - 1 - 1) (C1.opn.length - 1) (by omega) (by omega)
    have h2 := h1.top
    rw [top_getD] at h2; omega
  · dsimp only; rw [List.length_append]
    have := h.st; have := hl.2.2.1; omega
  · dsimp only; rw [hcl]; exact h1.code
  · intro b hb
    have := h1.typ b (List.mem_of_mem_take hb)
    dsimp only; rw [hcl]; exact this
  · intro b hb; exact h1.wle b (List.mem_of_mem_take hb)
  · intro b hb a ha; dsimp only; rw [hcl]; exact h1.waits b (List.mem_of_mem_take hb) a ha
  · intro i hi h3
    rw [List.length_dropLast] at hi
    have h3' : o.getD i 0 = 3 := by
      rw [List.getD_eq_getElem?_getD] at h3 ⊢
      rwa [List.dropLast_eq_take, List.getElem?_take_of_lt (by omega)] at h3
    obtain ⟨a, ha⟩ := h1.alt i (by omega) h3'
    exact ⟨a, by dsimp only; rw [hge _ (by omega)]; exact ha⟩
def fillO (C : Chk) (a : Option Nat) (t : Int) : Chk := match a with
  | some a => fill C a t
  | none => C
theorem turn_eq (C : Chk) : (turn C).1 = (fillO (hole (closes C).1 ⟨4, -1, 0, 0⟩) (closes C).1.top.alt (hole (closes C).1 ⟨4, -1, 0, 0⟩).code.length).setTop { (closes C).1.top with wait := (closes C).1.top.wait ++ [(closes C).1.code.length], alt := none, dead := false } := by
  unfold turn fillO; dsimp only
  cases (closes C).1.top.alt <;> rfl
theorem CI.turn {C : Chk} {o : List Int} {n : Nat} (h : CI C o n) (ho : 0 < o.length) : CI (turn C).1 (o.dropLast ++ [4]) (n + 1) := by
  have hl := closes_less C
  have h1 := h.stp ((Less.stp hl).trans (stp_hole (closes C).1 ⟨4, -1, 0, 0⟩)) (by omega)
  rw [turn_eq]
  generalize hP : closes C = P at *
  obtain ⟨C1, e1⟩ := P
  dsimp only at h1 hl ⊢
  have hlen := h1.len
  have htm : C1.top ∈ C1.opn := top_mem h1.pos
  have hN : 0 < C1.opn.length := h1.pos
  obtain ⟨C2, hC2⟩ : ∃ x, fillO (hole C1 ⟨4, -1, 0, 0⟩) C1.top.alt (hole C1 ⟨4, -1, 0, 0⟩).code.length = x := ⟨_, rfl⟩
  rw [hC2]
  have e1 : C2.opn = C1.opn := by rw [← hC2]; unfold fillO; split <;> rfl
  have e2 : C2.st = C1.st := by rw [← hC2]; unfold fillO; split <;> rfl
  have e3 : C2.code.length = C1.code.length + 1 := by rw [← hC2]; unfold fillO; split <;> simp [fill, hole]
  have hll : C1.opn.length = o.length + 1 := h1.len
  have hset : ∀ i, i < C1.opn.length - 1 → ((C2.setTop { C1.top with wait := C1.top.wait ++ [C1.code.length], alt := none, dead := false }).opn.getD i Blk.nil) = C1.opn.getD i Blk.nil := fun i hi => by
    simp only [Chk.setTop, e1]
    rw [List.getD_eq_getElem?_getD, List.getD_eq_getElem?_getD, List.getElem?_set_ne (by omega)]
  have hsl : ((C2.setTop { C1.top with wait := C1.top.wait ++ [C1.code.length], alt := none, dead := false }).opn.getD (C1.opn.length - 1) Blk.nil) = { C1.top with wait := C1.top.wait ++ [C1.code.length], alt := none, dead := false } := by
    simp only [Chk.setTop, e1]
    rw [List.getD_eq_getElem?_getD, List.getElem?_set_self (by omega)]; rfl
  have hsn : (C2.setTop { C1.top with wait := C1.top.wait ++ [C1.code.length], alt := none, dead := false }).opn.length = C1.opn.length := by simp [Chk.setTop, e1]
  have hht : ∀ i, i < C1.opn.length → ((C2.setTop { C1.top with wait := C1.top.wait ++ [C1.code.length], alt := none, dead := false }).opn.getD i Blk.nil).height = (C1.opn.getD i Blk.nil).height := fun i hi => by
    by_cases e : i = C1.opn.length - 1
    · subst e; rw [hsl]; rfl
    · rw [hset i (by omega)]
  refine ⟨?_, ?_, ?_, ?_, ?_, ?_, ?_, ?_, ?_, ?_⟩
  · rw [hsn]; simp; omega
  · have := h.ol; simp; omega
  · intro i j hij hj
    rw [hsn] at hj
    rw [hht i (by omega), hht j hj]; exact h1.hts i j hij hj
  · rw [top_getD, hsn, hsl]; show C1.top.height ≤ C2.st.length; rw [e2]; exact h1.top
  · show C2.st.length ≤ _; rw [e2]; exact h1.st
  · show C2.code.length ≤ _; rw [e3]; have := h1.code; simp [hole] at this; omega
  · intro b hb
    rcases mem_setTop hb with hb | hb
    · rw [e1] at hb; have := h1.typ b hb
      refine ⟨this.1, this.2.1, fun a ha => ?_⟩
      have := this.2.2 a ha; simp [hole] at this; show a < C2.code.length; omega
    · subst hb; have := h1.typ _ htm; exact ⟨this.1, this.2.1, fun a ha => by cases ha⟩
  · intro b hb
    rcases mem_setTop hb with hb | hb
    · rw [e1] at hb; exact h1.wle b hb
    · subst hb
      have hm0 : C1.top ∈ C.opn := by rw [← hl.1]; exact htm
      have := h.wle _ hm0; simp; omega
  · intro b hb a ha
    show a < C2.code.length
    rcases mem_setTop hb with hb | hb
    · rw [e1] at hb; have := h1.waits b hb a ha; simp [hole] at this; omega
    · subst hb
      rcases List.mem_append.1 ha with ha | ha
      · have := h1.waits _ htm a ha; simp [hole] at this; omega
      · simp at ha; omega
  · intro i hi h3
    simp only [List.length_append, List.length_dropLast, List.length_cons, List.length_nil] at hi
    by_cases hil : i < o.length - 1
    · have h3' : o.getD i 0 = 3 := by
        rw [List.getD_eq_getElem?_getD] at h3 ⊢
        rwa [List.getElem?_append_left (by simpa using hil), List.dropLast_eq_take, List.getElem?_take_of_lt hil] at h3
      obtain ⟨a, ha⟩ := h1.alt i (by omega) h3'
      exact ⟨a, by rw [hset _ (by omega)]; exact ha⟩
    · have : i = o.dropLast.length := by simp; omega
      rw [this, List.getD_eq_getElem?_getD, List.getElem?_append_right (Nat.le_refl _)] at h3
      simp at h3
theorem well_parts {c : Ins} (h : well c = true) : (c.op = 6 ∨ c.op = 7 → 0 ≤ c.imm) ∧ c.tab.length ≤ 5 := by
  have hwp : wellP c.op c.imm c.tab.length := by unfold well at h; simpa using h
  unfold wellP at hwp
  exact ⟨by omega, by omega⟩
theorem nest_well {c : Ins} {rest : List Ins} {o : List Int} (h : nest (c :: rest) o = 0) : well c = true := by
  cases hw : well c with
  | true => rfl
  | false => simp [nest, hw] at h
theorem CI.top4 {C : Chk} {o : List Int} {n : Nat} (h : CI C o n) (ho : o.getLast? = some 3) : ∃ a, C.top.alt = some a ∧ a < C.code.length := by
  have hp : 0 < o.length := by cases o with
    | nil => simp at ho
    | cons => simp
  have h3 : o.getD (o.length - 1) 0 = 3 := by
    rw [List.getLast?_eq_getElem?] at ho
    rw [List.getD_eq_getElem?_getD, ho]; rfl
  obtain ⟨a, ha⟩ := h.alt (o.length - 1) (by omega) h3
  have e : C.top = C.opn.getD (o.length - 1 + 1) Blk.nil := by rw [top_getD, h.len]; congr 1; omega
  rw [e]
  refine ⟨a, ha, ?_⟩
  rw [← e] at ha
  exact (h.typ _ (top_mem h.pos)).2.2 a ha
/-- One instruction: the state behind it. -/
theorem CI.one {C : Chk} {o : List Int} {n : Nat} (h : CI C o n) {fs : List Fun} {u : Fun} {c : Ins} {rest : List Ins} (hf : ∀ f, f ∈ fs → f.results.length ≤ 1) (hne : nest (c :: rest) o = 0) :
    (∃ o', nest rest o' = 0 ∧ CI (one fs u C c).1 o' (n + 1)) ∨ (c.op = 5 ∧ o = [] ∧ rest = []) := by
  have hw := nest_well hne
  obtain ⟨hw1, hw2⟩ := well_parts hw
  simp only [nest, hw, if_true] at hne
  split at hne
  · rename_i h123
    split at hne
    · omega
    · refine .inl ⟨_, hne, ?_⟩
      unfold Wl.one; rw [if_pos h123]
      exact h.enter c h123
  · rename_i h123
    split at hne
    · rename_i h4
      split at hne
      · rename_i hg
        refine .inl ⟨_, hne, ?_⟩
        unfold Wl.one; rw [if_neg h123, if_pos h4]
        refine h.turn ?_
        cases o with
        | nil => simp at hg
        | cons => simp
      · omega
    · rename_i h4
      split at hne
      · rename_i h5
        split at hne
        · rename_i ho
          split at hne
          · rename_i hr; exact .inr ⟨h5, ho, hr⟩
          · omega
        · rename_i ho
          refine .inl ⟨_, hne, ?_⟩
          unfold Wl.one; rw [if_neg h123, if_neg h4, if_pos h5]
          refine h.leave ?_
          cases o with
          | nil => exact absurd rfl ho
          | cons => simp
      · rename_i h5
        exact .inl ⟨_, hne, h.stp (stp_rest h.pos hf (fun b hb => (h.typ b hb).2.1) hw1 hw2 h123 h4 h5) (by omega)⟩
theorem CI.start (u : Fun) (hr : u.results.length ≤ 1) : CI (Chk.start u) [] 0 where
  len := rfl
  ol := Nat.le_refl _
  hts := fun i j hij hj => by
    have : j = 0 := by simp [Chk.start] at hj; exact hj
    subst this
    have : i = 0 := by omega
    subst this; exact Nat.le_refl _
  top := Nat.le_refl _
  st := Nat.le_refl _
  code := Nat.le_refl _
  typ := fun b hb => by simp [Chk.start] at hb; subst hb; exact ⟨hr, hr, fun a ha => by cases ha⟩
  wle := fun b hb => by simp [Chk.start] at hb; subst hb; simp
  waits := fun b hb a ha => by simp [Chk.start] at hb; subst hb; simp at ha
  alt := fun i hi => by simp at hi
/-! The loading. -/
def runOne (fs : List Fun) (u : Fun) : List Ins → Chk → Nat → Chk × Nat × Int
  | [], C, _ => (C, 0, 0)
  | c :: cs, C, i => if (one fs u C c).2 ≠ 0 then ((one fs u C c).1, i, (one fs u C c).2) else runOne fs u cs (one fs u C c).1 (i + 1)
def tyAt (m : Mod) (f : Nat) : Int := if f < m.imports.length then m.imq f else (m.func ((f : Int) - m.imports.length)).1
def funAt (m : Mod) (f : Nat) : Fun := ⟨(m.type (tyAt m f)).1, (m.type (tyAt m f)).2, if f < m.imports.length then [] else (m.func ((f : Int) - m.imports.length)).2.1, []⟩
def reads (m : Mod) : Nat → List Fun → Nat → List Fun × Option Nat
  | 0, acc, _ => (acc, none)
  | n + 1, acc, f => if (m.params.length : Int) ≤ tyAt m f then (acc, some f) else reads m n (acc ++ [funAt m f]) (f + 1)
def codeOf (m : Mod) (f : Nat) : List Ins := match m.funcs[f - m.imports.length]? with
  | some fn => fn.code
  | none => []
def bodies (m : Mod) : Nat → List Fun → Nat → List Fun × Nat × Nat × Int
  | 0, fs, _ => (fs, 0, 0, 0)
  | n + 1, fs, f => match fs[f]? with
    | some u => if (runOne fs u (codeOf m f) (Chk.start u) 0).2.2 ≠ 0 then (fs, f, (runOne fs u (codeOf m f) (Chk.start u) 0).2.1, (runOne fs u (codeOf m f) (Chk.start u) 0).2.2)
      else bodies m n (fs.set f { u with code := (runOne fs u (codeOf m f) (Chk.start u) 0).1.code }) (f + 1)
    | none => (fs, 0, 0, 0)
/-- The program, where the loading faulted: function, instruction, error. -/
def loadM (m : Mod) : Prog × Int × Int × Int :=
  let r := reads m (m.imports.length + m.funcs.length) [] 0
  match r.2 with
  | some f => (⟨m.imports.length, m.min, m.max, r.1⟩, f, -1, 5)
  | none =>
    let b := bodies m m.funcs.length r.1 m.imports.length
    (⟨m.imports.length, m.min, m.max, b.1⟩, b.2.1, b.2.2.1, b.2.2.2)
/-- What every module under the builder meets. -/
structure ModOk (m : Mod) : Prop where
  nt : m.params.length ≤ 4
  rl : m.results.length = m.params.length
  ni : m.imports.length ≤ 2
  nf : m.funcs.length ≤ 4
  ps : ∀ p, p ∈ m.params → p.length ≤ 3 ∧ types p = true
  rs : ∀ r, r ∈ m.results → r.length ≤ 1 ∧ types r = true
  im : ∀ t, t ∈ m.imports → 0 ≤ t ∧ t ≤ 4294967295
  mem : 0 ≤ m.min ∧ m.min ≤ m.max ∧ m.max ≤ 4
  fn : ∀ f, f ∈ m.funcs → 0 ≤ f.typ ∧ f.typ ≤ 4294967295 ∧ f.locals.length ≤ 4 ∧ types f.locals = true ∧ f.code.length ≤ 24 ∧ nest f.code [] = 0
theorem ModOk.empty : ModOk Mod.empty := ⟨by decide, rfl, by decide, by decide, fun p h => by simp [Mod.empty] at h, fun p h => by simp [Mod.empty] at h, fun p h => by simp [Mod.empty] at h, by decide, fun p h => by simp [Mod.empty] at h⟩
theorem types_app {a b : List UInt8} (h : types (a ++ b) = true) : types a = true ∧ types b = true := by
  simpa [types, List.all_append] using h
theorem ModOk.addType {m : Mod} (h : ModOk m) (ps rs : List UInt8) : ModOk (addType m ps rs).1 := by
  unfold Wl.addType
  split
  · exact h
  · split
    · exact h
    · split
      · rename_i h1 h2 h3
        obtain ⟨t1, t2⟩ := types_app h3
        refine ⟨by simp; omega, by simp [h.rl], h.ni, h.nf, fun p hp => ?_, fun p hp => ?_, h.im, h.mem, h.fn⟩
        · rcases List.mem_append.1 hp with hp | hp
          · exact h.ps p hp
          · simp at hp; subst hp; exact ⟨by omega, t1⟩
        · rcases List.mem_append.1 hp with hp | hp
          · exact h.rs p hp
          · simp at hp; subst hp; exact ⟨by omega, t2⟩
      · exact h
theorem ModOk.addImport {m : Mod} (h : ModOk m) (t : Int) : ModOk (addImport m t).1 := by
  unfold Wl.addImport
  split
  · exact h
  · split
    · exact h
    · rename_i h1 h2
      refine ⟨h.nt, h.rl, by simp; omega, h.nf, h.ps, h.rs, fun x hx => ?_, h.mem, h.fn⟩
      rcases List.mem_append.1 hx with hx | hx
      · exact h.im x hx
      · simp at hx; subst hx; omega
theorem ModOk.setMem {m : Mod} (h : ModOk m) (lo hi : Int) : ModOk (setMem m lo hi).1 := by
  unfold Wl.setMem
  split
  · exact h
  · exact ⟨h.nt, h.rl, h.ni, h.nf, h.ps, h.rs, h.im, by dsimp only; omega, h.fn⟩
theorem ModOk.addFunc {m : Mod} (h : ModOk m) (t : Int) (ls : List UInt8) (code : List Ins) : ModOk (addFunc m t ls code).1 := by
  unfold Wl.addFunc
  split
  · exact h
  · split
    · exact h
    · split
      · exact h
      · split
        · exact h
        · rename_i h1 h2 h3 h4
          refine ⟨h.nt, h.rl, h.ni, by simp; omega, h.ps, h.rs, h.im, h.mem, fun f hf => ?_⟩
          rcases List.mem_append.1 hf with hf | hf
          · exact h.fn f hf
          · simp at hf; subst hf
            refine ⟨by dsimp only; omega, by dsimp only; omega, by dsimp only; omega, ?_, by dsimp only; omega, by simpa using h4⟩
            cases ht : types ls with
            | true => rfl
            | false => exact absurd (.inr (.inr ht)) h3
theorem nest_four {c : Ins} {rest : List Ins} {o : List Int} (h : nest (c :: rest) o = 0) (h4 : c.op = 4) : o.getLast? = some 3 := by
  have hw := nest_well h
  simp only [nest, hw, if_true] at h
  rw [if_neg (by omega), if_pos h4] at h
  split at h
  · assumption
  · omega
end Go.Wl
