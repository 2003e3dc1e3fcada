/- Plain: threads at rest. -/
import Derived.Test.Qxb6500573aGreatDoorCN
import Derived.Test.Qxb6500573aGreatDoorCK2
import Derived.Test.Qxb6500573aGreatDoorJE
namespace Go.Wl
open Go Go.Sl Go.Proofs
set_option linter.unusedVariables false
section
variable {g : Pg} {PT : Nat → Nat → Ty} {clos : List Cl} {stack : List V}
/-- One frame of a chain. -/
structure FrQ (g : Pg) (clos : List Cl) (fs : List Fr) (e : Nat) (j : Nat) (f : Fr) (cl : Cl) (p : Pr) (B : Nat) : Prop where
  c : getI clos f.clo = some cl
  pp : getI g.protos cl.p = some p
  b : f.base = (B : Nat)
  r : 0 ≤ f.ret ∧ f.ret ≤ B ∧ (B : Int) ≤ f.ret + 4 ∧ RX g clos (fs.take j) f.ret f.prot B
  pc : 0 ≤ f.pc ∧ f.pc < p.ncode
  np : 0 ≤ p.nslots ∧ p.nslots ≤ 12
  nx : ∃ k : Nat, k + 2 ≤ 128 ∧ (∀ g', fs[j + 1]? = some g' → g'.ret = B + p.nslots + k) ∧ (fs.length = j + 1 → (e : Int) = B + p.nslots + k)
  le : (B : Int) + p.nslots ≤ e
theorem Chain.frq (hok : PgOk g PT) {fs : List Fr} {e : Nat} (h : Chain g PT clos stack fs e) : ∀ {j : Nat} {f : Fr}, fs[j]? = some f → ∃ cl p B, FrQ g clos fs e j f cl p B := by
  induction h with
  | nil => intro j f hj; cases hj
  | @snoc fs f e cl p B pc st h hc hp hb hr hpc hst he hz ho hel ih =>
    have hpr := hok.pr cl.p.toNat p (by
      obtain ⟨_, _, _, hi, hx⟩ := getI_some hp
      exact List.getElem?_eq_some_iff.2 ⟨hi, hx⟩)
    have h1 := (hpr.st pc hpc.2).1
    have h2 := hpr.np
    rw [hst] at h1
    simp only [List.length_append, List.length_cons, List.length_nil] at h1
    intro j f' hj
    by_cases hjl : j < fs.length
    · rw [List.getElem?_append_left hjl] at hj
      obtain ⟨cl', p', B', q⟩ := ih hj
      obtain ⟨k, k1, k2, k3⟩ := q.nx
      refine ⟨cl', p', B', q.c, q.pp, q.b, ?_, q.pc, q.np, ⟨k, k1, fun g' hg => ?_, fun hl => ?_⟩, ?_⟩
      · rw [List.take_append_of_le_length (by omega)]; exact q.r
      · by_cases hl : j + 1 < fs.length
        · rw [List.getElem?_append_left hl] at hg; exact k2 g' hg
        · have hje : fs.length = j + 1 := by omega
          rw [List.getElem?_append_right (by omega), show j + 1 - fs.length = 0 from by omega] at hg
          injection hg with hg
          subst hg
          have := k3 hje
          omega
      · simp at hl; omega
      · have := q.le
        omega
    · have hl2 := (List.getElem?_eq_some_iff.1 hj).1
      rw [List.length_append, List.length_singleton] at hl2
      have hje : j = fs.length := by omega
      subst hje
      rw [List.getElem?_append_right (Nat.le_refl _), Nat.sub_self] at hj
      injection hj with hj
      subst hj
      refine ⟨cl, p, B, hc, hp, hb, ?_, by omega, by omega, ⟨st.length, by omega, fun g' hg => ?_, fun _ => by omega⟩, by omega⟩
      · rw [List.take_left' rfl]; exact hr
      · rw [List.getElem?_eq_none (by simp)] at hg; cases hg
/-- Frames lie one above the other. -/
theorem Chain.mono (hok : PgOk g PT) {fs : List Fr} {e : Nat} (h : Chain g PT clos stack fs e) : ∀ (d i : Nat) (f f' : Fr) (cl : Cl) (p : Pr) (B : Nat), fs[i]? = some f → fs[i + d + 1]? = some f' → FrQ g clos fs e i f cl p B → (B : Int) + p.nslots ≤ f'.base
  | 0, i, f, f', cl, p, B, hf, hf', q => by
    obtain ⟨cl', p', B', q'⟩ := h.frq hok hf'
    obtain ⟨k, k1, k2, k3⟩ := q.nx
    have := k2 f' hf'
    have := q'.r
    have := q'.b
    omega
  | d + 1, i, f, f', cl, p, B, hf, hf', q => by
    have hl := (List.getElem?_eq_some_iff.1 hf').1
    obtain ⟨f1, hf1⟩ : ∃ f1, fs[i + d + 1]? = some f1 := ⟨_, List.getElem?_eq_getElem (by omega)⟩
    have h1 := Chain.mono hok h d i f f1 cl p B hf hf1 q
    obtain ⟨cl1, p1, B1, q1⟩ := h.frq hok hf1
    have h2 := Chain.mono hok h 0 (i + d + 1) f1 f' cl1 p1 B1 hf1 hf' q1
    have := q1.b
    have := q1.np
    omega
end
/-- Where a rising row passes b. -/
theorem rise_cut (a : Nat → Int) (b : Int) : ∀ n : Nat, (∀ k, k + 1 < n → a k < a (k + 1)) → ∃ c, c ≤ n ∧ ∀ k, k < n → (k < c ↔ a k < b)
  | 0, _ => ⟨0, Nat.le_refl _, fun k hk => by omega⟩
  | n + 1, h => by
    obtain ⟨c, h1, h2⟩ := rise_cut a b n fun k hk => h k (by omega)
    by_cases hb : a n < b
    · refine ⟨n + 1, Nat.le_refl _, fun k hk => ⟨fun _ => ?_, fun _ => hk⟩⟩
      by_cases hk2 : k < n
      · have hmono : ∀ d, k + d ≤ n → a k ≤ a (k + d) := fun d => by
          induction d with
          | zero => intro _; exact Int.le_refl _
          | succ d ih =>
            intro hd
            have := ih (by omega)
            have := h (k + d) (by omega)
            have e : k + d + 1 = k + (d + 1) := by omega
            rw [e] at this
            omega
        have := hmono (n - k) (by omega)
        rw [show k + (n - k) = n from by omega] at this
        omega
      · have : k = n := by omega
        subst this
        exact hb
    · refine ⟨c, by omega, fun k hk => ?_⟩
      by_cases hk2 : k < n
      · exact h2 k hk2
      · have : k = n := by omega
        subst this
        exact ⟨fun q => by omega, fun q => absurd q hb⟩
/-- A cell's place. -/
def atC (cells : List Ce) (opn : List Int) (k : Nat) : Int := match opn[k]? with
  | some x => (match getI cells x with
    | some e => e.at_
    | none => 0)
  | none => 0
theorem atC_eq {cells : List Ce} {opn : List Int} {k : Nat} {x : Int} {e : Ce} (h1 : opn[k]? = some x) (h2 : getI cells x = some e) : atC cells opn k = e.at_ := by
  unfold atC
  rw [h1]
  dsimp only
  rw [h2]
theorem opn_rise {cells : List Ce} {u : Nat} {opn : List Int} {Z : Int → Prop} (h : OpnOk cells u opn Z) : ∀ k, k + 1 < opn.length → atC cells opn k < atC cells opn (k + 1) := fun k hk => by
  have h1 : opn[k]? = some (opn[k]'(by omega)) := List.getElem?_eq_getElem (by omega)
  have h2 : opn[k + 1]? = some opn[k + 1] := List.getElem?_eq_getElem hk
  obtain ⟨e1, q1, _⟩ := h.at_ _ (List.getElem_mem (by omega : k < opn.length))
  obtain ⟨e2, q2, _⟩ := h.at_ _ (List.getElem_mem hk)
  rw [atC_eq h1 q1, atC_eq h2 q2]
  exact List.pairwise_iff_getElem.1 h.up k (k + 1) (by omega) hk (by omega) e1 e2 q1 q2
section
variable {g : Pg} {PT : Nat → Nat → Ty} {m : VM}
theorem thc (hM : MI g PT m) (hce : m.vs.cells.length ≤ 6120) {i : Nat} {t : Th} (hi : m.vs.threads[i]? = some t) (h : ThW g PT m i t) (h0 : i = 0 → t.st = 5) : ThC m i t := by
  have hok := hM.ok
  have hpg := hM.pg
  have hfn := hM.fn i t hi
  have hcn := hM.cn
  have hpn := hok.n
  have hst5 : (t.st = 1 ∨ t.st = 5) ∨ (t.st = 2 ∨ t.st = 3) := by
    rcases h with ⟨q, _⟩ | ⟨q, _⟩ | ⟨q, _⟩ <;> omega
  have hlen : t.stack.length ≤ 1200 ∧ t.opn.length ≤ 6120 := by
    rcases h with ⟨_, q1, _, q2, _⟩ | ⟨_, q1, q2, q3, _⟩ | ⟨_, q1, _, q2⟩
    · rw [q1, q2]; simp
    · have := q2.bound hok
      have := q3.len
      omega
    · rw [q1, q2]; simp
  refine ⟨⟨hcn, by omega, by omega, by omega, by rw [hpg]; omega⟩, hfn, by omega, fun q1 q2 => by have := h0 q1; omega, fun q => ?_, fun q1 q2 => ?_⟩
  · rcases h with ⟨_, q1, q2, q3, _⟩ | ⟨q1, _⟩ | ⟨_, q1, q2, q3⟩
    · rw [q1, q2, q3]; simp
    · omega
    · rw [q1, q2, q3]; simp
  · rcases h with ⟨w, _⟩ | ⟨w1, w2, w3, w4, w5⟩ | ⟨w, _⟩
    · exact absurd w q1
    · refine ⟨w1, fun ⟨e1, e2⟩ => by have := h0 e1; omega, w2, ?_⟩
      -- the frames' bases
      obtain ⟨bs, hbs⟩ : ∃ bs : Nat → Int, bs = fun j => (match t.frames[j]? with | some f => f.base | none => (t.stack.length : Int)) := ⟨_, rfl⟩
      have bs1 : ∀ j f, t.frames[j]? = some f → bs j = f.base := fun j f hf => by rw [hbs]; dsimp only; rw [hf]
      have bs2 : ∀ j, t.frames.length ≤ j → bs j = t.stack.length := fun j hj => by rw [hbs]; dsimp only; rw [List.getElem?_eq_none hj]
      obtain ⟨oN, hoN⟩ := Classical.axiomOfChoice fun j => rise_cut (atC m.vs.cells t.opn) (bs j) t.opn.length (opn_rise w4)
      have hz : ∀ k, k < t.opn.length → ZeroAt g PT m.vs.clos t.frames (atC m.vs.cells t.opn k) ∧ 0 ≤ atC m.vs.cells t.opn k ∧ atC m.vs.cells t.opn k < t.stack.length := fun k hk => by
        obtain ⟨e, r1, r2, r3⟩ := w4.at_ _ (List.getElem_mem hk)
        rw [atC_eq (List.getElem?_eq_getElem hk) r1]
        have := w3.zero_lt hok r3
        exact ⟨r3, this.1, this.2⟩
      have hstep : ∀ j f cl p B, t.frames[j]? = some f → FrQ g m.vs.clos t.frames t.stack.length j f cl p B → (B : Int) + p.nslots ≤ bs (j + 1) := fun j f cl p B hf q => by
        by_cases hj : j + 1 < t.frames.length
        · have hf' : t.frames[j + 1]? = some t.frames[j + 1] := List.getElem?_eq_getElem hj
          rw [bs1 _ _ hf']
          exact Chain.mono hok w3 0 j f _ cl p B hf hf' q
        · rw [bs2 _ (by omega)]
          exact q.le
      refine ⟨oN, atC m.vs.cells t.opn, ?_, ?_, fun k x hx => ?_, opn_rise w4, fun j f hf => ?_⟩
      · obtain ⟨c1, c2⟩ := hoN 0
        refine Decidable.byContradiction fun q => ?_
        have hb0 : bs 0 = 0 := by
          have hf : t.frames[0]? = some (t.frames[0]'(by omega)) := List.getElem?_eq_getElem (by omega)
          rw [bs1 0 _ hf]
          obtain ⟨cl, p, B, q⟩ := w3.frq hok hf
          have := (q.r.2.2.2.1 (by simp)).1
          have := q.b
          omega
        have := (c2 0 (by omega)).1 (by omega)
        have := (hz 0 (by omega)).2.1
        omega
      · obtain ⟨c1, c2⟩ := hoN t.frames.length
        refine Decidable.byContradiction fun q => ?_
        have h1 := (hz (oN t.frames.length) (by omega)).2.2
        have h2 := (c2 (oN t.frames.length) (by omega)).2 (by rw [bs2 _ (Nat.le_refl _)]; exact h1)
        omega
      · obtain ⟨e, r1, r2, r3⟩ := w4.at_ x (List.mem_of_getElem? hx)
        exact ⟨e, r1, r2, (atC_eq hx r1).symm⟩
      · obtain ⟨cl, p, B, q⟩ := w3.frq hok hf
        have hs1 := hstep j f cl p B hf q
        have hb := q.b
        have hnp := q.np
        have hr := q.r
        have hle := q.le
        obtain ⟨k, k1, k2, k3⟩ := q.nx
        obtain ⟨c1, c2⟩ := hoN j
        obtain ⟨d1, d2⟩ := hoN (j + 1)
        have hbj := bs1 j f hf
        refine ⟨cl, p, q.c, by rw [hpg]; exact q.pp, by omega, by have := q.pc; omega, by omega, fun g' hg' => ?_, fun hl => ?_, fun hj => ?_, ⟨?_, d1⟩, fun k' hk1 hk2 => ?_⟩
        · obtain ⟨cl', p', B', q'⟩ := w3.frq hok hg'
          have e1 := k2 g' hg'
          have e2 := q'.b
          have e3 := q'.r
          have e4 := q'.le
          have e5 := q'.np
          have hjl := (List.getElem?_eq_some_iff.1 hg').1
          have hne : t.frames.take (j + 1) ≠ [] := fun q => by
            have := congrArg List.length q
            rw [List.length_take, List.length_nil] at this
            omega
          have e6 := e3.2.2.2.2.1 hne
          have hlast : (t.frames.take (j + 1)).getLast? = some f := by
            rw [List.getLast?_eq_getElem?, List.length_take, Nat.min_eq_left (by omega), Nat.add_sub_cancel, List.getElem?_take_of_lt (by omega)]
            exact hf
          obtain ⟨cl2, p2, x1, x2, x3⟩ := e3.2.2.2.2.2 f hlast
          rw [q.c] at x1
          injection x1 with x1
          subst x1
          rw [q.pp] at x2
          injection x2 with x2
          subst x2
          refine ⟨by omega, by omega, by omega, by omega, by omega⟩
        · have := k3 hl
          exact ⟨by omega, by omega⟩
        · subst hj
          have := hr.2.2.2.1 (by simp)
          exact ⟨by omega, this.2.1, this.2.2⟩
        · refine Decidable.byContradiction fun q => ?_
          have h1 := (c2 (oN (j + 1)) (by omega)).1 (by omega)
          have h2 := (d2 (oN (j + 1)) (by omega)).2 (by omega)
          omega
        · have h1 : ¬ atC m.vs.cells t.opn k' < bs j := fun q => by
            have := (c2 k' hk2).2 q
            omega
          refine ⟨by omega, fun q => (d2 k' hk2).2 (by omega), fun qq => ?_⟩
          have h2 := (d2 k' hk2).1 qq
          obtain ⟨⟨f2, hf2, cl2, p2, B2, s, y1, y2, y3, y4, y5, y6⟩, _⟩ := hz k' hk2
          obtain ⟨i2, hi2, e2⟩ := List.mem_iff_getElem.1 hf2
          have hf2' : t.frames[i2]? = some f2 := by rw [List.getElem?_eq_getElem hi2, e2]
          obtain ⟨cl3, p3, B3, q3⟩ := w3.frq hok hf2'
          have z1 := q3.c
          rw [y1] at z1
          injection z1 with z1
          subst z1
          have z2 := q3.pp
          rw [y2] at z2
          injection z2 with z2
          subst z2
          have z3 := q3.b
          have hcmp : i2 < j ∨ i2 = j ∨ j < i2 := by omega
          rcases hcmp with c | c | c
          · exfalso
            have := Chain.mono hok w3 (j - i2 - 1) i2 f2 f cl2 p2 B3 hf2' (by rw [show i2 + (j - i2 - 1) + 1 = j from by omega]; exact hf) q3
            omega
          · subst c
            rw [hf] at hf2'
            injection hf2' with hf2'
            subst hf2'
            rw [q.c] at y1
            injection y1 with y1
            subst y1
            rw [q.pp] at y2
            injection y2 with y2
            subst y2
            omega
          · exfalso
            by_cases c2 : i2 = j + 1
            · subst c2
              have := bs1 _ _ hf2'
              omega
            · obtain ⟨f3, hf3⟩ : ∃ f3, t.frames[j + 1]? = some f3 := ⟨_, List.getElem?_eq_getElem (by omega)⟩
              obtain ⟨cl4, p4, B4, q4⟩ := w3.frq hok hf3
              have := Chain.mono hok w3 (i2 - (j + 1) - 1) (j + 1) f3 f2 cl4 p4 B4 hf3 (by rw [show j + 1 + (i2 - (j + 1) - 1) + 1 = i2 from by omega]; exact hf2') q4
              have e5 := bs1 _ _ hf3
              have e6 := q4.b
              have e7 := q4.np
              omega
    · exact absurd w q2
end
end Go.Wl
