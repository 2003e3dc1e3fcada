/- Plain: open cells: closing, capturing, closures, upvalues. -/
import Derived.Test.Qxb6500573aGreatDoorCB
namespace Go.Wl
open Go Go.Sl Go.Proofs
set_option linter.unusedVariables false
theorem getI_lt' {α : Type} {l : List α} {j : Int} {x : α} (h : getI l j = some x) : 0 ≤ j ∧ j < l.length ∧ l[j.toNat]? = some x := by
  obtain ⟨h1, h2, _, h3, h4⟩ := getI_some h
  exact ⟨h1.1, h2, List.getElem?_eq_some_iff.2 ⟨h3, h4⟩⟩
theorem getI_mk {α : Type} {l : List α} {j : Int} {x : α} (h : 0 ≤ j ∧ j < 1000000000) (h2 : l[j.toNat]? = some x) : getI l j = some x := by
  unfold getI
  rw [if_pos h, h2]
theorem getI_congr {α : Type} {l l' : List α} {j : Int} (h : 0 ≤ j → l[j.toNat]? = l'[j.toNat]?) : getI l j = getI l' j := by
  unfold getI
  split
  · rename_i hb; exact h hb.1
  · rfl
/-- closeFrom: what is above goes, each cell with its value. -/
theorem closeL_ok {u : Nat} {at_ : Int} {stack : List V} (hsl : stack.length < 1000000000) : ∀ (n : Nat) (o : List Int) (c : List Ce), o.length = n → (∀ j, j ∈ o → ∃ e, getI c j = some e ∧ e.th = (u : Int) ∧ 0 ≤ e.at_ ∧ e.at_ < stack.length) → (o.Pairwise fun i j => ∀ a b, getI c i = some a → getI c j = some b → a.at_ < b.at_) →
    ∃ k c', k ≤ n ∧ closeL at_ stack n o c = some (o.take k, c') ∧ c'.length = c.length ∧ (∀ j, j ∈ o.take k → ∃ e, getI c j = some e ∧ getI c' j = some e ∧ e.at_ < at_) ∧ (∀ j : Nat, (j : Int) ∉ o.drop k → c'[j]? = c[j]?) ∧ ∀ j : Nat, (j : Int) ∈ o.drop k → ∃ v, v ∈ stack ∧ c'[j]? = some ⟨-1, 0, v⟩
  | 0, o, c, hn, ha, hp => ⟨0, c, Nat.le_refl _, by unfold closeL; rw [List.length_eq_zero_iff.1 hn]; rfl, rfl, fun j hj => (by rw [List.take_zero] at hj; cases hj), fun j _ => rfl, fun j hj => by rw [List.length_eq_zero_iff.1 hn] at hj; simp at hj⟩
  | n + 1, o, c, hn, ha, hp => by
    obtain ⟨o1, j, rfl⟩ : ∃ o1 j, o = o1 ++ [j] := ⟨o.dropLast, o.getLast (fun h => by rw [h] at hn; cases hn), (List.dropLast_concat_getLast _).symm⟩
    have hn1 : o1.length = n := by simpa using hn
    obtain ⟨e, he, hth, h0, h1⟩ := ha j (by simp)
    obtain ⟨j0, jl, je⟩ := getI_lt' he
    rw [List.pairwise_append] at hp
    obtain ⟨hp1, _, hp2⟩ := hp
    have hlt : ∀ i a, i ∈ o1 → getI c i = some a → a.at_ < e.at_ := fun i a hi hia => hp2 i hi j (by simp) a e hia he
    have hne : ∀ i, i ∈ o1 → i ≠ j := fun i hi q => by
      subst q
      have := hlt _ e hi he
      omega
    unfold closeL
    rw [List.getElem?_append_right (by omega), hn1, Nat.sub_self]
    show ∃ k c', k ≤ n + 1 ∧ bind1 (some j) _ = _ ∧ _
    rw [bind1_some, he, bind1_some]
    by_cases hat : e.at_ < at_
    · rw [if_pos hat]
      refine ⟨n + 1, c, Nat.le_refl _, by rw [List.take_of_length_le (by omega)], rfl, fun i hi => ?_, fun j _ => rfl, fun j hj => ?_⟩
      · rw [List.take_of_length_le (by omega)] at hi
        rcases List.mem_append.1 hi with hi | hi
        · obtain ⟨a, ha1, _⟩ := ha i (by simp [hi])
          have := hlt i a hi ha1
          exact ⟨a, ha1, ha1, by omega⟩
        · rw [List.mem_singleton] at hi
          subst hi
          exact ⟨e, he, he, hat⟩
      · rw [List.drop_eq_nil_of_le (by omega)] at hj; cases hj
    · rw [if_neg hat]
      have hv : getI stack e.at_ = some stack[e.at_.toNat] := getI_mk (by omega) (List.getElem?_eq_getElem (by omega))
      rw [hv, bind1_some, List.take_left' hn1]
      have hsame : ∀ i, i ∈ o1 → getI (c.set j.toNat ⟨-1, 0, stack[e.at_.toNat]⟩) i = getI c i := fun i hi => by
        obtain ⟨a, ha1, _⟩ := ha i (by simp [hi])
        obtain ⟨i0, _, _⟩ := getI_lt' ha1
        have := hne i hi
        exact getI_congr fun _ => by rw [List.getElem?_set_ne (by omega)]
      obtain ⟨k, c', g1, g2, g3, g4, g5, g6⟩ := closeL_ok hsl n o1 (c.set j.toNat ⟨-1, 0, stack[e.at_.toNat]⟩) hn1 (fun i hi => by rw [hsame i hi]; exact ha i (by simp [hi])) (hp1.imp_of_mem fun {a b} ha' hb' hab x y hx hy => by
        rw [hsame a ha'] at hx
        rw [hsame b hb'] at hy
        exact hab x y hx hy)
      have hd : (o1 ++ [j]).drop k = o1.drop k ++ [j] := List.drop_append_of_le_length (by omega)
      refine ⟨k, c', by omega, by rw [g2, List.take_append_of_le_length (by omega)], by rw [g3]; simp, fun i hi => ?_, fun i hi => ?_, fun i hi => ?_⟩
      · rw [List.take_append_of_le_length (by omega)] at hi
        obtain ⟨a, q1, q2, q3⟩ := g4 i hi
        rw [hsame i (List.mem_of_mem_take hi)] at q1
        exact ⟨a, q1, q2, q3⟩
      · rw [hd] at hi
        have h1 : (i : Int) ∉ o1.drop k := fun q => hi (List.mem_append_left _ q)
        have h2 : (i : Int) ≠ j := fun q => hi (by simp [q])
        rw [g5 i h1, List.getElem?_set_ne (by omega)]
      · rw [hd] at hi
        by_cases h1 : (i : Int) ∈ o1.drop k
        · exact g6 i h1
        · rcases List.mem_append.1 hi with q | q
          · exact absurd q h1
          · rw [List.mem_singleton] at q
            refine ⟨stack[e.at_.toNat], List.getElem_mem _, ?_⟩
            rw [g5 i h1, show i = j.toNat from by omega, List.getElem?_set_self (by omega)]
section
variable {c : Cx} {m : VM} {ty : Ty} {k : Nat}
/-- A place that an open cell of the running thread may hold lies in the stack. -/
theorem RunX.zlt (h : RunX c k m ty) {t : Th} (ht : m.vs.threads[c.th]? = some t) {q : Int} (hq : c.Z m.vs.clos ty.z q) : 0 ≤ q ∧ q < t.stack.length := by
  obtain ⟨t', ht', hR⟩ := h.run
  rw [ht] at ht'
  injection ht' with ht'
  subst ht'
  have hsl := hR.sl
  unfold Cx.O at hsl
  rcases hq with ⟨s, h1, h2, h3⟩ | hq
  · omega
  · have h1 := hR.ch.zero_lt h.mi.ok hq
    have h2 := hR.ch.len
    omega
theorem RunX.stkB (h : RunX c k m ty) {t : Th} (ht : m.vs.threads[c.th]? = some t) : t.stack.length ≤ 2300 ∧ t.opn.length ≤ 7000 := by
  obtain ⟨t', ht', hR⟩ := h.run
  rw [ht] at ht'
  injection ht' with ht'
  subst ht'
  have h1 := hR.ch.bound h.mi.ok
  have h2 := hR.fl
  have h3 := hR.rt
  obtain ⟨_, _, _, hi, hx⟩ := getI_some hR.pr
  have h4 := (h.mi.ok.pr _ _ (List.getElem?_eq_some_iff.2 ⟨hi, hx⟩)).np
  have h5 := hR.sl
  have h6 := hR.sz
  unfold Cx.O at h5
  refine ⟨by omega, ?_⟩
  obtain ⟨o1, o2, o3⟩ := hR.op
  -- the cells' places go up
  have : ∀ (l : List Int) (b : Int), (∀ j, j ∈ l → ∃ e, getI m.vs.cells j = some e ∧ b ≤ e.at_ ∧ e.at_ < t.stack.length) → (l.Pairwise fun i j => ∀ a b, getI m.vs.cells i = some a → getI m.vs.cells j = some b → a.at_ < b.at_) → (l.length : Int) + b ≤ t.stack.length ∨ l = [] := by
    intro l
    induction l with
    | nil => intro b _ _; exact .inr rfl
    | cons j l ih =>
      intro b hb hp
      rw [List.pairwise_cons] at hp
      obtain ⟨e, q1, q2, q3⟩ := hb j List.mem_cons_self
      rcases ih (e.at_ + 1) (fun i hi => by
        obtain ⟨a, p1, p2, p3⟩ := hb i (List.mem_cons_of_mem _ hi)
        have := hp.1 i hi e a q1 p1
        exact ⟨a, p1, by omega, p3⟩) hp.2 with r | r
      · left; simp only [List.length_cons]; omega
      · subst r; left; simp; omega
  rcases this t.opn 0 (fun j hj => by
    obtain ⟨e, q1, q2, q3⟩ := o1 j hj
    have := h.zlt ht q3
    exact ⟨e, q1, by omega, by omega⟩) o2 with r | r
  · omega
  · rw [r]; simp
/-- Closing: all that stays below. -/
theorem RunX.closeCore (h : RunX c k m ty) {t : Th} (ht : m.vs.threads[c.th]? = some t) (at_ : Int) :
    ∃ (o' : List Int) (cs : List Ce), closeM c.th at_ m = some (setTh { m with vs := { m.vs with cells := cs } } c.th { t with opn := o' }) ∧ (∀ t', t'.opn = o' → t'.fn = t.fn → MI c.g c.PT (setTh { m with vs := { m.vs with cells := cs } } c.th t') k) ∧
      (∀ (t' : Th) (u : Nat) (t2 : Th), u ≠ c.th → m.vs.threads[u]? = some t2 → ThW c.g c.PT (setTh { m with vs := { m.vs with cells := cs } } c.th t') u t2) ∧ OpnOk cs c.th o' (fun q => c.Z m.vs.clos ty.z q ∧ q < at_) := by
  obtain ⟨t', ht', hR⟩ := h.run
  rw [ht] at ht'
  injection ht' with ht'
  subst ht'
  have hb := h.stkB ht
  obtain ⟨o1, o2, o3⟩ := hR.op
  obtain ⟨k', cs, g1, g2, g3, g4, g5, g6⟩ := closeL_ok (u := c.th) (at_ := at_) (stack := t.stack) (by omega) t.opn.length t.opn m.vs.cells rfl (fun j hj => by
    obtain ⟨e, q1, q2, q3⟩ := o1 j hj
    have := h.zlt ht q3
    exact ⟨e, q1, q2, this.1, this.2⟩) o2
  have hkeep : ∀ (u : Nat) (j : Int) (e : Ce), u ≠ c.th → getI m.vs.cells j = some e → e.th = (u : Int) → getI cs j = some e := fun u j e hu he hth => by
    rw [← he]
    obtain ⟨j0, _, _⟩ := getI_lt' he
    refine getI_congr fun _ => g5 _ fun q => ?_
    rw [Int.toNat_of_nonneg j0] at q
    obtain ⟨e', q1, q2, _⟩ := o1 j (List.mem_of_mem_drop q)
    rw [he] at q1
    injection q1 with q1
    subst q1
    omega
  refine ⟨t.opn.take k', cs, ?_, fun t' hto htf => ?_, fun t' u t2 hu h2 => ?_, ?_⟩
  · unfold closeM getT
    rw [ht, bind1_some, if_pos (by omega), g2, bind2_some]
  · have hl : (setTh { m with vs := { m.vs with cells := cs } } c.th t').vs.threads.length = m.vs.threads.length := setTh_len
    refine ⟨h.mi.ok, h.mi.pg, by rw [hl]; exact h.mi.tb, h.mi.tn, h.mi.cn, h.mi.cl, ?_, ?_, fun j e he => ?_, by rw [hl]; exact h.mi.hn, h.mi.fu, h.mi.ou, h.mi.en, fun j e he => ?_, h.mi.ct, fun u t2 h2 => ?_⟩
    · show ∀ u, u ∈ m.vs.upix → 0 ≤ u ∧ u < cs.length
      rw [g3]; exact h.mi.ux
    · show _ ∧ cs.length ≤ _
      rw [g3]; exact h.mi.ul
    · have hvv : ∀ v, VVm m v → VVm (setTh { m with vs := { m.vs with cells := cs } } c.th t') v := fun v hv => by
        unfold VVm; rw [hl]; exact hv
      have he' : cs[j]? = some e := he
      by_cases hj : (j : Int) ∈ t.opn.drop k'
      · obtain ⟨v, q1, q2⟩ := g6 j hj
        rw [he'] at q2
        injection q2 with q2
        subst q2
        exact ⟨fun q => by dsimp only at q; omega, fun _ => hvv _ (hR.vv v q1)⟩
      · rw [g5 j hj] at he'
        obtain ⟨q1, q2⟩ := h.mi.ce j e he'
        refine ⟨fun h0 => ?_, fun h0 => hvv _ (q2 h0)⟩
        obtain ⟨t1, p1, p2⟩ := q1 h0
        by_cases hq : e.th.toNat = c.th
        · rw [hq] at p1 ⊢
          rw [ht] at p1
          injection p1 with p1
          subst p1
          have ht0 : ({ m with vs := { m.vs with cells := cs } } : VM).vs.threads[c.th]? = some t := ht
          refine ⟨t', setTh_at ht0, ?_⟩
          rw [hto]
          rw [← List.take_append_drop k' t.opn] at p2
          exact (List.mem_append.1 p2).resolve_right hj
        · exact ⟨t1, by rw [setTh_ne hq]; exact p1, p2⟩
    · have he' : cs[j]? = some e := he
      by_cases hj : (j : Int) ∈ t.opn.drop k'
      · obtain ⟨v, q1, q2⟩ := g6 j hj
        rw [he'] at q2
        injection q2 with q2
        subst q2
        exact ⟨fun q => by dsimp only at q; omega, fun _ => ⟨rfl, rfl⟩⟩
      · rw [g5 j hj] at he'
        exact h.mi.cx j e he'
    · by_cases hu : u = c.th
      · subst hu
        have ht0 : ({ m with vs := { m.vs with cells := cs } } : VM).vs.threads[c.th]? = some t := ht
        rw [setTh_at ht0] at h2
        injection h2 with h2
        subst h2
        rw [htf]
        exact h.mi.fn _ _ ht
      · rw [setTh_ne hu] at h2
        exact h.mi.fn _ _ h2
  · refine (h.oth u t2 hu h2).mono h.mi.ok (Nat.le_refl _) (Nat.le_refl _) (by rw [setTh_len]; exact Nat.le_refl _) (fun _ _ h => h) (fun j e hj he => ?_) (by show _ ≤ cs.length; rw [g3]; exact Nat.le_refl _)
    rcases h.oth u t2 hu h2 with ⟨_, _, _, q, _⟩ | ⟨_, _, _, q, _⟩ | ⟨_, _, _, q⟩
    · rw [q] at hj; cases hj
    · obtain ⟨e', q1, q2, _⟩ := q.at_ j hj
      rw [he] at q1
      injection q1 with q1
      subst q1
      exact hkeep u j e hu he q2
    · rw [q] at hj; cases hj
  · refine ⟨fun j hj => ?_, ?_, by rw [List.length_take, g3]; omega⟩
    · obtain ⟨e, q1, q2, q3⟩ := g4 j hj
      obtain ⟨e', p1, p2, p3⟩ := o1 j (List.mem_of_mem_take hj)
      rw [q1] at p1
      injection p1 with p1
      subst p1
      exact ⟨e, q2, p2, p3, q3⟩
    · refine (o2.sublist (List.take_sublist _ _)).imp_of_mem fun {i j} hi hj hij a b ha hb' => ?_
      obtain ⟨e1, q1, q2, _⟩ := g4 i hi
      obtain ⟨e2, p1, p2, _⟩ := g4 j hj
      rw [q2] at ha
      rw [p2] at hb'
      injection ha with ha
      injection hb' with hb'
      subst ha hb'
      exact hij _ _ q1 p1
theorem RunT.close (h : RunT c m ty) {x : Int} (hx : 0 ≤ x ∧ x ≤ c.p.nslots) : ∃ m', closeM c.th (c.f.base + x) m = some m' ∧ RunT c m' ⟨ty.st, ty.z.take x.toNat⟩ ∧ m'.vs.fuel = m.vs.fuel ∧ m'.vs.out = m.vs.out := by
  obtain ⟨t, ht, hR⟩ := h.run
  obtain ⟨o', cs, g1, g2, g3, g4⟩ := RunX.closeCore h ht (c.f.base + x)
  have ht0 : ({ m with vs := { m.vs with cells := cs } } : VM).vs.threads[c.th]? = some t := ht
  have hE : ∀ v, VVm m v → VVm (setTh { m with vs := { m.vs with cells := cs } } c.th { t with opn := o' }) v := fun v hv => by
    unfold VVm; rw [setTh_len]; exact hv
  refine ⟨_, g1, ⟨g2 _ rfl rfl, ⟨_, setTh_at ht0, ?_⟩, fun u t2 hu h2 => ?_⟩, rfl, rfl⟩
  · have hzl := hR.zl
    refine ⟨hR.st, hR.fr, hR.fl, hR.sl, hR.ch, hR.cl, hR.pr, hR.b, hR.rt, hR.sz, by dsimp only; rw [List.length_take]; omega, fun s hs => ?_, hR.no, ?_, fun v hv => hE v (hR.vv v hv)⟩
    · refine hR.ns s ?_
      have := (List.getElem?_eq_some_iff.1 hs).1
      rw [List.length_take] at this
      rw [List.getElem?_take_of_lt (by omega)] at hs
      exact hs
    · refine g4.mono (fun _ _ _ h => h) (Nat.le_refl _) fun q hq => ?_
      obtain ⟨hq, hlt⟩ := hq
      rcases hq with ⟨s, q1, q2, q3⟩ | hq
      · refine .inl ⟨s, ?_, q2, q3⟩
        have hb := hR.b
        rw [List.getElem?_take_of_lt (by omega)]; exact q1
      · exact .inr hq
  · rw [setTh_ne hu] at h2
    exact g3 _ u t2 hu h2
end
end Go.Wl
