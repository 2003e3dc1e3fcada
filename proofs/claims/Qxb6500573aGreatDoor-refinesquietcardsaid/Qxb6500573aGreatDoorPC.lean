/- Plain: the parser answers: expressions. -/
import Derived.Test.Qxb6500573aGreatDoorPB
set_option linter.unusedSimpArgs false
set_option linter.unusedVariables false
set_option linter.unusedSectionVars false
namespace Go.Wl
open Go Go.Sl Go.Proofs
set_option linter.unusedVariables false
section
variable (toks : List Tok) (N : Nat)
/-- The parser amid its work. -/
structure Gd (s : PS) : Prop where
  cur : toks[s.i]? = some s.cur
  fu : 0 ≤ s.funcs ∧ s.funcs ≤ 12
  al : 0 ≤ s.alive ∧ s.alive ≤ 12
  lp : 0 ≤ s.loops ∧ s.loops ≤ 1000
  err : s.err = 0
def rst (s : PS) : Nat := toks.length - s.i
/-- The parser has failed. -/
def Bad (s : PS) : Prop := (s.err = 2 ∨ (13 ≤ s.err ∧ s.err ≤ 20)) ∧ (0 ≤ s.at_ ∧ s.at_ ≤ N)
/-- On by a token or more; all else as it was. -/
structure Ad (s s' : PS) : Prop where
  gd : Gd toks s'
  rs : rst toks s' < rst toks s
  fu : s'.funcs = s.funcs
  al : s'.alive = s.alive
  lp : s'.loops = s.loops
/-- An expression has been read. -/
structure Ax (q : Nat) (s : PS) (x : T) (s' : PS) : Prop where
  gd : Gd toks s'
  rs : rst toks s' + x.sz < rst toks s
  al : s'.alive = s.alive
  lp : s'.loops = s.loops
  we : WE q x s.funcs.toNat s'.funcs.toNat
def RN (x : Option (T × PS)) (P : T → PS → Prop) : Prop := ∃ t s', x = some (t, s') ∧ ((t.isNil = true ∧ Bad N s') ∨ (t.isNil = false ∧ P t s'))
def RL {α : Type} (x : Option (Option α × PS)) (P : α → PS → Prop) : Prop := ∃ o s', x = some (o, s') ∧ ((o = none ∧ Bad N s') ∨ ∃ l, o = some l ∧ P l s')
def RB (x : Option (Bool × PS)) (P : PS → Prop) : Prop := ∃ b s', x = some (b, s') ∧ ((b = false ∧ Bad N s') ∨ (b = true ∧ P s'))
end
section
variable {toks : List Tok} {N : Nat}
theorem Gd.pos {s : PS} (h : Gd toks s) : 1 ≤ rst toks s := by
  have := (List.getElem?_eq_some_iff.1 h.cur).1
  unfold rst; omega
theorem Ad.trans {a b c : PS} (h1 : Ad toks a b) (h2 : Ad toks b c) : Ad toks a c := ⟨h2.gd, Nat.lt_trans h2.rs h1.rs, h2.fu.trans h1.fu, h2.al.trans h1.al, h2.lp.trans h1.lp⟩
theorem Ax.pre {q : Nat} {a b c : PS} {x : T} (h1 : Ad toks a b) (h2 : Ax toks q b x c) : Ax toks q a x c := ⟨h2.gd, by have := h1.rs; have := h2.rs; omega, h2.al.trans h1.al, h2.lp.trans h1.lp, by rw [← h1.fu]; exact h2.we⟩
theorem Ax.post {q : Nat} {a b c : PS} {x : T} (h1 : Ax toks q a x b) (h2 : Ad toks b c) : Ax toks q a x c := ⟨h2.gd, by have := h1.rs; have := h2.rs; omega, h2.al.trans h1.al, h2.lp.trans h1.lp, by rw [h2.fu]; exact h1.we⟩
variable (hT : ToksOk N toks)
include hT
theorem Gd.kind {s : PS} (h : Gd toks s) : (2 ≤ s.cur.kind → s.i + 1 < toks.length ∧ TokOk N s.cur) ∧ (s.cur.kind < 2 → TokEnd N s.cur) ∧ (0 ≤ s.cur.at_ ∧ s.cur.at_ ≤ N) := by
  have hl := (List.getElem?_eq_some_iff.1 h.cur).1
  by_cases hi : s.i + 1 < toks.length
  · have := hT.ok _ _ h.cur hi
    exact ⟨fun _ => ⟨hi, this⟩, fun q => by have := this.kd; omega, this.at_⟩
  · have := hT.last _ _ h.cur (by omega)
    refine ⟨fun q => ?_, fun _ => this, this.at_⟩
    rcases this.kd with k | ⟨k, _⟩ <;> omega
theorem next_ok {s : PS} (h : Gd toks s) (hk : 2 ≤ s.cur.kind) : ∃ s', nextP toks s = some s' ∧ Ad toks s s' := by
  have hi := ((h.kind hT).1 hk).1
  refine ⟨{ s with i := s.i + 1, cur := toks[s.i + 1] }, ?_, ⟨List.getElem?_eq_getElem hi, h.fu, h.al, h.lp, h.err⟩, by unfold rst; dsimp only; omega, rfl, rfl, rfl⟩
  unfold nextP
  rw [List.getElem?_eq_getElem hi]
theorem fail_ok {s : PS} (h : Gd toks s) {e : Int} (he : 13 ≤ e ∧ e ≤ 20) : Bad N (failP e s) := by
  obtain ⟨_, k2, k3⟩ := h.kind hT
  unfold failP Bad
  dsimp only
  refine ⟨?_, k3⟩
  split
  · rename_i hk
    rcases (k2 (by omega)).kd with q | ⟨_, q⟩ <;> omega
  · exact .inr he
theorem accept_ok {s : PS} (h : Gd toks s) {k : Int} (hk : 2 ≤ k) : (s.cur.kind ≠ k ∧ acceptP toks k s = some (false, s)) ∨ (s.cur.kind = k ∧ ∃ s', acceptP toks k s = some (true, s') ∧ Ad toks s s') := by
  unfold acceptP
  by_cases q : s.cur.kind ≠ k
  · rw [if_pos q]; exact .inl ⟨q, rfl⟩
  · rw [if_neg q]
    have q' : s.cur.kind = k := Decidable.not_not.1 q
    obtain ⟨s', h1, h2⟩ := next_ok hT h (by omega)
    rw [h1]
    exact .inr ⟨q', s', rfl, h2⟩
theorem expect_ok {s : PS} (h : Gd toks s) {k : Int} (hk : 2 ≤ k) : RB N (expectP toks k s) (Ad toks s) := by
  unfold expectP
  by_cases q : s.cur.kind ≠ k
  · rw [if_pos q]; exact ⟨_, _, rfl, .inl ⟨rfl, fail_ok hT h (by decide)⟩⟩
  · rw [if_neg q]
    obtain ⟨s', h1, h2⟩ := next_ok hT h (by omega)
    rw [h1]
    exact ⟨_, _, rfl, .inr ⟨rfl, h2⟩⟩
theorem name_ok {s : PS} (h : Gd toks s) (extra : Int) : RL N (nameP toks extra s) (fun nm s' => Ad toks s s' ∧ nameOk nm.2 ∧ (0 < extra → s.alive + extra ≤ 12)) := by
  unfold nameP
  by_cases q : s.cur.kind ≠ 2
  · rw [if_pos q]; exact ⟨_, _, rfl, .inl ⟨rfl, fail_ok hT h (by decide)⟩⟩
  · rw [if_neg q]
    have q' : s.cur.kind = 2 := Decidable.not_not.1 q
    have hal := h.al
    unfold guardB
    rw [if_pos (show Bd s.alive from ⟨by omega, by omega⟩)]
    by_cases q2 : 0 < extra ∧ 12 < s.alive + extra
    · rw [if_pos q2]; exact ⟨_, _, rfl, .inl ⟨rfl, fail_ok hT h (by decide)⟩⟩
    · rw [if_neg q2]
      obtain ⟨s', h1, h2⟩ := next_ok hT h (by omega)
      have hn := ((h.kind hT).1 (by omega)).2.name q'
      rw [h1]
      exact ⟨_, _, rfl, .inr ⟨_, rfl, h2, hn, fun q3 => by omega⟩⟩
theorem function_ok {s : PS} (h : Gd toks s) (hk : 2 ≤ s.cur.kind) : RB N (functionP toks s) (fun s' => Ad toks s s' ∧ s.funcs < 12) := by
  unfold functionP
  by_cases q : 12 ≤ s.funcs
  · rw [if_pos q]; exact ⟨_, _, rfl, .inl ⟨rfl, fail_ok hT h (by decide)⟩⟩
  · rw [if_neg q]
    obtain ⟨s', h1, h2⟩ := next_ok hT h hk
    rw [h1]
    exact ⟨_, _, rfl, .inr ⟨rfl, h2, by omega⟩⟩
end
/-- What the parser's own calls do. -/
structure RcOk (toks : List Tok) (N n : Nat) (rc : Rec) : Prop where
  block : ∀ (room : Int) (s : PS), Gd toks s → (-5 ≤ room ∧ room ≤ 12) → s.loops + room ≤ 20 → 3 * rst toks s + 5 ≤ n → RL N (rc.block room s) (fun l s' => Gd toks s' ∧ rst toks s' + szL l ≤ rst toks s ∧ s'.alive = s.alive ∧ s'.loops = s.loops ∧ ∃ al, WB s.alive.toNat (decide (0 < s.loops)) l s.funcs.toNat s'.funcs.toNat al)
  expr : ∀ (room least : Int) (s : PS), Gd toks s → (-5 ≤ room ∧ room ≤ 12) → (1 ≤ least ∧ least ≤ 7) → 3 * rst toks s + 2 ≤ n → RN N (rc.expr room least s) (fun x s' => Ax toks (9 * room + 9 - least).toNat s x s' ∧ 0 < room)
  unary : ∀ (room : Int) (s : PS), Gd toks s → (-5 ≤ room ∧ room ≤ 12) → 3 * rst toks s + 1 ≤ n → RN N (rc.unary room s) (fun x s' => Ax toks (9 * room + 2).toNat s x s' ∧ 0 < room)
  branch : ∀ (room : Int) (s : PS), Gd toks s → 2 ≤ s.cur.kind → (-4 ≤ room ∧ room ≤ 12) → s.loops + room ≤ 20 → 3 * rst toks s + 3 ≤ n → RN N (rc.branch room s) (fun x s' => Gd toks s' ∧ rst toks s' + x.sz < rst toks s ∧ s'.alive = s.alive ∧ s'.loops = s.loops ∧ WS s.alive.toNat (decide (0 < s.loops)) x s.funcs.toNat s'.funcs.toNat s.alive.toNat)
section
variable {toks : List Tok} {N n : Nat} {rc : Rec}
theorem RN.of {x : Option (T × PS)} {P Q : T → PS → Prop} (h : RN N x P) (hq : ∀ t s, P t s → Q t s) : RN N x Q := by
  obtain ⟨t, s, h1, h2⟩ := h
  exact ⟨t, s, h1, h2.imp id fun q => ⟨q.1, hq t s q.2⟩⟩
theorem RN.bad {s : PS} {P : T → PS → Prop} (h : Bad N s) : RN N (some (.nil, s)) P := ⟨_, _, rfl, .inl ⟨rfl, h⟩⟩
theorem RN.ok {t : T} {s : PS} {P : T → PS → Prop} (ht : t.isNil = false) (h : P t s) : RN N (some (t, s)) P := ⟨_, _, rfl, .inr ⟨ht, h⟩⟩
theorem RN.bind {x : Option (T × PS)} {P Q : T → PS → Prop} {k : T → PS → Option (T × PS)} (h : RN N x P) (hk : ∀ t s, P t s → t.isNil = false → RN N (k t s) Q) : RN N (bind2 x fun t s => if t.isNil = true then some (.nil, s) else k t s) Q := by
  obtain ⟨t, s, rfl, h2⟩ := h
  show RN N (if t.isNil = true then some (.nil, s) else k t s) Q
  rcases h2 with ⟨q, hb⟩ | ⟨q, hp⟩
  · rw [if_pos q]; exact RN.bad hb
  · rw [if_neg (by rw [q]; decide)]; exact hk t s hp q
theorem RN.bindB {x : Option (Bool × PS)} {P : PS → Prop} {Q : T → PS → Prop} {k : PS → Option (T × PS)} (h : RB N x P) (hk : ∀ s, P s → RN N (k s) Q) : RN N (bind2 x fun b s => bif b then k s else some (.nil, s)) Q := by
  obtain ⟨b, s, rfl, h2⟩ := h
  rcases h2 with ⟨rfl, hb⟩ | ⟨rfl, hp⟩
  · exact RN.bad hb
  · exact hk s hp
theorem RN.bindL {α : Type} {x : Option (Option α × PS)} {P : α → PS → Prop} {Q : T → PS → Prop} {k : Option α → PS → Option (T × PS)} (h : RL N x P) (h0 : ∀ s, k none s = some (.nil, s)) (hk : ∀ l s, P l s → RN N (k (some l) s) Q) : RN N (bind2 x k) Q := by
  obtain ⟨o, s, rfl, h2⟩ := h
  show RN N (k o s) Q
  rcases h2 with ⟨rfl, hb⟩ | ⟨l, rfl, hp⟩
  · rw [h0]; exact RN.bad hb
  · exact hk l s hp
theorem RL.bad {α : Type} {s : PS} {P : α → PS → Prop} (h : Bad N s) : RL N (some (none, s)) P := ⟨_, _, rfl, .inl ⟨rfl, h⟩⟩
theorem RL.ok {α : Type} {l : α} {s : PS} {P : α → PS → Prop} (h : P l s) : RL N (some (some l, s)) P := ⟨_, _, rfl, .inr ⟨l, rfl, h⟩⟩
theorem RL.bindB {α : Type} {x : Option (Bool × PS)} {P : PS → Prop} {Q : α → PS → Prop} {k : PS → Option (Option α × PS)} (h : RB N x P) (hk : ∀ s, P s → RL N (k s) Q) : RL N (bind2 x fun b s => bif b then k s else some (none, s)) Q := by
  obtain ⟨b, s, rfl, h2⟩ := h
  rcases h2 with ⟨rfl, hb⟩ | ⟨rfl, hp⟩
  · exact RL.bad hb
  · exact hk s hp
theorem RL.bindN {α : Type} {x : Option (T × PS)} {P : T → PS → Prop} {Q : α → PS → Prop} {k : T → PS → Option (Option α × PS)} (h : RN N x P) (hk : ∀ t s, P t s → t.isNil = false → RL N (k t s) Q) : RL N (bind2 x fun t s => if t.isNil = true then some (none, s) else k t s) Q := by
  obtain ⟨t, s, rfl, h2⟩ := h
  show RL N (if t.isNil = true then some (none, s) else k t s) Q
  rcases h2 with ⟨q, hb⟩ | ⟨q, hp⟩
  · rw [if_pos q]; exact RL.bad hb
  · rw [if_neg (by rw [q]; decide)]; exact hk t s hp q
theorem RL.bindL {α β : Type} {x : Option (Option β × PS)} {P : β → PS → Prop} {Q : α → PS → Prop} {k : Option β → PS → Option (Option α × PS)} (h : RL N x P) (h0 : ∀ s, k none s = some (none, s)) (hk : ∀ l s, P l s → RL N (k (some l) s) Q) : RL N (bind2 x k) Q := by
  obtain ⟨o, s, rfl, h2⟩ := h
  show RL N (k o s) Q
  rcases h2 with ⟨rfl, hb⟩ | ⟨l, rfl, hp⟩
  · rw [h0]; exact RL.bad hb
  · exact hk l s hp
theorem bd_of {x : Int} (h : -1000 ≤ x ∧ x ≤ 1000) : Bd x := ⟨by omega, by omega⟩
theorem guard_in {γ : Type} {x : Int} (h : -1000 ≤ x ∧ x ≤ 1000) (f : Option γ) : guardB x f = f := by
  unfold guardB
  rw [if_pos (bd_of h)]
variable (hT : ToksOk N toks) (hrc : RcOk toks N n rc)
include hT
theorem comma_ok {s : PS} (h : Gd toks s) (e : Bool) : RB N (commaP toks e s) (fun s' => s' = s ∨ Ad toks s s') := by
  unfold commaP
  cases e with
  | true => exact ⟨_, _, rfl, .inr ⟨rfl, .inl rfl⟩⟩
  | false =>
    obtain ⟨b, s', h1, h2⟩ := expect_ok hT h (k := 45) (by decide)
    exact ⟨b, s', h1, h2.imp id fun q => ⟨q.1, .inr q.2⟩⟩
include hrc
/-- A list of expressions. -/
theorem list_ok {room closing most : Int} (hroom : -5 ≤ room ∧ room ≤ 12) (hcl : 2 ≤ closing) (s0 : PS) : ∀ (k : Nat) (l : List T) (s : PS), Gd toks s → rst toks s < k → 3 * rst toks s + 2 ≤ n → rst toks s + szL l ≤ rst toks s0 → s.alive = s0.alive → s.loops = s0.loops → l.length + rst toks s ≤ 5000 → WI (9 * room + 8).toNat l s0.funcs.toNat s.funcs.toNat → (most ≠ -1 → 0 ≤ most ∧ (l.length : Int) ≤ most) →
    RL N (listL toks rc k room closing most l s) (fun l' s' => Gd toks s' ∧ rst toks s' + szL l' < rst toks s0 ∧ s'.alive = s0.alive ∧ s'.loops = s0.loops ∧ WI (9 * room + 8).toNat l' s0.funcs.toNat s'.funcs.toNat ∧ (most ≠ -1 → (l'.length : Int) ≤ most))
  | 0, l, s, _, h, _, _, _, _, _, _, _ => by omega
  | k + 1, l, s, hs, hk, hn, hr0, ha, hl, hlen, hw, hm => by
    unfold listL
    by_cases hc : s.cur.kind ≠ closing
    · rw [if_pos hc]
      refine RL.bindB (comma_ok hT hs l.isEmpty) fun s1 h1 => ?_
      have hs1 : Gd toks s1 ∧ rst toks s1 ≤ rst toks s ∧ s1.alive = s.alive ∧ s1.loops = s.loops ∧ s1.funcs = s.funcs := by
        rcases h1 with rfl | h1
        · exact ⟨hs, Nat.le_refl _, rfl, rfl, rfl⟩
        · exact ⟨h1.gd, Nat.le_of_lt h1.rs, h1.al, h1.lp, h1.fu⟩
      obtain ⟨g1, g2, g3, g4, g5⟩ := hs1
      by_cases hmo : (l.length : Int) = most
      · rw [if_pos hmo]; exact RL.bad (fail_ok hT g1 (by decide))
      · rw [if_neg hmo]
        refine RL.bindN (hrc.expr room 1 s1 g1 hroom (by decide) (by omega)) fun x s2 h2 _ => ?_
        obtain ⟨h2, _⟩ := h2
        have h2r := h2.rs
        rw [if_pos (by omega)]
        refine list_ok hroom hcl s0 k (l ++ [x]) s2 h2.gd (by omega) (by omega) (by (first | omega | (simp only [T.sz, szL, szL_snoc]; omega) | (simp only [T.sz, szL, szL_snoc] at *; omega))) (by rw [h2.al, g3, ha]) (by rw [h2.lp, g4, hl]) (by simp; omega) ?_ (fun q => by have := hm q; simp; omega)
        have hwe := h2.we
        rw [g5] at hwe
        rw [show 9 * room + 9 - 1 = 9 * room + 8 from by omega] at hwe
        exact hw.snoc hwe
    · rw [if_neg hc]
      have hc' : s.cur.kind = closing := Decidable.not_not.1 hc
      obtain ⟨s', h1, h2⟩ := next_ok hT hs (by omega)
      rw [h1]
      have h2r := h2.rs
      exact RL.ok ⟨h2.gd, by omega, by rw [h2.al, ha], by rw [h2.lp, hl], by rw [h2.fu]; exact hw, fun q => (hm q).2⟩
omit hrc in
theorem params_ok (s0 : PS) : ∀ (k : Nat) (l : List T) (s : PS), Gd toks s → rst toks s < k → rst toks s ≤ rst toks s0 → s.alive = s0.alive → s.loops = s0.loops → s.funcs = s0.funcs → l.length ≤ 3 → WP l →
    RL N (paramsL toks k l s) (fun l' s' => Gd toks s' ∧ rst toks s' ≤ rst toks s0 ∧ s'.alive = s0.alive ∧ s'.loops = s0.loops ∧ s'.funcs = s0.funcs ∧ l'.length ≤ 3 ∧ WP l' ∧ s'.cur.kind = 40)
  | 0, l, s, _, h, _, _, _, _, _, _ => by omega
  | k + 1, l, s, hs, hk, hr0, ha, hl, hfu, hlen, hw => by
    unfold paramsL
    by_cases hc : s.cur.kind ≠ 40
    · rw [if_pos hc]
      refine RL.bindB (comma_ok hT hs l.isEmpty) fun s1 h1 => ?_
      have hs1 : Gd toks s1 ∧ rst toks s1 ≤ rst toks s ∧ s1.alive = s.alive ∧ s1.loops = s.loops ∧ s1.funcs = s.funcs := by
        rcases h1 with rfl | h1
        · exact ⟨hs, Nat.le_refl _, rfl, rfl, rfl⟩
        · exact ⟨h1.gd, Nat.le_of_lt h1.rs, h1.al, h1.lp, h1.fu⟩
      obtain ⟨g1, g2, g3, g4, g5⟩ := hs1
      by_cases hmo : (l.length : Int) = 3
      · rw [if_pos hmo]; exact RL.bad (fail_ok hT g1 (by decide))
      · rw [if_neg hmo]
        refine RL.bindL (name_ok hT g1 0) (fun _ => rfl) fun nm s2 h2 => ?_
        obtain ⟨h2, h3, _⟩ := h2
        have h2r := h2.rs
        show RL N (if l.length < 100000 then paramsL toks k (l ++ [.name nm.1 nm.2]) s2 else none) _
        rw [if_pos (by omega)]
        refine params_ok s0 k (l ++ [.name nm.1 nm.2]) s2 h2.gd (by omega) (by omega) (by rw [h2.al, g3, ha]) (by rw [h2.lp, g4, hl]) (by rw [h2.fu, g5, hfu]) (by simp; omega) fun t ht => ?_
        rcases List.mem_append.1 ht with ht | ht
        · exact hw t ht
        · rw [List.mem_singleton] at ht; subst ht; exact ⟨_, _, rfl, h3⟩
    · rw [if_neg hc]
      exact RL.ok ⟨hs, hr0, ha, hl, hfu, hlen, hw, Decidable.not_not.1 hc⟩
end
end Go.Wl
