/- Plain: the two parsers: relation, small functions. -/
import Derived.Test.Qxb6500573aGreatDoorZF
import Derived.Test.Qxb6500573aGreatDoorWZc
import Derived.Test.Qxb6500573aGreatDoorQC
namespace Go.Zm
open Go Go.Sl Go.Wl Go.Nm Go.Proofs
set_option linter.unusedVariables false
/-- From some fuel on. -/
def Ev {α : Type} (f : Nat → Nat → Option α) (r : α) : Prop := ∃ N0, ∀ N n, N0 ≤ N → N0 ≤ n → f N n = some r
section
variable {α β γ : Type} {r : α}
theorem Ev.pure (r : α) : Ev (fun _ _ => some r) r := ⟨0, fun _ _ _ _ => rfl⟩
theorem Ev.b1 {x : Option β} {b : β} {g : Nat → Nat → β → Option α} (hx : x = some b) (h : Ev (fun N n => g N n b) r) : Ev (fun N n => bind1 x (g N n)) r := by
  obtain ⟨N0, h⟩ := h
  exact ⟨N0, fun N n h1 h2 => by rw [hx]; exact h N n h1 h2⟩
theorem Ev.b2 {f : Nat → Nat → Option (β × γ)} {a : β} {b : γ} {g : Nat → Nat → β → γ → Option α} (hf : Ev f (a, b)) (h : Ev (fun N n => g N n a b) r) : Ev (fun N n => bind2 (f N n) (g N n)) r := by
  obtain ⟨N0, h⟩ := h
  obtain ⟨N1, hf⟩ := hf
  exact ⟨max N0 N1, fun N n h1 h2 => by dsimp only; rw [hf N n (by omega) (by omega)]; exact h N n (by omega) (by omega)⟩
theorem Ev.b2c {x : Option (β × γ)} {a : β} {b : γ} {g : Nat → Nat → β → γ → Option α} (hx : x = some (a, b)) (h : Ev (fun N n => g N n a b) r) : Ev (fun N n => bind2 x (g N n)) r := by
  obtain ⟨N0, h⟩ := h
  exact ⟨N0, fun N n h1 h2 => by rw [hx]; exact h N n h1 h2⟩
theorem Ev.grd {x : Int} {f : Nat → Nat → Option α} (hx : -1000000 ≤ x ∧ x ≤ 1000000) (h : Ev f r) : Ev (fun N n => guardB x (f N n)) r := by
  obtain ⟨N0, h⟩ := h
  exact ⟨N0, fun N n h1 h2 => by dsimp only; unfold guardB; rw [if_pos (show Bd x from hx)]; exact h N n h1 h2⟩
theorem Ev.ifp {c : Prop} [Decidable c] {f g : Nat → Nat → Option α} (hc : c) (h : Ev f r) : Ev (fun N n => if c then f N n else g N n) r := by
  obtain ⟨N0, h⟩ := h
  exact ⟨N0, fun N n h1 h2 => by dsimp only; rw [if_pos hc]; exact h N n h1 h2⟩
theorem Ev.ifn {c : Prop} [Decidable c] {f g : Nat → Nat → Option α} (hc : ¬ c) (h : Ev g r) : Ev (fun N n => if c then f N n else g N n) r := by
  obtain ⟨N0, h⟩ := h
  exact ⟨N0, fun N n h1 h2 => by dsimp only; rw [if_neg hc]; exact h N n h1 h2⟩
theorem Ev.ct {b : Bool} {f g : Nat → Nat → Option α} (hb : b = true) (h : Ev f r) : Ev (fun N n => bif b then f N n else g N n) r := by
  subst hb; exact h
theorem Ev.cf {b : Bool} {f g : Nat → Nat → Option α} (hb : b = false) (h : Ev g r) : Ev (fun N n => bif b then f N n else g N n) r := by
  subst hb; exact h
theorem Ev.const {x : Option α} (h : x = some r) : Ev (fun _ _ => x) r := ⟨0, fun _ _ _ _ => h⟩
theorem Ev.of {f g : Nat → Nat → Option α} (h : Ev f r) (e : ∀ N n, g N n = f N n) : Ev g r := by
  obtain ⟨N0, h⟩ := h
  exact ⟨N0, fun N n h1 h2 => by rw [e]; exact h N n h1 h2⟩
/-- One level up. -/
theorem Ev.up {f : Nat → Nat → Option α} {g : Nat → Option α} (h : Ev f r) (e : ∀ N, g (N + 1) = f N N) : Ev (fun N _ => g N) r := by
  obtain ⟨N0, h⟩ := h
  refine ⟨N0 + 1, fun N n h1 h2 => ?_⟩
  obtain ⟨k, rfl⟩ : ∃ k, N = k + 1 := ⟨N - 1, by omega⟩
  dsimp only
  rw [e]
  exact h k k (by omega) (by omega)
/-- One round of a loop. -/
theorem Ev.rd {f g : Nat → Nat → Option α} (h : Ev f r) (e : ∀ N n, g N (n + 1) = f N n) : Ev g r := by
  obtain ⟨N0, h⟩ := h
  refine ⟨N0 + 1, fun N n h1 h2 => ?_⟩
  obtain ⟨k, rfl⟩ : ∃ k, n = k + 1 := ⟨n - 1, by omega⟩
  rw [e]
  exact h N k (by omega) (by omega)
end
theorem lexZ_le {src : List UInt8} {p : Nat} (hp : p < src.length) : (lexZ src p src[p]).1 ≤ src.length := by
  cases hl : letterZ src[p] with
  | true => obtain ⟨_, _, _, h, _⟩ := word_same hp hl; exact h
  | false =>
    cases hd : digitM src[p] with
    | true => obtain ⟨_, _, _, h, _⟩ := num_same hp hd; exact h
    | false =>
      by_cases hq : (src[p].toNat : Int) = 34
      · obtain ⟨_, _, _, h, _⟩ := str_same hp hl hd hq; exact h
      · obtain ⟨_, _, _, h, _⟩ := sign_same hp hl hd hq (r := src[p].toNat) (fun _ => rfl) (fun h => h); exact h
theorem lexAt_le {src : List UInt8} {p : Nat} (hp : p ≤ src.length) : (lexAt src p).1 ≤ src.length := by
  have h := skip_ge (src := src) (src.length + 1) p hp
  unfold lexAt
  by_cases c : skipZ src (src.length + 1) p < src.length
  · rw [List.getElem?_eq_getElem c]; exact lexZ_le c
  · rw [List.getElem?_eq_none (by omega)]; exact h.2
section
variable (src : List UInt8) (toks : List Tok)
/-- The two parsers stand at the same place, no error met. -/
structure Rl (s : PS) (m : PZ) : Prop where
  cur : toks[s.i]? = some s.cur
  tk : TokR s.cur m.tok
  st : Strm src m.pos (toks.drop (s.i + 1))
  ps : m.pos ≤ src.length
  al : m.alive = s.alive
  lp : m.loops = s.loops
  fu : m.funcs = s.funcs
  er : m.err = 0
  se : s.err = 0
  nb : 1 ≤ m.nodes.length ∧ m.nodes.length ≤ 1 + 4 * s.i
  f0 : 0 ≤ s.funcs
/-- Both have failed, alike. -/
structure Fl (m : PZ) (s : PS) : Prop where
  e : m.err = s.err
  a : m.at_ = s.at_
  n : s.err ≠ 0
  ps : m.pos ≤ src.length
/-- What holds of the tokens. -/
structure TOk : Prop where
  len : toks.length ≤ 2049
  bad : ∀ t, t ∈ toks → t.kind = 1 → t.err ≠ 0
end
section
variable {src : List UInt8} {toks : List Tok} {s s' : PS} {m : PZ}
theorem Rl.lt (h : Rl src toks s m) : s.i < toks.length := (List.getElem?_eq_some_iff.1 h.cur).1
theorem Rl.bd (h : Rl src toks s m) (hT : TOk toks) : m.nodes.length < 9000 := by have := h.lt; have := hT.len; have := h.nb; omega
theorem nextR (h : Rl src toks s m) (hn : nextP toks s = some s') : ∃ m', nextZ src m = some m' ∧ Rl src toks s' m' ∧ s'.i = s.i + 1 ∧ m'.nodes = m.nodes ∧ s'.alive = s.alive ∧ s'.loops = s.loops ∧ s'.funcs = s.funcs := by
  unfold nextP at hn
  cases ht : toks[s.i + 1]? with
  | none => rw [ht] at hn; cases hn
  | some t =>
    rw [ht] at hn
    injection hn with hn
    subst hn
    have hi := (List.getElem?_eq_some_iff.1 ht).1
    have hst := h.st
    rw [List.drop_eq_getElem_cons hi, (List.getElem?_eq_some_iff.1 ht).2] at hst
    obtain ⟨h1, h2, h3, h4⟩ := hst
    exact ⟨_, nextZ_eq h.ps, ⟨ht, h2, h4, h3, h.al, h.lp, h.fu, h.er, h.se, by have := h.nb; dsimp only; omega, h.f0⟩, rfl, rfl, rfl, rfl, rfl⟩
theorem failR (hT : TOk toks) (h : Rl src toks s m) {e : Int} (he : e ≠ 0) : Fl src (failZ e m) (failP e s) := by
  unfold failZ failP
  rw [if_neg (fun q => q h.er)]
  have hk := h.tk.k
  refine ⟨?_, h.tk.at_, ?_, h.ps⟩
  · dsimp only
    by_cases c : s.cur.kind = 1
    · rw [if_pos c, if_pos (hk.2.2.2.2.1.2 c), (h.tk.k1 c).2]
    · rw [if_neg c, if_neg (fun q => c (hk.2.2.2.2.1.1 q))]
  · dsimp only
    split
    · rename_i c; exact hT.bad _ (List.mem_of_getElem? h.cur) c
    · exact he
/-! Behind an error nothing turns it. -/
theorem Fl.next (h : Fl src m s) : ∃ m', nextZ src m = some m' ∧ Fl src m' s ∧ m'.alive = m.alive := ⟨_, nextZ_eq h.ps, ⟨h.e, h.a, h.n, lexAt_le h.ps⟩, rfl⟩
theorem Fl.fail (h : Fl src m s) (e : Int) : failZ e m = m := by unfold failZ; rw [if_pos (by rw [h.e]; exact h.n)]
theorem Fl.want (h : Fl src m s) (t : List UInt8) : ∃ m', wantZ src t m = some m' ∧ Fl src m' s ∧ m'.alive = m.alive := by
  unfold wantZ
  cases isZ t m with
  | true => exact h.next
  | false => exact ⟨m, by rw [cond_false, h.fail], h, rfl⟩
theorem Fl.ne (h : Fl src m s) : m.err ≠ 0 := by rw [h.e]; exact h.n
theorem Fl.name (h : Fl src m s) (ha : -1000000 ≤ m.alive ∧ m.alive ≤ 1000000) (x : Int) : ∃ r m', nameZ src x m = some (r, m') ∧ Fl src m' s := by
  unfold nameZ
  split
  · exact ⟨_, _, rfl, by rw [h.fail]; exact h⟩
  · unfold guardB
    rw [if_pos (show Bd m.alive from ha)]
    split
    · exact ⟨_, _, rfl, by rw [h.fail]; exact h⟩
    · obtain ⟨m', e, h', _⟩ := h.next
      rw [e]
      exact ⟨_, m', rfl, h'⟩
theorem isR (h : Rl src toks s m) {K : Int} (hK : 5 ≤ K ∧ K ≤ 46) (t : List UInt8) (ht : t = kText K) : isZ t m = decide (s.cur.kind = K) := by
  subst ht
  by_cases c : s.cur.kind = K
  · rw [isZ_t h.tk hK c, decide_eq_true c]
  · rw [isZ_f h.tk hK c, decide_eq_false c]
theorem isT (h : Rl src toks s m) {K : Int} (hK : 5 ≤ K ∧ K ≤ 46) {t : List UInt8} (ht : t = kText K) (hk : s.cur.kind = K) : isZ t m = true := by rw [isR h hK t ht]; exact decide_eq_true hk
theorem isF (h : Rl src toks s m) {K : Int} (hK : 5 ≤ K ∧ K ≤ 46) {t : List UInt8} (ht : t = kText K) (hk : s.cur.kind ≠ K) : isZ t m = false := by rw [isR h hK t ht]; exact decide_eq_false hk
/-- expect ~ want -/
theorem expR (hT : TOk toks) (h : Rl src toks s m) {K : Int} (hK : 5 ≤ K ∧ K ≤ 46) {t : List UInt8} (ht : t = kText K) {b : Bool} (hx : expectP toks K s = some (b, s')) :
    ∃ m', wantZ src t m = some m' ∧ ((b = false ∧ Fl src m' s') ∨ (b = true ∧ Rl src toks s' m' ∧ s'.i = s.i + 1 ∧ m'.nodes = m.nodes ∧ s'.alive = s.alive ∧ s'.loops = s.loops ∧ s'.funcs = s.funcs)) := by
  unfold expectP at hx
  unfold wantZ
  split at hx
  · rename_i c
    injection hx with hx; injection hx with h1 h2; subst h1; subst h2
    rw [isF h hK ht c]
    exact ⟨_, rfl, .inl ⟨rfl, failR hT h (by decide)⟩⟩
  · rename_i c
    obtain ⟨s1, hn, hx⟩ := bnd1 hx
    injection hx with hx; injection hx with h1 h2; subst h1; subst h2
    rw [isT h hK ht (Decidable.not_not.1 c)]
    obtain ⟨m', k1, k2⟩ := nextR h hn
    exact ⟨m', k1, .inr ⟨rfl, k2⟩⟩
theorem accR (h : Rl src toks s m) {K : Int} (hK : 5 ≤ K ∧ K ≤ 46) {t : List UInt8} (ht : t = kText K) {b : Bool} (hx : acceptP toks K s = some (b, s')) :
    (b = false ∧ s' = s ∧ isZ t m = false) ∨ (b = true ∧ isZ t m = true ∧ ∃ m', nextZ src m = some m' ∧ Rl src toks s' m' ∧ s'.i = s.i + 1 ∧ m'.nodes = m.nodes ∧ s'.alive = s.alive ∧ s'.loops = s.loops ∧ s'.funcs = s.funcs) := by
  unfold acceptP at hx
  split at hx
  · rename_i c
    injection hx with hx; injection hx with h1 h2; subst h1; subst h2
    exact .inl ⟨rfl, rfl, isF h hK ht c⟩
  · rename_i c
    obtain ⟨s1, hn, hx⟩ := bnd1 hx
    injection hx with hx; injection hx with h1 h2; subst h1; subst h2
    exact .inr ⟨rfl, isT h hK ht (Decidable.not_not.1 c), nextR h hn⟩
theorem nameR (hT : TOk toks) (h : Rl src toks s m) {x : Int} {r : Option (Int × List UInt8)} (hx : nameP toks x s = some (r, s')) :
    ∃ q m', nameZ src x m = some (q, m') ∧ ((r = none ∧ Fl src m' s') ∨ (r = some (q.2, q.1) ∧ Rl src toks s' m' ∧ s'.i = s.i + 1 ∧ m'.nodes = m.nodes ∧ s'.alive = s.alive ∧ s'.loops = s.loops ∧ s'.funcs = s.funcs)) := by
  unfold nameP at hx
  unfold nameZ
  have hk := h.tk.k
  split at hx
  · rename_i c
    injection hx with hx; injection hx with h1 h2; subst h1; subst h2
    rw [if_pos (fun q => c (hk.2.1.1 q))]
    exact ⟨_, _, rfl, .inl ⟨rfl, failR hT h (by decide)⟩⟩
  · rename_i c
    have c' := Decidable.not_not.1 c
    rw [if_neg (fun q => q (hk.2.1.2 c'))]
    obtain ⟨hb, hx⟩ := Wl.grd hx
    unfold guardB
    rw [if_pos (show Bd m.alive by rw [h.al]; exact hb), h.al]
    split at hx
    · rename_i c2
      injection hx with hx; injection hx with h1 h2; subst h1; subst h2
      rw [if_pos c2]
      exact ⟨_, _, rfl, .inl ⟨rfl, failR hT h (by decide)⟩⟩
    · rename_i c2
      rw [if_neg c2]
      obtain ⟨s1, hn, hx⟩ := bnd1 hx
      injection hx with hx; injection hx with h1 h2; subst h1; subst h2
      obtain ⟨m', k1, k2⟩ := nextR h hn
      rw [k1]
      refine ⟨_, m', rfl, .inr ⟨?_, k2⟩⟩
      rw [h.tk.at_, (h.tk.k2 c').2]
theorem next_alive {m' : PZ} (h : nextZ src m = some m') : m'.alive = m.alive := by
  unfold nextZ at h
  split at h
  · split at h <;> (injection h with h; subst h; rfl)
  · cases h
theorem fail_alive (e : Int) (m : PZ) : (failZ e m).alive = m.alive := by unfold failZ; split <;> rfl
theorem want_alive {t : List UInt8} {m' : PZ} (h : wantZ src t m = some m') : m'.alive = m.alive := by
  unfold wantZ at h
  cases e : isZ t m <;> rw [e] at h
  · injection h with h; subst h; exact fail_alive _ _
  · exact next_alive h
end
end Go.Zm
