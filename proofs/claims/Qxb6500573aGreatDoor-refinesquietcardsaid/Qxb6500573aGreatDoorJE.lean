/- Plain: the compiler's object behind a compile. -/
import Derived.Test.Qxb6500573aGreatDoorJD
import Derived.Test.Qxb6500573aGreatDoorQS
import Derived.Test.Qxb6500573aGreatDoorCK7
namespace Go.Wl
open Go Go.Sl Go.Proofs
set_option linter.unusedVariables false
theorem sub_len {α : Type} : ∀ (m l : List α), l.Nodup → (∀ x, x ∈ l → x ∈ m) → l.length ≤ m.length
  | [], l, h, hs => by
    cases l with
    | nil => simp
    | cons a l => have := hs a List.mem_cons_self; cases this
  | b :: m, l, h, hs => by
    classical
    have h1 := sub_len m (l.filter (fun x => decide (x ≠ b))) (h.sublist List.filter_sublist) (fun x hx => by
      obtain ⟨h1, h2⟩ := List.mem_filter.1 hx
      rcases List.mem_cons.1 (hs x h1) with q | q
      · exact absurd q (of_decide_eq_true h2)
      · exact q)
    have h2 : l.length ≤ (l.filter (fun x => decide (x ≠ b))).length + 1 := by
      clear h1 hs
      induction l with
      | nil => simp
      | cons a l ih =>
        rw [List.nodup_cons] at h
        by_cases e : a = b
        · subst e
          have : l.filter (fun x => decide (x ≠ a)) = l := by
            rw [List.filter_eq_self]
            intro x hx
            refine decide_eq_true fun q => ?_
            subst q
            exact h.1 hx
          rw [List.filter_cons, if_neg (by simp), this]
          simp
        · rw [List.filter_cons, if_pos (by simpa using e)]
          have := ih h.2
          simp only [List.length_cons]
          omega
    simp only [List.length_cons]
    omega
/-- What an instruction's place wants. -/
structure InF (g : Pg) (p : Pr) (op x : Int) : Prop where
  r : 1 ≤ op ∧ op ≤ 32
  k : op = 1 → x < p.nk
  gg : op = 9 ∨ op = 10 → ∃ v, g.consts[(p.k + x).toNat]? = some v ∧ v.t = 3
  l : op = 5 ∨ op = 6 → x < p.nslots
  t : op = 30 ∨ op = 31 ∨ op = 32 → x + 3 < p.nslots
  u : op = 7 ∨ op = 8 → x < p.nup
  a : op = 15 ∨ op = 16 → 1 ≤ x ∧ x ≤ 6
  j : op = 21 ∨ op = 22 ∨ op = 23 ∨ op = 24 → x < p.ncode
  c : op = 26 → x ≤ 3
  fc : op = 28 → x < g.protos.length
theorem ins_f {g : Pg} {p : Pr} {T : Nat → Ty} {pc : Nat} {op x : Int} (h : InsOk g p T pc op x) : InF g p op x := by
  cases h with
  | getG ht hx hv hn => exact ⟨by decide, by omega, fun _ => ⟨_, hv⟩, by omega, by omega, by omega, by omega, by omega, by omega, by omega⟩
  | setG ht hx hv hn => exact ⟨by decide, by omega, fun _ => ⟨_, hv⟩, by omega, by omega, by omega, by omega, by omega, by omega, by omega⟩
  | jmp hj => exact ⟨by decide, by omega, fun q => by omega, by omega, by omega, by omega, by omega, fun _ => hj.1.2, by omega, by omega⟩
  | jf ht hj hn => exact ⟨by decide, by omega, fun q => by omega, by omega, by omega, by omega, by omega, fun _ => hj.1.2, by omega, by omega⟩
  | jk ho ht hj hn => exact ⟨by omega, by omega, fun q => by omega, by omega, by omega, by omega, by omega, fun _ => hj.1.2, by omega, by omega⟩
  | _ => exact ⟨by omega, by omega, fun q => by omega, by omega, by omega, by omega, by omega, by omega, by omega, by omega⟩
section
variable {ns : List Nd} {L : List Fs}
/-- What is known of each instruction of each function. -/
theorem fn_ins (hd : DN L 0 L.length) {x : Nat} {f : Fs} (hf : L[x]? = some f) : ∃ g : Pg, ∃ p : Pr, g.consts = f.consts ∧ g.protos.length = L.length ∧ p.nslots = f.nslots ∧ p.nup = f.ups.length ∧ p.k = 0 ∧ p.nk = f.consts.length ∧ p.ncode = f.code.length ∧ ∀ (pc : Nat) i, f.code[pc]? = some i → (0 ≤ i.2 ∧ i.2 ≤ 65535) ∧ InF g p i.1 i.2 := by
  obtain ⟨ps, e1, e2, e3⟩ := pg_fold L ⟨[], [], [], []⟩
  simp only [List.length_nil, Nat.zero_add] at e3
  have hok := hd x f (Nat.zero_le _) (lt_of hf) hf
  obtain ⟨T, t1, t2⟩ := hok.ty ⟨ps, L.flatMap (·.ups), f.consts, []⟩ ⟨f.nparams, f.nslots, 0, f.ups.length, 0, f.consts.length, 0, f.code.length⟩
    ⟨Int.le_refl _, Int.le_refl _, fun y c hc => ⟨by have := lt_of hc; dsimp only; omega, by
      dsimp only
      rw [Int.zero_add, Int.toNat_natCast]
      exact hc⟩⟩
    (fun y h _ _ hy => ⟨_, e3 y h hy, by
      dsimp only
      rw [Int.toNat_natCast, Int.toNat_natCast, flatm_at (·.ups) hy, List.drop_left, List.take_left]⟩) rfl
  exact ⟨_, _, rfl, e2, rfl, rfl, rfl, rfl, rfl, fun pc i hi => ⟨(t2 pc i hi).2.1, ins_f (t2 pc i hi).2.2⟩⟩
theorem insP_code {x pc : Nat} {f : Fs} (hf : L[x]? = some f) : insP L x pc = f.code[pc]? := by
  unfold insP
  rw [hf]
theorem hi_all (hd : DN L 0 L.length) (hn : ns.length ≤ 301) : HI ns L := by
  refine ⟨fun x f pc v hf hi => ?_, fun x f pc op v hf hi ho => ?_, fun x f hf => ?_, hn⟩
  · rw [insP_code hf] at hi
    obtain ⟨g, p, a1, a2, a3, a4, a5, a6, a7, h⟩ := fn_ins hd hf
    have := (h pc _ hi).2.l (.inr rfl)
    rw [a3] at this
    exact this
  · rw [insP_code hf] at hi
    obtain ⟨g, p, a1, a2, a3, a4, a5, a6, a7, h⟩ := fn_ins hd hf
    have := (h pc _ hi).2.t (by dsimp only; omega)
    rw [a3] at this
    exact this
  · exact (hd x f (Nat.zero_le _) (lt_of hf) hf).np.2.2.1
theorem lev_ai {x b p q : Nat} {M : List Nm8} (h : levS L x b M p q) (hs : SL L x M) : AI L x p q ∧ q ≤ p + 1 := AI.lev h hs
/-- Each function is seen whole. -/
theorem cov_each (h0 : ns[0]? = some nd0) {hi n al : Nat} {root : Int} (hl : ns.length = hi + 1) (hhi : hi ≤ 300) (h : Nn ns (.bl 0 false al) 0 hi root 0 n) (hd : DN L 0 L.length) (hln : L.length = n + 1) (hp : progS ns L root) : ∀ x, x < L.length → ∃ E, (x = 0 ↔ E = []) ∧ CovE ns L x E := by
  have hH : HI ns L := hi_all hd (by omega)
  obtain ⟨m, f, p1, g1, g2, ⟨e, p0, L1, b1, b2, b3⟩, g4, g5, g6, g7⟩ := hp
  have hs0 : SL L 0 ([] : List Nm8) := ⟨f, g1, by have := (hd 0 f (Nat.zero_le _) (lt_of g1) g1).np; simp; omega⟩
  obtain ⟨a, s⟩ := cov_all h0 hH h m e 0 [] [] none 0 p0 L1 hs0 b1
  have v := AI.lev b3 s
  have l1 := a.le
  have l2 := v.2
  intro x hx
  by_cases hx0 : x = 0
  · subst hx0
    exact ⟨[], ⟨fun _ => rfl, fun _ => rfl⟩, p1, f, g1, g7, a.ai.app v.1, by omega, g4, g5, g6⟩
  · obtain ⟨E, q1, q2⟩ := a.cv x (by omega) (by omega)
    exact ⟨E, ⟨fun q => absurd q hx0, fun q => absurd q q1⟩, q2⟩
end
end Go.Wl
