/- Plain: the nodes that are left behind. -/
import Derived.Test.Qxb6500573aGreatDoorJA
import Derived.Test.Qxb6500573aGreatDoorPB
namespace Go.Wl
open Go Go.Sl Go.Proofs
set_option linter.unusedVariables false
mutual
/-- How many nodes the tree takes. -/
def T.ct : T → Nat
  | .index _ x k => x.ct + k.ct + 1
  | .call _ f l => f.ct + ctL l + 1
  | .func _ _ ps body => ctL ps + ctL body + 1
  | .table _ l => ctL l + 1
  | .bin _ _ _ x y => x.ct + y.ct + 1
  | .un _ _ x => x.ct + 1
  | .loc names v => (if names.length = 1 then 0 else ctL names) + v.ct + 1
  | .locFn _ _ f => f.ct + 1
  | .asg _ x v => x.ct + v.ct + 1
  | .callS c => c.ct + 1
  | .ife _ c th el => c.ct + ctL th + ctL el + 1
  | .whl _ c body => c.ct + ctL body + 1
  | .forN _ _ bs body => ctL bs + ctL body + 1
  | .forIn names x body => ctL names + x.ct + ctL body + 1
  | .ret _ x y => x.ct + y.ct + 1
  | .nil => 0
  | .lit _ _ => 1
  | .num _ _ => 1
  | .str _ _ => 1
  | .name _ _ => 1
  | .brk _ => 1
def ctL : List T → Nat
  | [] => 0
  | t :: l => t.ct + ctL l
end
theorem ctL_snoc (x : T) : ∀ l : List T, ctL (l ++ [x]) = ctL l + x.ct
  | [] => by simp [ctL]
  | t :: l => by
    rw [List.cons_append]
    unfold ctL
    rw [ctL_snoc x l]
    omega
/-- The nodes' links. -/
def NdI (ns : List Nd) : Prop := 1 ≤ ns.length ∧ ∀ (i : Nat) d, ns[i]? = some d → (i = 0 → d = nd0) ∧ (0 ≤ d.a ∧ 0 ≤ d.b ∧ 0 ≤ d.c) ∧ (d.a = 0 ∨ d.a + 1 ≤ i) ∧ (d.b = 0 ∨ d.b + 1 ≤ i) ∧ (d.c = 0 ∨ d.c + 1 ≤ i) ∧ (d.next = 0 ∨ ((i : Int) < d.next ∧ d.next < ns.length))
/-- A link to a node below m, or none. -/
def Lk (m : Nat) (p : Int) : Prop := 0 ≤ p ∧ (p = 0 ∨ p + 1 ≤ m)
theorem Lk.up {m m2 : Nat} {p : Int} (h : Lk m p) (hm : m ≤ m2) : Lk m2 p := ⟨h.1, by have := h.2; omega⟩
theorem Lk.zero (m : Nat) : Lk m 0 := ⟨Int.le_refl _, .inl rfl⟩
/-- c nodes more, the root of them at p. -/
structure NR (ns : List Nd) (p : Int) (ns' : List Nd) (c : Nat) : Prop where
  nd : NdI ns'
  ln : ns'.length = ns.length + c
  lk : (ns.length : Int) ≤ p ∧ p < ns'.length
structure NL (ns : List Nd) (p : Int) (ns' : List Nd) (c : Nat) : Prop where
  nd : NdI ns'
  ln : ns'.length = ns.length + c
  lk : Lk ns'.length p
theorem NR.toL {ns ns' : List Nd} {p : Int} {c : Nat} (h : NR ns p ns' c) : NL ns p ns' c := ⟨h.nd, h.ln, by have := h.lk; unfold Lk; omega⟩
theorem NR.add {ns0 ns ns' : List Nd} {d : Nd} {p : Int} {c : Nat} (h : addF d ns = some (p, ns')) (hI : NdI ns) (hl : ns.length = ns0.length + c) (ha : Lk ns.length d.a) (hb : Lk ns.length d.b) (hc : Lk ns.length d.c) (hn : d.next = 0) : NR ns0 p ns' (c + 1) := by
  unfold addF at h
  split at h
  · injection h with h
    injection h with h1 h2
    subst h1 h2
    refine ⟨⟨by simp, fun i e he => ?_⟩, by simp; omega, by omega, by simp; omega⟩
    have hI1 := hI.1
    by_cases hi : i < ns.length
    · rw [List.getElem?_append_left hi] at he
      obtain ⟨g1, g2, g3, g4, g5, g6⟩ := hI.2 i e he
      exact ⟨g1, g2, g3, g4, g5, by rw [List.length_append, List.length_singleton]; omega⟩
    · have hil := (List.getElem?_eq_some_iff.1 he).1
      rw [List.length_append, List.length_singleton] at hil
      have : i = ns.length := by omega
      subst this
      rw [List.getElem?_append_right (Nat.le_refl _), Nat.sub_self] at he
      injection he with he
      subst he
      exact ⟨fun q => by omega, ⟨ha.1, hb.1, hc.1⟩, ha.2, hb.2, hc.2, .inl hn⟩
  · cases h
theorem NdI.next {ns : List Nd} (h : NdI ns) {l : Nat} (hl : l < ns.length) (h0 : l ≠ 0) {x : Int} (hx : (l : Int) < x ∧ x < ns.length) : NdI (ns.set l { ns[l] with next := x }) := by
  refine ⟨by simpa using h.1, fun i d hd => ?_⟩
  rw [List.length_set]
  by_cases hi : i = l
  · subst hi
    rw [List.getElem?_set_self hl] at hd
    injection hd with hd
    subst hd
    obtain ⟨g1, g2, g3, g4, g5, g6⟩ := h.2 i _ (List.getElem?_eq_getElem hl)
    exact ⟨fun q => absurd q h0, g2, g3, g4, g5, .inr hx⟩
  · rw [List.getElem?_set_ne (Ne.symm hi)] at hd
    exact h.2 i d hd
structure FcN (fc : RecF) : Prop where
  ex : ∀ (t : T) (ns : List Nd) (p : Int) (ns' : List Nd), fc.expr t ns = some (p, ns') → NdI ns → NR ns p ns' t.ct
  ch : ∀ (l : List T) (ns : List Nd) (p : Int) (ns' : List Nd), fc.chain l ns = some (p, ns') → NdI ns → NL ns p ns' (ctL l)
section
variable {fc : RecF} (hf : FcN fc)
include hf
theorem opt_nd {t : T} {ns : List Nd} {p : Int} {ns' : List Nd} (h : optF fc t ns = some (p, ns')) (hI : NdI ns) : NL ns p ns' t.ct := by
  unfold optF at h
  split at h
  · rename_i hn
    injection h with h
    injection h with h1 h2
    subst h1 h2
    cases t <;> first | exact ⟨hI, rfl, Lk.zero _⟩ | cases hn
  · exact (hf.ex t ns p ns' h hI).toL
theorem expr_nd (t : T) (ns : List Nd) (p : Int) (ns' : List Nd) (h : exprF fc t ns = some (p, ns')) (hI : NdI ns) : NR ns p ns' t.ct := by
  have one : ∀ d : Nd, addF d ns = some (p, ns') → d.a = 0 → d.b = 0 → d.c = 0 → d.next = 0 → NR ns p ns' 1 := fun d h ha hb hc hn => NR.add (c := 0) h hI rfl (by rw [ha]; exact Lk.zero _) (by rw [hb]; exact Lk.zero _) (by rw [hc]; exact Lk.zero _) hn
  cases t with
  | lit a k => exact one _ h rfl rfl rfl rfl
  | num a k => exact one _ h rfl rfl rfl rfl
  | str a s => exact one _ h rfl rfl rfl rfl
  | name a s => exact one _ h rfl rfl rfl rfl
  | index a x k =>
    obtain ⟨p1, n1, h1, h⟩ := bnd2 h
    obtain ⟨p2, n2, h2, h⟩ := bnd2 h
    have r1 := (hf.ex _ _ _ _ h1 hI).toL
    have r2 := (hf.ex _ _ _ _ h2 r1.nd).toL
    have e1 := r1.ln
    have e2 := r2.ln
    exact NR.add h r2.nd (by omega) (r1.lk.up (by omega)) r2.lk (Lk.zero _) rfl
  | call a f l =>
    obtain ⟨p1, n1, h1, h⟩ := bnd2 h
    obtain ⟨p2, n2, h2, h⟩ := bnd2 h
    have r1 := (hf.ex _ _ _ _ h1 hI).toL
    have r2 := hf.ch _ _ _ _ h2 r1.nd
    have e1 := r1.ln
    have e2 := r2.ln
    exact NR.add h r2.nd (by omega) (r1.lk.up (by omega)) r2.lk (Lk.zero _) rfl
  | func a n ps body =>
    obtain ⟨p1, n1, h1, h⟩ := bnd2 h
    obtain ⟨p2, n2, h2, h⟩ := bnd2 h
    have r1 := hf.ch _ _ _ _ h1 hI
    have r2 := hf.ch _ _ _ _ h2 r1.nd
    have e1 := r1.ln
    have e2 := r2.ln
    exact NR.add h r2.nd (by omega) (r1.lk.up (by omega)) r2.lk (Lk.zero _) rfl
  | table a l =>
    obtain ⟨p1, n1, h1, h⟩ := bnd2 h
    have r1 := hf.ch _ _ _ _ h1 hI
    have e1 := r1.ln
    exact NR.add h r1.nd (by omega) r1.lk (Lk.zero _) (Lk.zero _) rfl
  | bin a k o x y =>
    obtain ⟨p1, n1, h1, h⟩ := bnd2 h
    obtain ⟨p2, n2, h2, h⟩ := bnd2 h
    have r1 := (hf.ex _ _ _ _ h1 hI).toL
    have r2 := (hf.ex _ _ _ _ h2 r1.nd).toL
    have e1 := r1.ln
    have e2 := r2.ln
    exact NR.add h r2.nd (by omega) (r1.lk.up (by omega)) r2.lk (Lk.zero _) rfl
  | un a o x =>
    obtain ⟨p1, n1, h1, h⟩ := bnd2 h
    have r1 := (hf.ex _ _ _ _ h1 hI).toL
    have e1 := r1.ln
    exact NR.add h r1.nd (by omega) r1.lk (Lk.zero _) (Lk.zero _) rfl
  | _ => cases h
theorem stmt_nd (t : T) (ns : List Nd) (p : Int) (ns' : List Nd) (h : stmtF fc t ns = some (p, ns')) (hI : NdI ns) : NR ns p ns' t.ct := by
  cases t with
  | loc names v =>
    cases names with
    | nil => cases h
    | cons x rest =>
      cases x with
      | name a s =>
        unfold stmtF at h
        dsimp only at h
        unfold T.ct
        by_cases c1 : ((rest.length + 1 : Nat) : Int) = 1
        · rw [if_pos c1] at h
          obtain ⟨p1, n1, h1, h⟩ := bnd2 h
          have r1 := opt_nd hf h1 hI
          have e1 := r1.ln
          rw [if_pos (by simp only [List.length_cons]; omega)]
          exact NR.add h r1.nd (by omega) r1.lk (Lk.zero _) (Lk.zero _) rfl
        · rw [if_neg c1] at h
          obtain ⟨p1, n1, h1, h⟩ := bnd2 h
          obtain ⟨p2, n2, h2, h⟩ := bnd2 h
          have r1 := hf.ch _ _ _ _ h1 hI
          have r2 := (hf.ex _ _ _ _ h2 r1.nd).toL
          have e1 := r1.ln
          have e2 := r2.ln
          rw [if_neg (by simp only [List.length_cons]; omega)]
          exact NR.add h r2.nd (by omega) (r1.lk.up (by omega)) r2.lk (Lk.zero _) rfl
      | _ => cases h
  | locFn a s f =>
    obtain ⟨p1, n1, h1, h⟩ := bnd2 h
    have r1 := (hf.ex _ _ _ _ h1 hI).toL
    have e1 := r1.ln
    exact NR.add h r1.nd (by omega) r1.lk (Lk.zero _) (Lk.zero _) rfl
  | asg a x v =>
    obtain ⟨p1, n1, h1, h⟩ := bnd2 h
    obtain ⟨p2, n2, h2, h⟩ := bnd2 h
    have r1 := (hf.ex _ _ _ _ h1 hI).toL
    have r2 := (hf.ex _ _ _ _ h2 r1.nd).toL
    have e1 := r1.ln
    have e2 := r2.ln
    exact NR.add h r2.nd (by omega) (r1.lk.up (by omega)) r2.lk (Lk.zero _) rfl
  | callS c =>
    cases c with
    | call a f l =>
      obtain ⟨p1, n1, h1, h⟩ := bnd2 h
      have r1 := (hf.ex _ _ _ _ h1 hI).toL
      have e1 := r1.ln
      exact NR.add h r1.nd (by have e2 : (T.call a f l).ct = f.ct + ctL l + 1 := rfl; omega) r1.lk (Lk.zero _) (Lk.zero _) rfl
    | _ => cases h
  | ife a c th el =>
    obtain ⟨p1, n1, h1, h⟩ := bnd2 h
    obtain ⟨p2, n2, h2, h⟩ := bnd2 h
    obtain ⟨p3, n3, h3, h⟩ := bnd2 h
    have r1 := (hf.ex _ _ _ _ h1 hI).toL
    have r2 := hf.ch _ _ _ _ h2 r1.nd
    have r3 := hf.ch _ _ _ _ h3 r2.nd
    have e1 := r1.ln
    have e2 := r2.ln
    have e3 := r3.ln
    exact NR.add h r3.nd (by omega) (r1.lk.up (by omega)) (r2.lk.up (by omega)) r3.lk rfl
  | whl a c body =>
    obtain ⟨p1, n1, h1, h⟩ := bnd2 h
    obtain ⟨p2, n2, h2, h⟩ := bnd2 h
    have r1 := (hf.ex _ _ _ _ h1 hI).toL
    have r2 := hf.ch _ _ _ _ h2 r1.nd
    have e1 := r1.ln
    have e2 := r2.ln
    exact NR.add h r2.nd (by omega) (r1.lk.up (by omega)) r2.lk (Lk.zero _) rfl
  | forN a s bounds body =>
    obtain ⟨p1, n1, h1, h⟩ := bnd2 h
    obtain ⟨p2, n2, h2, h⟩ := bnd2 h
    have r1 := hf.ch _ _ _ _ h1 hI
    have r2 := hf.ch _ _ _ _ h2 r1.nd
    have e1 := r1.ln
    have e2 := r2.ln
    exact NR.add h r2.nd (by omega) (r1.lk.up (by omega)) r2.lk (Lk.zero _) rfl
  | forIn names x body =>
    cases names with
    | nil => cases h
    | cons y rest =>
      cases y with
      | name a s =>
        obtain ⟨p1, n1, h1, h⟩ := bnd2 h
        obtain ⟨p2, n2, h2, h⟩ := bnd2 h
        obtain ⟨p3, n3, h3, h⟩ := bnd2 h
        have r1 := hf.ch _ _ _ _ h1 hI
        have r2 := (hf.ex _ _ _ _ h2 r1.nd).toL
        have r3 := hf.ch _ _ _ _ h3 r2.nd
        have e1 := r1.ln
        have e2 := r2.ln
        have e3 := r3.ln
        exact NR.add h r3.nd (by omega) (r1.lk.up (by omega)) (r2.lk.up (by omega)) r3.lk rfl
      | _ => cases h
  | ret a x y =>
    obtain ⟨p1, n1, h1, h⟩ := bnd2 h
    obtain ⟨p2, n2, h2, h⟩ := bnd2 h
    have r1 := opt_nd hf h1 hI
    have r2 := opt_nd hf h2 r1.nd
    have e1 := r1.ln
    have e2 := r2.ln
    exact NR.add h r2.nd (by omega) (r1.lk.up (by omega)) r2.lk (Lk.zero _) rfl
  | brk a => exact NR.add (c := 0) h hI rfl (Lk.zero _) (Lk.zero _) (Lk.zero _) rfl
  | _ => cases h
theorem lay_nd (t : T) (ns : List Nd) (p : Int) (ns' : List Nd) (h : layF fc t ns = some (p, ns')) (hI : NdI ns) : NR ns p ns' t.ct := by
  unfold layF at h
  cases hs : t.isStmt with
  | true => rw [hs, cond_true] at h; exact stmt_nd hf t ns p ns' h hI
  | false => rw [hs, cond_false] at h; exact expr_nd hf t ns p ns' h hI
theorem chainL_nd : ∀ (l : List T) (first last : Int) (ns : List Nd) (p : Int) (ns' : List Nd), chainL fc l first last ns = some (p, ns') → NdI ns → Lk ns.length first → Lk ns.length last → NL ns p ns' (ctL l)
  | [], first, last, ns, p, ns', h, hI, h1, h2 => by
    unfold chainL at h
    injection h with h
    injection h with e1 e2
    subst e1 e2
    exact ⟨hI, rfl, h1⟩
  | t :: l, first, last, ns, p, ns', h, hI, h1, h2 => by
    unfold chainL at h
    obtain ⟨x, n1, g1, h⟩ := bnd2 h
    have r1 := lay_nd hf t ns x n1 g1 hI
    have e1 := r1.ln
    have lk := r1.lk
    unfold ctL
    split at h
    · have r2 := chainL_nd l x x n1 p ns' h r1.nd r1.toL.lk r1.toL.lk
      have e2 := r2.ln
      exact ⟨r2.nd, by omega, r2.lk⟩
    · rename_i h0
      split at h
      · rename_i hb
        have h22 := h2.2
        have hnx := r1.nd.next hb.2 (by omega) (x := x) ⟨by omega, lk.2⟩
        have r2 := chainL_nd l first x _ p ns' h hnx (by rw [List.length_set]; exact h1.up (by omega)) (by rw [List.length_set]; exact r1.toL.lk)
        have e2 := r2.ln
        rw [List.length_set] at e2
        exact ⟨r2.nd, by omega, r2.lk⟩
      · cases h
theorem chain_nd (l : List T) (ns : List Nd) (p : Int) (ns' : List Nd) (h : chainF fc l ns = some (p, ns')) (hI : NdI ns) : NL ns p ns' (ctL l) := by
  unfold chainF at h
  split at h
  · exact chainL_nd hf l 0 0 ns p ns' h hI (Lk.zero _) (Lk.zero _)
  · cases h
end
theorem recF_nd : ∀ n, FcN (recF n)
  | 0 => ⟨(fun _ _ _ _ h => by cases h), (fun _ _ _ _ h => by cases h)⟩
  | n + 1 => ⟨expr_nd (recF_nd n), chain_nd (recF_nd n)⟩
theorem nd0_I : NdI [nd0] := by
  refine ⟨by simp, fun i d hd => ?_⟩
  cases i with
  | zero =>
    injection hd with hd
    subst hd
    exact ⟨fun _ => rfl, by decide, .inl rfl, .inl rfl, .inl rfl, .inl rfl⟩
  | succ i => cases hd
end Go.Wl
