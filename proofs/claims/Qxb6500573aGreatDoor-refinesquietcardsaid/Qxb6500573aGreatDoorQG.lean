/- Plain: the compiler: variables; the laws of the parts; expressions. -/
import Derived.Test.Qxb6500573aGreatDoorQF
namespace Go.Wl
open Go Go.Sl Go.Proofs
set_option linter.unusedVariables false
variable {ns : List Nd}
theorem ExtP.set {P L : List Fs} {k : Nat} {f f' : Fs} (h : ExtP P (L.set k f')) (hk : L[k]? = some f) (h1 : f'.consts = f.consts) (h2 : f'.ups = f.ups) : ExtP P L := fun y g hg => by
  by_cases c : y = k
  · subst c
    rw [hk] at hg
    injection hg with hg
    subst hg
    obtain ⟨h', q1, q2, q3⟩ := h y f' (List.getElem?_set_self (lt_of hk))
    exact ⟨h', q1, by rw [← h1]; exact q2, by rw [← h2]; exact q3⟩
  · exact h y g (by rw [List.getElem?_set_ne (by omega)]; exact hg)
def VarI (f : Fs) (a b c : Int) (i : In) : Prop := (i.1 = a ∧ ∃ nm, f.locals[i.2.toNat]? = some nm ∧ nm ≠ []) ∨ (i.1 = b ∧ i.2 < f.ups.length) ∨ (i.1 = c ∧ ∃ v, f.consts[i.2.toNat]? = some v ∧ v.t = 3)
theorem go_bindV {α : Type} {k : Nat} {ch : List Nat} {F : CS → Option (α × CS)} {G : α → CS → Option CS} {L L1 L2 : List Fs} {f f1 f2 : Fs} {v : α} {n2 B2 : Nat} (hr : RunV F L v L1) (hs : Stp k ch L f L1 f1) (h2 : Go ns k ch (G v) L1 f1 L2 f2 n2 B2) : Go ns k ch (fun s => bind2 (F s) G) L f L2 f2 n2 B2 :=
  ⟨fun s hs => by
    obtain ⟨s1, e1, r1⟩ := hr s hs
    obtain ⟨s2, e2, r2⟩ := h2.run s1 r1
    exact ⟨s2, by rw [e1]; exact e2, r2⟩, h2.inv, hs.trans h2.stp⟩
theorem variable_go {k : Nat} {ch : List Nat} {L : List Fs} {f : Fs} {n B : Nat} (hI : Inv ns k ch L f n B) (hn12 : n ≤ 12) {name : List UInt8} (hn : nameOk name) (hks : KS ns ⟨3, 0, name⟩) (a b c : Int) (hB : B ≤ 50000) :
    ∃ (L' : List Fs) (f' : Fs) (i : In), Go ns k ch (variableM k name a b c) L f L' f' n (B + 71) ∧ f'.locals = f.locals ∧ f'.loops = f.loops ∧ f'.code = f.code ++ [i] ∧ (0 ≤ i.2 ∧ i.2 ≤ 65535) ∧ VarI f' a b c i ∧ ∀ P E pc, ExtP P L' → ScoL L ch E → insP P k pc = some i → VarS P k E f.locals name a b c pc := by
  have hal := hI.al
  have hkl := lt_of hI.at_
  have hln := hI.ln
  have hfirst : ∀ s, Rep s L → variableM k name a b c s = if 0 ≤ slotAt f.locals name f.locals.length then emitM k [(a, u16 (slotAt f.locals name f.locals.length))] s else bind2 (upvalueM 14 k name s) fun u s => if 0 ≤ u then emitM k [(b, u16 u)] s else bind2 (ctextM k name s) fun i s => emitM k [(c, i)] s := fun s hs => by
    unfold variableM
    rw [slot_run hI.at_ name (by omega) hs]
    rfl
  rcases slotAt_ok f.locals name f.locals.length (Nat.le_refl _) with e | ⟨j, e, hj⟩
  · obtain ⟨L1, u, r1, r2, r3, r4, r5⟩ := upvalue_go hn.1 ch k 14 L hI.ch (by have := hI.ch.len; omega) (by omega)
    obtain ⟨uu, hk1⟩ := r2.up k f List.mem_cons_self hI.at_
    have hms := r2.ms
    have hchl := hI.ch.len
    simp only [List.length_cons] at hms
    have hI1 : Inv ns k ch L1 { f with ups := f.ups ++ uu } n (B + 26) := ⟨by rw [r2.ln]; exact hI.ln, hk1, r2.cn, hI.ko.congr rfl rfl rfl, hI.al, hI.kq, by have := hI.ms; omega⟩
    have hS1 : Stp k ch L f L1 { f with ups := f.ups ++ uu } := ⟨by rw [r2.ln]; exact Nat.le_refl _, ⟨hkl, fun y hy => hI.ch.lt y hy⟩, fun y h1 h2 h3 => r2.ag y (fun q => by rcases List.mem_cons.1 q with q | q; exact h1 q; exact h2 q), fun y g h1 h2 => r2.up y g (List.mem_cons_of_mem _ h1) h2, ⟨rfl, rfl, List.prefix_append _ _, List.prefix_refl _, Int.le_refl _⟩, fun x f a b => by rw [r2.ln] at b; omega⟩
    by_cases hu : 0 ≤ u
    · have hub := r3 hu _ hk1
      have hul := r2.cn.ups hk1
      have e1 : u16 u = u := u16_id (by dsimp only at hub hul; omega)
      have hg := emit_go hI1 [(b, u16 u)] (by simp; omega)
      refine ⟨_, _, (b, u), ((go_bindV (G := fun u s => if 0 ≤ u then emitM k [(b, u16 u)] s else bind2 (ctextM k name s) fun i s => emitM k [(c, i)] s) r1 hS1 (hg.congr (fun s hs => if_pos hu))).congr (fun s hs => by rw [hfirst s hs, if_neg (by omega)])).mono (by simp), rfl, rfl, by dsimp only; rw [e1], by dsimp only at hub hul ⊢; omega, .inr (.inl ⟨rfl, hub⟩), fun P E pc hP hE hi => .inr ⟨by show slotAt f.locals name f.locals.length < 0; omega, .inl ⟨u, (r5 E hE).2 hu P (hP.set hk1 rfl rfl), hi⟩⟩⟩
    · obtain ⟨L2, f2, i, q1, q2, q3, q4, q5, q6, q7, q8⟩ := ctext_go hI1 hn.2 hks (by omega)
      have hg := emit_go q2 [(c, i)] (by simp; omega)
      refine ⟨_, _, (c, i), ((go_bindV (G := fun u s => if 0 ≤ u then emitM k [(b, u16 u)] s else bind2 (ctextM k name s) fun i s => emitM k [(c, i)] s) r1 hS1 ((go_bindV (G := fun i s => emitM k [(c, i)] s) q1 q3 hg).congr (fun s hs => if_neg hu))).congr (fun s hs => by rw [hfirst s hs, if_neg (by omega)])).mono (by simp), q4, q5, by dsimp only; rw [q6], q7, .inr (.inr ⟨rfl, _, q8, rfl⟩), fun P E pc hP hE hi => .inr ⟨by show slotAt f.locals name f.locals.length < 0; omega, .inr ⟨(r5 E hE).1 (by omega), i, hi, ?_⟩⟩⟩
      obtain ⟨h', w1, w2, _⟩ := hP.set q2.at_ rfl rfl k f2 q2.at_
      exact ⟨q7.1, h', w1, pfx_at w2 q8⟩
  · have hjl := lt_of hj
    have e1 : u16 (slotAt f.locals name f.locals.length) = j := by rw [e]; exact u16_id (by omega)
    have hg := emit_go hI [(a, u16 (slotAt f.locals name f.locals.length))] (by simp; omega)
    exact ⟨_, _, (a, (j : Int)), (hg.congr (fun s hs => by rw [hfirst s hs, if_pos (by omega)])).mono (by simp), rfl, rfl, by dsimp only; rw [e1], by dsimp only; omega, .inl ⟨rfl, name, hj, hn.1⟩, fun P E pc hP hE hi => .inl ⟨by show 0 ≤ slotAt f.locals name f.locals.length; omega, by rw [hi]; show _ = some (a, slotAt f.locals name f.locals.length); rw [e]⟩⟩
/-- z tells of each local what it is: where it bears a name it is a variable. -/
def Zl (z : List Nat) (l : List (List UInt8)) : Prop := z.length = l.length ∧ ∀ (s : Nat) nm, l[s]? = some nm → nm ≠ [] → z[s]? = some 0
/-! The laws. -/
def ExL (ns : List Nd) (q lo hi : Nat) (r : Int) (n n' : Nat) : Prop := ∀ (m k B : Nat) (ch : List Nat) (L : List Fs) (f : Fs) (z : List Nat), hi + 1 ≤ m → n' ≤ 12 → B + 100 * (hi - lo) ≤ 40000 → Inv ns k ch L f n B → Zl z f.locals →
  ∃ (L' : List Fs) (f' : Fs) (c : List In), Go ns k ch ((recC ns m).expr k r) L f L' f' n' (B + (100 * (hi - lo) - 10)) ∧ f'.locals = f.locals ∧ f'.loops = f.loops ∧ f'.code = f.code ++ c ∧ (∀ st : List Bool, Cd L' f' L.length [] (st.length + q) f.code.length c ⟨st, z⟩ ⟨st ++ [false], z⟩) ∧ ShE ns k ch L f L' c r
def ClL (ns : List Nd) (q lo hi : Nat) (r : Int) (n n' : Nat) : Prop := ∀ (m k B : Nat) (ch : List Nat) (L : List Fs) (f : Fs) (z : List Nat), hi ≤ m → n' ≤ 12 → B + 100 * (hi - lo) ≤ 40000 → Inv ns k ch L f n B → Zl z f.locals →
  ∃ (L' : List Fs) (f' : Fs) (c : List In), Go ns k ch (callM ns (recC ns m) k r) L f L' f' n' (B + (100 * (hi - lo) - 50)) ∧ f'.locals = f.locals ∧ f'.loops = f.loops ∧ f'.code = f.code ++ c ∧ (∀ st : List Bool, Cd L' f' L.length [] (st.length + q) f.code.length c ⟨st, z⟩ ⟨st ++ [false, false], z⟩) ∧ ShC ns k ch L f L' c r
def ArL (ns : List Nd) (q len lo hi : Nat) (r : Int) (n n' : Nat) : Prop := ∀ (m k B : Nat) (ch : List Nat) (L : List Fs) (f : Fs) (z : List Nat) (e : Nat) (j : Int), hi + 1 ≤ m → hi - lo + 1 ≤ e → n' ≤ 12 → B + 100 * (hi - lo) ≤ 40000 → Inv ns k ch L f n B → Zl z f.locals →
  ∃ (L' : List Fs) (f' : Fs) (c : List In), RunV (eachM ns (aliveC k) ((recC ns m).expr k) e r j) L (j + len) L' ∧ Inv ns k ch L' f' n' (B + 100 * (hi - lo)) ∧ Stp k ch L f L' f' ∧ f'.locals = f.locals ∧ f'.loops = f.loops ∧ f'.code = f.code ++ c ∧ (∀ (st : List Bool) (D : Nat), st.length + len + q ≤ D + 1 → Cd L' f' L.length [] D f.code.length c ⟨st, z⟩ ⟨st ++ List.replicate len false, z⟩) ∧ ShA ns k ch L f L' c r len
def TbL (ns : List Nd) (q len lo hi : Nat) (r : Int) (n n' : Nat) : Prop := ∀ (m k B : Nat) (ch : List Nat) (L : List Fs) (f : Fs) (z : List Nat) (e : Nat) (j i0 : Int), hi + 1 ≤ m → hi - lo + 1 ≤ e → n' ≤ 12 → B + 100 * (hi - lo) ≤ 40000 → Inv ns k ch L f n B → Zl z f.locals →
  ∃ (L' : List Fs) (f' : Fs) (c : List In) (i1 j1 : Int), (∀ s, Rep s L → ∃ s', eachM ns (fun s : Int × CS => aliveC k s.2) (itemM (recC ns m) k) e r j (i0, s) = some (j1, (i1, s')) ∧ Rep s' L') ∧ Inv ns k ch L' f' n' (B + 100 * (hi - lo)) ∧ Stp k ch L f L' f' ∧ f'.locals = f.locals ∧ f'.loops = f.loops ∧ f'.code = f.code ++ c ∧ (∀ (st : List Bool), Cd L' f' L.length [] (st.length + 1 + q) f.code.length c ⟨st ++ [false], z⟩ ⟨st ++ [false], z⟩) ∧ (0 ≤ i0 → i0 + (hi - lo : Nat) ≤ 65535 → ShT ns k ch L f L' c r i0)
end Go.Wl
