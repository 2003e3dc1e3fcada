/- Plain: the compiler: expressions. -/
import Derived.Test.Qxb6500573aGreatDoorQG
namespace Go.Wl
open Go Go.Sl Go.Proofs
set_option linter.unusedVariables false
variable {ns : List Nd}
theorem patch_at (a : List In) (x y : In) (b : List In) : (a ++ x :: b).set a.length y = a ++ y :: b := by simp
theorem getD_at (a : List In) (x : In) (b : List In) : (a ++ x :: b).getD a.length (0, 0) = x := by simp [List.getD_eq_getElem?_getD]
theorem z_le {k : Nat} {ch : List Nat} {L : List Fs} {f f' : Fs} {n B : Nat} {z : List Nat} {g : Pg} {p : Pr} (hI : Inv ns k ch L f n B) (hz : Zl z f.locals) (hF : EnvF g p f') (hx : Fx f f') : z.length ≤ p.nslots.toNat := by
  have h1 := hz.1
  have h2 := hI.al
  have h3 := (hF.mono hx).sl
  omega
theorem bB {st : List Bool} {z : List Nat} {B N : Nat} (h1 : st.length ≤ B) (h2 : z.length ≤ N) : (⟨st, z⟩ : Ty).st.length ≤ B ∧ (⟨st, z⟩ : Ty).z.length ≤ N := ⟨h1, h2⟩
theorem in0 {op : Int} : 0 ≤ ((op, 0) : In).2 ∧ ((op, 0) : In).2 ≤ 65535 := ⟨Int.le_refl _, by dsimp only; omega⟩
theorem bind1_assoc {α β γ : Type} (x : Option α) (F : α → Option β) (G : β → Option γ) : bind1 (bind1 x F) G = bind1 x fun a => bind1 (F a) G := by cases x <;> rfl
theorem le_true (st : List Bool) (z : List Nat) : (⟨st ++ [true], z⟩ : Ty).le ⟨st ++ [false], z⟩ := by
  refine ⟨⟨by simp, fun j hj => ?_⟩, zle.refl _⟩
  dsimp only at hj ⊢
  by_cases hjl : j < st.length
  · rw [List.getElem?_append_left hjl] at hj ⊢; exact hj
  · rw [List.getElem?_append_right (by omega)] at hj
    have hl := lt_of hj
    rw [List.length_singleton] at hl
    rw [show j - st.length = 0 from by omega] at hj
    cases hj
/-- The node is read. -/
theorem expr_node {ns : List Nd} {hi : Nat} {d : Nd} (hd : ns[hi]? = some d) {k : Nat} {L : List Fs} {f : Fs} (hk : L[k]? = some f) (rc : CRec) {s : CS} (hs : Rep s L) {x : Option CS} (h : bind1 (some f) (fun _ => bind1 (some d) fun d => 
  if d.k = 0 then emitM k [(2, 0)] s
  else if d.k = 12 then emitM k [(2, 0)] s
  else if d.k = 13 then emitM k [(3, 0)] s
  else if d.k = 14 then emitM k [(4, 0)] s
  else if d.k = 15 then bind2 (cnumM k d.n s) fun i s => emitM k [(1, i)] s
  else if d.k = 16 then bind2 (ctextM k d.s s) fun i s => emitM k [(1, i)] s
  else if d.k = 17 then variableM k d.s 5 7 9 s
  else if d.k = 18 then bind1 (rc.expr k d.a s) fun s => bind1 (rc.expr k d.b s) fun s => emitM k [(11, 0)] s
  else if d.k = 19 then bind1 (callM ns rc k hi s) fun s => emitM k [(25, 0)] s
  else if d.k = 20 then functionM ns rc k d s
  else if d.k = 21 then bind1 (emitM k [(14, 0)] s) fun s => bind2 (eachM ns (fun s : Int × CS => aliveC k s.2) (itemM rc k) (ns.length + 1) d.a 0 (0, s)) fun _ s => some s.2
  else if d.k = 22 then bind1 (rc.expr k d.a s) fun s => bind1 (rc.expr k d.b s) fun s => emitM k [binaryM d.n] s
  else if d.k = 23 then bind1 (rc.expr k d.a s) fun s => emitM k [unaryM d.n] s
  else if d.k = 24 then bind1 (rc.expr k d.a s) fun s => shortM rc k 23 d.b s
  else if d.k = 25 then bind1 (rc.expr k d.a s) fun s => shortM rc k 24 d.b s
  else some s) = x) : exprM ns rc k hi s = x := by
  unfold exprM
  rw [hs.get hk, nd_nat, hd]
  exact h
section
variable {ns : List Nd}
theorem ex_lit {q lo hi n : Nat} {a k nx : Int} (hd : ns[hi]? = some ⟨k, 0, 0, 0, nx, 0, [], a⟩) (hl : lo < hi) (hq : 1 ≤ q) (hk : k = 12 ∨ k = 13 ∨ k = 14) : ExL ns q lo hi hi n n := by
  intro m k0 B ch L f z hm hn hB hI hz
  obtain ⟨m, rfl⟩ : ∃ j, m = j + 1 := ⟨m - 1, by omega⟩
  obtain ⟨op, ho, he, hsh⟩ : ∃ op : Int, (op = 2 ∨ op = 3 ∨ op = 4) ∧ (∀ s, Rep s L → (recC ns (m + 1)).expr k0 hi s = emitM k0 [(op, 0)] s) ∧ ∀ P E m, insP P k0 f.code.length = some (op, 0) → (recS ns P (m + 1)).expr k0 E f.locals f.code.length hi (f.code.length + 1) := by
    rcases hk with rfl | rfl | rfl
    · exact ⟨2, by omega, fun s hs => expr_node hd hI.at_ _ hs rfl, fun P E m h => ⟨_, (nd_nat ns hi).trans hd, by ((try dsimp only); (repeat rw [if_neg (by decide)]); rw [if_pos rfl]); exact ⟨h, rfl⟩⟩⟩
    · exact ⟨3, by omega, fun s hs => expr_node hd hI.at_ _ hs rfl, fun P E m h => ⟨_, (nd_nat ns hi).trans hd, by ((try dsimp only); (repeat rw [if_neg (by decide)]); rw [if_pos rfl]); exact ⟨h, rfl⟩⟩⟩
    · exact ⟨4, by omega, fun s hs => expr_node hd hI.at_ _ hs rfl, fun P E m h => ⟨_, (nd_nat ns hi).trans hd, by ((try dsimp only); (repeat rw [if_neg (by decide)]); rw [if_pos rfl]); exact ⟨h, rfl⟩⟩⟩
  refine ⟨_, _, [(op, 0)], ((emit_go hI [(op, 0)] (by simp; omega)).congr he).mono (by simp; omega), rfl, rfl, rfl, fun st g p hF hC => ?_, fun P E hF hE hA => ⟨1, fun m hm => ?_⟩⟩
  rotate_left
  · obtain ⟨j, rfl⟩ : ∃ j, m = j + 1 := ⟨m - 1, by omega⟩
    exact hsh P E j hA.one
  have hzl := z_le hI hz hF ⟨rfl, rfl, List.prefix_refl _, List.prefix_refl _, Int.le_refl _⟩
  exact Ck.one (bB (by omega) hzl) in0 fun T hT he hL hn => .lit ho hT ⟨by omega, he⟩
theorem ex_num {q lo hi n : Nat} {a b nx : Int} (hd : ns[hi]? = some ⟨15, 0, 0, 0, nx, b, [], a⟩) (hl : lo < hi) (hq : 1 ≤ q) (hb : numOk b) : ExL ns q lo hi hi n n := by
  intro m k0 B ch L f z hm hn hB hI hz
  obtain ⟨m, rfl⟩ : ∃ j, m = j + 1 := ⟨m - 1, by omega⟩
  obtain ⟨L1, f1, i, q1, q2, q3, q4, q5, q6, q7, q8⟩ := cnum_go hI hb (.inr ⟨hi, _, hd, .inl rfl, rfl⟩) (by omega)
  have hg := emit_go q2 [(1, i)] (by simp; omega)
  refine ⟨_, _, [(1, i)], ((go_bindV (G := fun i s => emitM k0 [(1, i)] s) q1 q3 hg).congr fun s hs => expr_node hd hI.at_ _ hs rfl).mono (by simp; omega), q4, q5, by dsimp only; rw [q6], fun st g p hF hC => ?_, fun P E hF hE hA => ⟨1, fun m hm => ?_⟩⟩
  rotate_left
  · obtain ⟨j, rfl⟩ : ∃ j, m = j + 1 := ⟨m - 1, by omega⟩
    obtain ⟨h', w1, w2, _⟩ := (ExtP.set hF.ext q2.at_ rfl rfl) k0 f1 q2.at_
    exact ⟨_, (nd_nat ns hi).trans hd, by ((try dsimp only); (repeat rw [if_neg (by decide)]); rw [if_pos rfl]); exact ⟨i, hA.one, ⟨q7.1, h', w1, pfx_at w2 q8⟩, rfl⟩⟩
  have hzl := z_le hI hz hF (q3.fx.trans hg.stp.fx)
  have h1 := (hF.ks i.toNat _ q8).1
  exact Ck.one (bB (by omega) hzl) q7 fun T hT he hL hn => .kon hT (by dsimp only; omega) ⟨by omega, he⟩
theorem ex_str {q lo hi n : Nat} {a nx : Int} {s : List UInt8} (hd : ns[hi]? = some ⟨16, 0, 0, 0, nx, 0, s, a⟩) (hl : lo < hi) (hq : 1 ≤ q) (hs : s.length ≤ 40) : ExL ns q lo hi hi n n := by
  intro m k0 B ch L f z hm hn hB hI hz
  obtain ⟨m, rfl⟩ : ∃ j, m = j + 1 := ⟨m - 1, by omega⟩
  obtain ⟨L1, f1, i, q1, q2, q3, q4, q5, q6, q7, q8⟩ := ctext_go hI hs (.inr ⟨hi, _, hd, .inr (.inl rfl), rfl⟩) (by omega)
  have hg := emit_go q2 [(1, i)] (by simp; omega)
  refine ⟨_, _, [(1, i)], ((go_bindV (G := fun i s => emitM k0 [(1, i)] s) q1 q3 hg).congr fun s hs => expr_node hd hI.at_ _ hs rfl).mono (by simp; omega), q4, q5, by dsimp only; rw [q6], fun st g p hF hC => ?_, fun P E hF hE hA => ⟨1, fun m hm => ?_⟩⟩
  rotate_left
  · obtain ⟨j, rfl⟩ : ∃ j, m = j + 1 := ⟨m - 1, by omega⟩
    obtain ⟨h', w1, w2, _⟩ := (ExtP.set hF.ext q2.at_ rfl rfl) k0 f1 q2.at_
    exact ⟨_, (nd_nat ns hi).trans hd, by ((try dsimp only); (repeat rw [if_neg (by decide)]); rw [if_pos rfl]); exact ⟨i, hA.one, ⟨q7.1, h', w1, pfx_at w2 q8⟩, rfl⟩⟩
  have hzl := z_le hI hz hF (q3.fx.trans hg.stp.fx)
  have h1 := (hF.ks i.toNat _ q8).1
  exact Ck.one (bB (by omega) hzl) q7 fun T hT he hL hn => .kon hT (by dsimp only; omega) ⟨by omega, he⟩
theorem ex_name {q lo hi n : Nat} {a nx : Int} {s : List UInt8} (hd : ns[hi]? = some ⟨17, 0, 0, 0, nx, 0, s, a⟩) (hl : lo < hi) (hq : 1 ≤ q) (hs : nameOk s) : ExL ns q lo hi hi n n := by
  intro m k0 B ch L f z hm hn hB hI hz
  obtain ⟨m, rfl⟩ : ∃ j, m = j + 1 := ⟨m - 1, by omega⟩
  obtain ⟨L1, f1, i, q1, q2, q3, q4, q5, q6, q7⟩ := variable_go hI hn hs (.inr ⟨hi, _, hd, .inr (.inr rfl), rfl⟩) 5 7 9 (by omega)
  refine ⟨L1, f1, [i], (q1.congr fun s hs => expr_node hd hI.at_ _ hs rfl).mono (by omega), q2, q3, q4, fun st g p hF hC => ?_, fun P E hF hE hA => ⟨1, fun m hm => ?_⟩⟩
  rotate_left
  · obtain ⟨j, rfl⟩ : ∃ j, m = j + 1 := ⟨m - 1, by omega⟩
    exact ⟨_, (nd_nat ns hi).trans hd, by ((try dsimp only); (repeat rw [if_neg (by decide)]); rw [if_pos rfl]); exact ⟨q7 P E _ hF.ext hE hA.one, rfl⟩⟩
  have hzl := z_le hI hz hF q1.stp.fx
  refine Ck.one (bB (by omega) hzl) q5 fun T hT he hL hn => ?_
  obtain ⟨op, x⟩ := i
  have hal := q1.inv.al
  rcases q6 with ⟨e, nm, h1, h2⟩ | ⟨e, h1⟩ | ⟨e, v, h1, h2⟩
  · dsimp only at e h1 q5 ⊢
    subst e
    have := lt_of h1
    exact .getL (b := false) hT ⟨q5.1, by have := hF.sl; omega⟩ (fun q => by cases q) ⟨by omega, he⟩
  · dsimp only at e h1 q5 ⊢
    subst e
    exact .getU hT ⟨q5.1, by have := hF.up; omega⟩ ⟨by omega, he⟩
  · dsimp only at e h1 q5 ⊢
    subst e
    have h3 := hF.ks _ _ h1
    exact .getG hT ⟨q5.1, by omega⟩ ⟨by have := h3.2; rw [show ((x.toNat : Nat) : Int) = x from by omega] at this; exact this, h2⟩ ⟨by omega, he⟩
/-- Two expressions, one behind the other. -/
theorem two_ex {q1 q2 lo m1 m2 n n1 n2 : Nat} (hx : ExL ns q1 lo m1 m1 n n1) (hy : ExL ns q2 m1 m2 m2 n1 n2) (hl1 : lo < m1) (hl2 : m1 < m2) (hn1 : n1 ≤ n2) {m k B : Nat} {ch : List Nat} {L : List Fs} {f : Fs} {z : List Nat} (hm : m2 + 1 ≤ m) (hn : n2 ≤ 12) (hB : B + 100 * (m2 - lo) ≤ 40000) (hI : Inv ns k ch L f n B) (hz : Zl z f.locals) :
    ∃ (L1 : List Fs) (f1 : Fs) (B1 : Nat) (L' : List Fs) (f' : Fs) (c : List In), Go ns k ch ((recC ns m).expr k m1) L f L1 f1 n1 B1 ∧ Go ns k ch ((recC ns m).expr k m2) L1 f1 L' f' n2 (B + (100 * (m2 - lo) - 20)) ∧ f'.locals = f.locals ∧ f'.loops = f.loops ∧ f'.code = f.code ++ c ∧ (∀ (st : List Bool) (D : Nat), st.length + q1 ≤ D → st.length + 1 + q2 ≤ D → Cd L' f' L.length [] D f.code.length c ⟨st, z⟩ ⟨st ++ [false, false], z⟩) ∧ Sh2 ns k ch L f L' c m1 m2 := by
  obtain ⟨L1, f1, c1, a1, a2, a3, a4, a5, a6⟩ := hx m k B ch L f z (by omega) (by omega) (by omega) hI hz
  obtain ⟨L2, f2, c2, b1, b2, b3, b4, b5, b6⟩ := hy m k _ ch L1 f1 z (by omega) hn (by omega) a1.inv (by rw [a2]; exact hz)
  refine ⟨L1, f1, _, L2, f2, c1 ++ c2, a1, b1.mono (by omega), b2.trans a2, b3.trans a3, by rw [b4, a4, List.append_assoc], fun st D h1 h2 g p hF hC => ?_, fun P E hF hE hA => ?_⟩
  rotate_left
  · have hc1 : f1.code.length = f.code.length + c1.length := by rw [a4, List.length_append]
    have t1 := a6 P E (hF.back b1.stp a1.inv.at_ b1.inv.at_ a1.stp.kl.1) hE hA.left
    have t2 := b6 P E (hF.lo a1.stp.ln) (a1.stp.sco hE) (hA.rightE hc1)
    rw [a2, hc1, Nat.add_assoc] at t2
    exact (t1.and t2).of fun m h => ⟨_, h.1, by rw [List.length_append]; exact h.2⟩
  have hk := a1.stp.kl.1
  have k1 := (a5 st).up b1.stp hk (Nat.le_refl _) g p hF hC
  have k2 := b5 (st ++ [false]) g p hF (hC.sub a1.stp.ln (Nat.le_refl _) fun _ _ _ => rfl)
  rw [show f1.code.length = f.code.length + c1.length from by rw [a4, List.length_append], show st ++ [false] ++ [false] = st ++ [false, false] from List.append_assoc _ _ _] at k2
  exact (k1.weak (fun _ h => h) h1).app (k2.weak (fun _ h => h) (by simp; omega))
theorem ex_index {q q1 q2 lo m1 m2 hi n n1 n2 : Nat} {a nx : Int} (hd : ns[hi]? = some ⟨18, m1, m2, 0, nx, 0, [], a⟩) (hx : ExL ns q1 lo m1 m1 n n1) (hy : ExL ns q2 m1 m2 m2 n1 n2) (hl1 : lo < m1) (hl2 : m1 < m2) (hn1 : n1 ≤ n2) (hl : m2 < hi) (h1 : q1 ≤ q) (h2 : q2 + 1 ≤ q) (h3 : 1 ≤ q2) : ExL ns q lo hi hi n n2 := by
  intro m k0 B ch L f z hm hn hB hI hz
  obtain ⟨m, rfl⟩ : ∃ j, m = j + 1 := ⟨m - 1, by omega⟩
  obtain ⟨L0, f0, B0, L1, f1, c1, a0, a1, a2, a3, a4, a5, a6⟩ := two_ex hx hy hl1 hl2 hn1 (m := m) (by omega) hn (by omega) hI hz
  have hg := emit_go a1.inv [(11, 0)] (by simp; omega)
  refine ⟨_, _, c1 ++ [(11, 0)], ((Go.trans a0 (Go.trans a1 hg)).congr fun s hs => expr_node hd hI.at_ _ hs rfl).mono (by simp; omega), a2, a3, by dsimp only; rw [a4, List.append_assoc], fun st g p hF hC => ?_, fun P E hF hE hA => ?_⟩
  rotate_left
  · refine (a6 P E (hF.back hg.stp a1.inv.at_ hg.inv.at_ a0.stp.kl.1) hE hA.left).up fun m h => ?_
    obtain ⟨p1, w1, w2⟩ := h
    exact ⟨_, (nd_nat ns hi).trans hd, by ((try dsimp only); (repeat rw [if_neg (by decide)]); rw [if_pos rfl]); exact ⟨p1, _, w1, w2, hA.right.one, by rw [List.length_append]; rfl⟩⟩
  · have hzl := z_le hI hz hF ((a0.stp.fx.trans a1.stp.fx).trans hg.stp.fx)
    have k1 := (a5 st (st.length + q) (by omega) (by omega)).up hg.stp a0.stp.kl.1 (Nat.le_refl _) g p hF hC
    refine k1.app (Ck.one (bB (by simp; omega) hzl) in0 fun T hT he hL hn => .getT hT ⟨by omega, he⟩)
theorem ex_bin {q q1 q2 lo m1 m2 hi n n1 n2 : Nat} {a o nx : Int} (hd : ns[hi]? = some ⟨22, m1, m2, 0, nx, o, [], a⟩) (ho : (1 ≤ o ∧ o ≤ 6) ∨ (11 ≤ o ∧ o ≤ 16) ∨ o = 20) (hx : ExL ns q1 lo m1 m1 n n1) (hy : ExL ns q2 m1 m2 m2 n1 n2) (hl1 : lo < m1) (hl2 : m1 < m2) (hn1 : n1 ≤ n2) (hl : m2 < hi) (h1 : q1 ≤ q) (h2 : q2 + 1 ≤ q) (h3 : 1 ≤ q2) : ExL ns q lo hi hi n n2 := by
  intro m k0 B ch L f z hm hn hB hI hz
  obtain ⟨m, rfl⟩ : ∃ j, m = j + 1 := ⟨m - 1, by omega⟩
  obtain ⟨L0, f0, B0, L1, f1, c1, a0, a1, a2, a3, a4, a5, a6⟩ := two_ex hx hy hl1 hl2 hn1 (m := m) (by omega) hn (by omega) hI hz
  have hg := emit_go a1.inv [binaryM o] (by simp; omega)
  refine ⟨_, _, c1 ++ [binaryM o], ((Go.trans a0 (Go.trans a1 hg)).congr fun s hs => expr_node hd hI.at_ _ hs rfl).mono (by simp; omega), a2, a3, by dsimp only; rw [a4, List.append_assoc], fun st g p hF hC => ?_, fun P E hF hE hA => ?_⟩
  rotate_left
  · refine (a6 P E (hF.back hg.stp a1.inv.at_ hg.inv.at_ a0.stp.kl.1) hE hA.left).up fun m h => ?_
    obtain ⟨p1, w1, w2⟩ := h
    exact ⟨_, (nd_nat ns hi).trans hd, by ((try dsimp only); (repeat rw [if_neg (by decide)]); rw [if_pos rfl]); exact ⟨p1, _, w1, w2, hA.right.one, by rw [List.length_append]; rfl⟩⟩
  · have hzl := z_le hI hz hF ((a0.stp.fx.trans a1.stp.fx).trans hg.stp.fx)
    have k1 := (a5 st (st.length + q) (by omega) (by omega)).up hg.stp a0.stp.kl.1 (Nat.le_refl _) g p hF hC
    refine k1.app ?_
    rcases ho with ho | ho | ho
    · have e : binaryM o = (15, o) := by
        unfold binaryM
        rw [if_neg (by omega), if_neg (by omega), u16_id (by omega)]
      rw [e]
      refine Ck.one (bB (by simp; omega) hzl) (by dsimp only; omega) fun T hT he hL hn => .arith hT ho ⟨by omega, ?_⟩
      exact Ty.le_trans (le_true _ _) he
    · have e : binaryM o = (16, o - 10) := by
        unfold binaryM
        rw [if_neg (by omega), if_pos (by omega)]
        obtain ⟨j, hj⟩ : ∃ j : Nat, o - 10 = j := ⟨(o - 10).toNat, by omega⟩
        rw [hj, u64n (by omega), u16_id (by omega)]
      rw [e]
      exact Ck.one (bB (by simp; omega) hzl) (by dsimp only; omega) fun T hT he hL hn => .cmp hT (by dsimp only; omega) ⟨by omega, he⟩
    · subst ho
      exact Ck.one (bB (by simp; omega) hzl) in0 fun T hT he hL hn => .cat hT ⟨by omega, he⟩
theorem ex_un {q q1 lo m1 hi n n1 : Nat} {a o nx : Int} (hd : ns[hi]? = some ⟨23, m1, 0, 0, nx, o, [], a⟩) (ho : o = 1 ∨ o = 2 ∨ o = 3) (hx : ExL ns q1 lo m1 m1 n n1) (hl1 : lo < m1) (hl : m1 < hi) (h1 : q1 ≤ q) (h3 : 1 ≤ q1) : ExL ns q lo hi hi n n1 := by
  intro m k0 B ch L f z hm hn hB hI hz
  obtain ⟨m, rfl⟩ : ∃ j, m = j + 1 := ⟨m - 1, by omega⟩
  obtain ⟨L1, f1, c1, a1, a2, a3, a4, a5, a6⟩ := hx m k0 B ch L f z (by omega) hn (by omega) hI hz
  have hg := emit_go a1.inv [unaryM o] (by simp; omega)
  refine ⟨_, _, c1 ++ [unaryM o], ((Go.trans a1 hg).congr fun s hs => expr_node hd hI.at_ _ hs rfl).mono (by simp; omega), a2, a3, by dsimp only; rw [a4, List.append_assoc], fun st g p hF hC => ?_, fun P E hF hE hA => ?_⟩
  rotate_left
  · refine (a6 P E (hF.back hg.stp a1.inv.at_ hg.inv.at_ a1.stp.kl.1) hE hA.left).up fun m h => ?_
    exact ⟨_, (nd_nat ns hi).trans hd, by ((try dsimp only); (repeat rw [if_neg (by decide)]); rw [if_pos rfl]); exact ⟨_, h, hA.right.one, by rw [List.length_append]; rfl⟩⟩
  have hzl := z_le hI hz hF (a1.stp.fx.trans hg.stp.fx)
  have k1 := (a5 st).up hg.stp a1.stp.kl.1 (Nat.le_refl _) g p hF hC
  refine (k1.weak (fun _ h => h) (by omega)).app ?_
  rcases ho with rfl | rfl | rfl
  · exact Ck.one (bB (by simp; omega) hzl) in0 fun T hT he hL hn => .una (.inr (.inl rfl)) hT ⟨by omega, he⟩
  · exact Ck.one (bB (by simp; omega) hzl) in0 fun T hT he hL hn => .una (.inl rfl) hT ⟨by omega, he⟩
  · exact Ck.one (bB (by simp; omega) hzl) in0 fun T hT he hL hn => .una (.inr (.inr rfl)) hT ⟨by omega, he⟩
theorem ex_log {q q1 q2 lo m1 m2 hi n n1 n2 : Nat} {a kk o nx : Int} (hd : ns[hi]? = some ⟨kk, m1, m2, 0, nx, o, [], a⟩) (hk : kk = 24 ∨ kk = 25) (hx : ExL ns q1 lo m1 m1 n n1) (hy : ExL ns q2 m1 m2 m2 n1 n2) (hl1 : lo < m1) (hl2 : m1 < m2) (hn1 : n1 ≤ n2) (hl : m2 < hi) (h1 : q1 ≤ q) (h2 : q2 ≤ q) (h3 : 1 ≤ q1) : ExL ns q lo hi hi n n2 := by
  intro m k0 B ch L f z hm hn hB hI hz
  obtain ⟨m, rfl⟩ : ∃ j, m = j + 1 := ⟨m - 1, by omega⟩
  obtain ⟨op, ho, he, hsh⟩ : ∃ op : Int, (op = 23 ∨ op = 24) ∧ (∀ s, Rep s L → (recC ns (m + 1)).expr k0 hi s = bind1 ((recC ns m).expr k0 m1 s) fun s => shortM (recC ns m) k0 op m2 s) ∧ ∀ P E m p1 pc', (recS ns P m).expr k0 E f.locals f.code.length m1 p1 → insP P k0 p1 = some (op, ((pc' : Nat) : Int)) → (recS ns P m).expr k0 E f.locals (p1 + 1) m2 pc' → (recS ns P (m + 1)).expr k0 E f.locals f.code.length hi pc' := by
    rcases hk with rfl | rfl
    · exact ⟨23, .inl rfl, fun s hs => expr_node hd hI.at_ _ hs rfl, fun P E m p1 pc' w1 w2 w3 => ⟨_, (nd_nat ns hi).trans hd, by ((try dsimp only); (repeat rw [if_neg (by decide)]); rw [if_pos rfl]); exact ⟨p1, w1, w2, w3⟩⟩⟩
    · exact ⟨24, .inr rfl, fun s hs => expr_node hd hI.at_ _ hs rfl, fun P E m p1 pc' w1 w2 w3 => ⟨_, (nd_nat ns hi).trans hd, by ((try dsimp only); (repeat rw [if_neg (by decide)]); rw [if_pos rfl]); exact ⟨p1, w1, w2, w3⟩⟩⟩
  obtain ⟨L1, f1, c1, a1, a2, a3, a4, a5, a6⟩ := hx m k0 B ch L f z (by omega) (by omega) (by omega) hI hz
  obtain ⟨L2, r1, r2, r3⟩ := jump_go a1.inv op (by omega)
  obtain ⟨L3, f3, c3, b1, b2, b3, b4, b5, b6⟩ := hy m k0 _ ch L2 _ z (by omega) hn (by omega) r2 (by dsimp only; rw [a2]; exact hz)
  dsimp only at b2 b3 b4 b5
  rw [List.append_assoc] at b4
  have hlen : f3.code.length = f1.code.length + 1 + c3.length := by rw [b4]; simp; omega
  have hp := patch_go b1.inv f1.code.length (by omega)
  have hcode := b1.inv.code
  rw [u16_id (x := (f3.code.length : Int)) (by omega)] at hp
  generalize hE' : f3.code.length = E' at hp hlen hcode
  rw [b4] at hp
  rw [show ∀ (x : In) (l : List In), [x] ++ l = x :: l from fun _ _ => rfl, patch_at, getD_at] at hp
  refine ⟨_, _, c1 ++ ((op, (E' : Int)) :: c3), ((Go.trans a1 (go_bindV (G := fun a s => bind1 ((recC ns m).expr k0 m2 s) fun s => patchM k0 a s) r1 r3 (Go.trans b1 hp))).congr fun s hs => he s hs).mono (by omega), b2.trans a2, b3.trans a3, by dsimp only; rw [a4, List.append_assoc], fun st g p hF hC => ?_, fun P E hF hE hA => ?_⟩
  rotate_left
  · have hc1 : f1.code.length = f.code.length + c1.length := by rw [a4, List.length_append]
    have F3 := hF.back hp.stp b1.inv.at_ hp.inv.at_ a1.stp.kl.1
    have F2 := F3.back b1.stp r2.at_ b1.inv.at_ a1.stp.kl.1
    have F1 := F2.back r3 a1.inv.at_ r2.at_ a1.stp.kl.1
    have t1 := a6 P E F1 hE hA.left
    have hr : LiesAt P k0 (f.code.length + c1.length) ([(op, (E' : Int))] ++ c3) := hA.right
    have t2 := b6 P E (F3.lo (by have := a1.stp.ln; have := r3.ln; omega)) (r3.sco (a1.stp.sco hE)) (hr.rightE (by dsimp only; rw [List.length_append, hc1]; rfl))
    dsimp only at t2
    rw [a2, List.length_append, hc1] at t2
    have e9 : f.code.length + (c1 ++ (op, (E' : Int)) :: c3).length = E' := by rw [hlen, a4]; simp; omega
    rw [e9]
    refine (t1.and t2).up fun m h => hsh P E m _ _ h.1 hr.left.one ?_
    have h2 := h.2
    rw [show f.code.length + c1.length + [(op, (65535 : Int))].length + c3.length = E' from by rw [hlen, a4]; simp] at h2
    exact h2
  have hfx := (r3.fx.trans b1.stp.fx).trans hp.stp.fx
  have hzl := z_le hI hz hF (a1.stp.fx.trans hfx)
  have hkl := a1.stp.kl.1
  have hln1 := a1.stp.ln
  have hln2 := r3.ln
  have k1 := (a5 st).up ((r3.trans b1.stp).trans hp.stp) hkl (Nat.le_refl _) g p hF hC
  have k2 := (b5 st).up (a' := L.length) hp.stp (by omega) (by omega) g p hF hC
  refine Ck.resEnd ?_
  refine (k1.weak (fun _ h => by cases h) (by omega)).app ?_
  refine Ck.app (l := [(op, (E' : Int))]) (t1 := ⟨st, z⟩) (Ck.one (bB (by simp; omega) hzl) (by dsimp only; omega) fun T hT he hL hn => ?_) ?_
  · obtain ⟨l1, l2⟩ := hL _ List.mem_cons_self
    have hEE : f.code.length + (c1 ++ (op, (E' : Int)) :: c3).length = E' := by rw [hlen, a4]; simp; omega
    dsimp only at l1 l2 ⊢
    rw [hEE] at l1 l2
    exact .jk ho hT ⟨by omega, by rw [Int.toNat_natCast, hT]; exact l2⟩ ⟨by omega, he⟩
  · rw [List.length_append, a4, List.length_append] at k2
    exact k2.weak (fun _ h => by cases h) (by omega)
end
end Go.Wl
