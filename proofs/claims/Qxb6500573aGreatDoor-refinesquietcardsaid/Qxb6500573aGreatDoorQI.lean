/- Plain: the compiler: calls, tables. -/
import Derived.Test.Qxb6500573aGreatDoorQH
namespace Go.Wl
open Go Go.Sl Go.Proofs
set_option linter.unusedVariables false
theorem u16_in (x : Int) : 0 ≤ u16 x ∧ u16 x ≤ 65535 := by
  unfold u16
  simp [IntKind.wrap, IntKind.bits, IntKind.signed]
  omega
theorem alive_ok {s : CS} {L : List Fs} (h : Rep s L) {k : Nat} {f : Fs} (hk : L[k]? = some f) : aliveC k s = true := by
  unfold aliveC
  rw [h.get hk]
  rfl
section
variable {ns : List Nd}
theorem ar_nil {q lo n : Nat} : ArL ns q 0 lo lo 0 n n := by
  intro m k B ch L f z e j hm he hn hB hI hz
  obtain ⟨e, rfl⟩ : ∃ i, e = i + 1 := ⟨e - 1, by omega⟩
  refine ⟨L, f, [], fun s hs => ⟨s, ?_, hs⟩, ⟨hI.ln, hI.at_, hI.ch, hI.ko, hI.al, hI.kq, by have := hI.ms; omega⟩, .refl hI, rfl, rfl, by simp, fun st D h g p hF hC => Ck.nil ?_, fun P E hF hE hA => .all fun m => ⟨1, ?_⟩⟩
  · unfold eachM
    rw [if_pos rfl]
    congr 2
    simp
  · simp only [List.replicate_zero, List.append_nil]
    exact Ty.le_refl _
  · unfold argS
    rw [if_pos rfl]
    exact ⟨rfl, rfl⟩
theorem ar_cons {q len lo m hi n n1 n2 : Nat} {d : Nd} {r : Int} (hd : ns[m]? = some d) (hnx : d.next = r) (ht : ExL ns q lo m m n n1) (hl : ArL ns q len m hi r n1 n2) (h1 : lo < m) (h2 : m ≤ hi) (h3 : n1 ≤ n2) : ArL ns q (len + 1) lo hi m n n2 := by
  intro mm k B ch L f z e j hm he hn hB hI hz
  obtain ⟨e, rfl⟩ : ∃ i, e = i + 1 := ⟨e - 1, by omega⟩
  obtain ⟨L1, f1, c1, a1, a2, a3, a4, a5, a6⟩ := ht mm k B ch L f z (by omega) (by omega) (by omega) hI hz
  obtain ⟨L2, f2, c2, b1, b2, b3, b4, b5, b6, b7, b8⟩ := hl mm k _ ch L1 f1 z e (j + 1) (by omega) (by omega) hn (by omega) a1.inv (by rw [a2]; exact hz)
  refine ⟨L2, f2, c1 ++ c2, fun s hs => ?_, ⟨b2.ln, b2.at_, b2.ch, b2.ko, b2.al, b2.kq, by have := b2.ms; omega⟩, a1.stp.trans b3, b4.trans a2, b5.trans a3, by rw [b6, a4, List.append_assoc], fun st D h g p hF hC => ?_, fun P E hF hE hA => ?_⟩
  · obtain ⟨s1, e1, w1⟩ := a1.run s hs
    obtain ⟨s2, e2, w2⟩ := b1 s1 w1
    refine ⟨s2, ?_, w2⟩
    unfold eachM
    rw [if_neg (by omega), e1]
    show (if aliveC k s1 = true then _ else _) = _
    rw [if_pos (alive_ok w1 a1.inv.at_), nd_nat, hd]
    show eachM ns (aliveC k) ((recC ns mm).expr k) e d.next (j + 1) s1 = _
    rw [hnx, e2]
    congr 2
    omega
  · have k1 := (a5 st).up b3 a1.stp.kl.1 (Nat.le_refl _) g p hF hC
    have k2 := b7 (st ++ [false]) D (by simp; omega) g p hF (hC.sub a1.stp.ln (Nat.le_refl _) fun _ _ _ => rfl)
    rw [show f1.code.length = f.code.length + c1.length from by rw [a4, List.length_append], List.append_assoc, show [false] ++ List.replicate len false = List.replicate (len + 1) false from rfl] at k2
    exact (k1.weak (fun _ h => h) (by omega)).app k2
  · have hc1 : f1.code.length = f.code.length + c1.length := by rw [a4, List.length_append]
    have t1 := a6 P E (hF.back b3 a1.inv.at_ b2.at_ a1.stp.kl.1) hE hA.left
    have t2 := b8 P E (hF.lo a1.stp.ln) (a1.stp.sco hE) (hA.rightE hc1)
    rw [a2, hc1, Nat.add_assoc] at t2
    refine (t1.and t2).of fun m h => ?_
    obtain ⟨e, he⟩ := h.2
    refine ⟨e + 1, ?_⟩
    unfold argS
    rw [if_neg (by omega)]
    exact ⟨_, d, h.1, (nd_nat ns _).trans hd, len, rfl, by rw [hnx, List.length_append]; exact he⟩
theorem cl_call {q q1 q2 lo m1 m2 hi n n1 n2 len : Nat} {a nx r : Int} (hd : ns[hi]? = some ⟨19, m1, r, 0, nx, 0, [], a⟩) (hf : ExL ns q1 lo m1 m1 n n1) (ha : ArL ns q2 len m1 m2 r n1 n2) (hl1 : lo < m1) (hl2 : m1 ≤ m2) (hn1 : n1 ≤ n2) (hl : m2 < hi) (hl3 : len ≤ 3) (h1 : q1 ≤ q) (h2 : q2 + 3 ≤ q) (h3 : 2 ≤ q) (h4 : 1 ≤ len → 1 ≤ q2) : ClL ns q lo hi hi n n2 := by
  intro m k B ch L f z hm hn hB hI hz
  have hhi := lt_of hd
  obtain ⟨L1, f1, c1, a1, a2, a3, a4, a5, a6⟩ := hf m k B ch L f z (by omega) (by omega) (by omega) hI hz
  obtain ⟨L2, f2, c2, b1, b2, b3, b4, b5, b6, b7, b8⟩ := ha m k _ ch L1 f1 z (ns.length + 1) 0 (by omega) (by omega) hn (by omega) a1.inv (by rw [a2]; exact hz)
  have hg := emit_go b2 [(26, u16 ((0 : Int) + len))] (by simp; omega)
  have e1 : u16 ((0 : Int) + len) = len := by rw [Int.zero_add]; exact u16_id (by omega)
  refine ⟨_, _, c1 ++ (c2 ++ [(26, (len : Int))]), ((Go.trans a1 (go_bindV (G := fun j s => emitM k [(26, u16 j)] s) b1 b3 hg)).congr fun s hs => ?_).mono (by simp; omega), b4.trans a2, b5.trans a3, by dsimp only; rw [b6, a4, e1]; simp, fun st g p hF hC => ?_, fun P E hF hE hA => ?_⟩
  · unfold callM
    rw [hs.get hI.at_, nd_nat, hd]
    rfl
  · have hzl := z_le hI hz hF ((a1.stp.fx.trans b3.fx).trans hg.stp.fx)
    have k1 := (a5 st).up (b3.trans hg.stp) a1.stp.kl.1 (Nat.le_refl _) g p hF hC
    have k2 := (b7 (st ++ [false]) (st.length + q) (by simp; omega)).up (a' := L.length) hg.stp (by have := a1.stp.kl.1; have := a1.stp.ln; omega) a1.stp.ln g p hF hC
    rw [show f1.code.length = f.code.length + c1.length from by rw [a4, List.length_append]] at k2
    refine (k1.weak (fun _ h => h) (by omega)).app (k2.app (Ck.one (bB (by simp; omega) hzl) (by dsimp only; omega) fun T hT he hL hn => ?_))
    rw [List.append_assoc] at hT
    exact .call (l := [false] ++ List.replicate len false) hT (by dsimp only; omega) (by simp) ⟨by omega, he⟩
  · have hc1 : f1.code.length = f.code.length + c1.length := by rw [a4, List.length_append]
    have F2 := hF.back hg.stp b2.at_ hg.inv.at_ a1.stp.kl.1
    have t1 := a6 P E (F2.back b3 a1.inv.at_ b2.at_ a1.stp.kl.1) hE hA.left
    have t2 := b8 P E (F2.lo a1.stp.ln) (a1.stp.sco hE) (by rw [hc1]; exact hA.right.left)
    rw [a2, hc1] at t2
    refine (t1.and t2).of fun m h => ?_
    obtain ⟨e, he⟩ := h.2
    exact ⟨_, e, len, _, _, (nd_nat ns _).trans hd, h.1, he, hA.right.right.one, by simp; omega⟩
theorem ex_ofcl {q lo hi n n' : Nat} {d : Nd} (hd : ns[hi]? = some d) (hk : d.k = 19) (h : ClL ns q lo hi hi n n') (hl : lo < hi) (h3 : 2 ≤ q) : ExL ns q lo hi hi n n' := by
  intro m k B ch L f z hm hn hB hI hz
  obtain ⟨m, rfl⟩ : ∃ j, m = j + 1 := ⟨m - 1, by omega⟩
  obtain ⟨L1, f1, c1, a1, a2, a3, a4, a5, a6⟩ := h m k B ch L f z (by omega) hn hB hI hz
  have hg := emit_go a1.inv [(25, 0)] (by simp; omega)
  refine ⟨_, _, c1 ++ [(25, 0)], ((Go.trans a1 hg).congr fun s hs => expr_node hd hI.at_ _ hs (by
    obtain ⟨dk, da, db, dc, dn, dnn, ds, dat⟩ := d
    dsimp only at hk
    subst hk
    rfl)).mono (by simp; omega), a2, a3, by dsimp only; rw [a4, List.append_assoc], fun st g p hF hC => ?_, fun P E hF hE hA => ?_⟩
  rotate_left
  · refine (a6 P E (hF.back hg.stp a1.inv.at_ hg.inv.at_ a1.stp.kl.1) hE hA.left).up fun m h => ?_
    exact ⟨_, (nd_nat ns hi).trans hd, by rw [hk]; ((try dsimp only); (repeat rw [if_neg (by decide)]); rw [if_pos rfl]); exact ⟨_, h, hA.right.one, by rw [List.length_append]; rfl⟩⟩
  have hzl := z_le hI hz hF (a1.stp.fx.trans hg.stp.fx)
  have k1 := (a5 st).up hg.stp a1.stp.kl.1 (Nat.le_refl _) g p hF hC
  refine (k1.weak (fun _ h => h) (by omega)).app (Ck.one (bB (by simp; omega) hzl) in0 fun T hT he hL hn => ?_)
  exact .pop (st := st ++ [false]) (a := false) (by rw [hT, List.append_assoc]; rfl) ⟨by omega, he⟩
theorem tb_nil {q lo n : Nat} : TbL ns q 0 lo lo 0 n n := by
  intro m k B ch L f z e j i0 hm he hn hB hI hz
  obtain ⟨e, rfl⟩ : ∃ i, e = i + 1 := ⟨e - 1, by omega⟩
  refine ⟨L, f, [], i0, j, fun s hs => ⟨s, ?_, hs⟩, ⟨hI.ln, hI.at_, hI.ch, hI.ko, hI.al, hI.kq, by have := hI.ms; omega⟩, .refl hI, rfl, rfl, by simp, fun st g p hF hC => Ck.nil (Ty.le_refl _), fun _ _ P E hF hE hA => .all fun m => ⟨1, ?_⟩⟩
  · unfold eachM
    rw [if_pos rfl]
  · unfold itmS
    rw [if_pos rfl]
    rfl
theorem tb_cons {q len lo m hi n n1 n2 : Nat} {d : Nd} {r : Int} (hd : ns[m]? = some d) (hnx : d.next = r) (ht : ExL ns q lo m m n n1) (hl : TbL ns q len m hi r n1 n2) (h1 : lo < m) (h2 : m ≤ hi) (h3 : n1 ≤ n2) (h4 : 1 ≤ q) : TbL ns q (len + 1) lo hi m n n2 := by
  intro mm k B ch L f z e j i0 hm he hn hB hI hz
  obtain ⟨e, rfl⟩ : ∃ i, e = i + 1 := ⟨e - 1, by omega⟩
  obtain ⟨L1, f1, c1, a1, a2, a3, a4, a5, a6⟩ := ht mm k B ch L f z (by omega) (by omega) (by omega) hI hz
  have hg := emit_go a1.inv [(13, u16 (i0 + 1))] (by simp; omega)
  obtain ⟨L2, f2, c2, i1, j1, b1, b2, b3, b4, b5, b6, b7, b8⟩ := hl mm k _ ch _ _ z e (j + 1) (u16 (i0 + 1)) (by omega) (by omega) hn (by simp; omega) hg.inv (by dsimp only; rw [a2]; exact hz)
  refine ⟨L2, f2, c1 ++ ([(13, u16 (i0 + 1))] ++ c2), i1, j1, fun s hs => ?_, ⟨b2.ln, b2.at_, b2.ch, b2.ko, b2.al, b2.kq, by have := b2.ms; simp at this; omega⟩, (a1.stp.trans hg.stp).trans b3, b4.trans a2, b5.trans a3, by rw [b6]; dsimp only; rw [a4]; simp, fun st g p hF hC => ?_, fun hi0 hi1 P E hF hE hA => ?_⟩
  · obtain ⟨s1, e1, w1⟩ := a1.run s hs
    obtain ⟨s2, e2, w2⟩ := hg.run s1 w1
    obtain ⟨s3, e3, w3⟩ := b1 s2 w2
    refine ⟨s3, ?_, w3⟩
    unfold eachM
    rw [if_neg (by omega)]
    have hi : itemM (recC ns mm) k m (i0, s) = some (u16 (i0 + 1), s2) := by
      unfold itemM
      dsimp only
      rw [e1]
      show bind1 (emitM k [(13, u16 (i0 + 1))] s1) _ = _
      rw [e2]
      rfl
    rw [hi]
    show (if aliveC k s2 = true then _ else _) = _
    rw [if_pos (alive_ok w2 hg.inv.at_), nd_nat, hd]
    show eachM ns _ _ e d.next (j + 1) (u16 (i0 + 1), s2) = _
    rw [hnx]
    exact e3
  · have hzl := z_le hI hz hF ((a1.stp.fx.trans hg.stp.fx).trans b3.fx)
    have k1 := (a5 (st ++ [false])).up (hg.stp.trans b3) a1.stp.kl.1 (Nat.le_refl _) g p hF hC
    have k2 := b7 st g p hF (hC.sub (by have := a1.stp.ln; simp; exact this) (Nat.le_refl _) fun _ _ _ => rfl)
    dsimp only at k2
    have e9 : (f1.code ++ [((13 : Int), u16 (i0 + 1))]).length = f.code.length + c1.length + [((13 : Int), u16 (i0 + 1))].length := by rw [a4]; simp; omega
    rw [e9] at k2
    refine (k1.weak (fun _ h => h) (by simp)).app (Ck.app (l := [(13, u16 (i0 + 1))]) (t1 := ⟨st ++ [false], z⟩) (Ck.one (bB (by simp; omega) hzl) (u16_in _) fun T hT he hL hn => ?_) k2)
    exact .setI (st := st) (a := false) (b := false) (by rw [hT, List.append_assoc]; rfl) ⟨by omega, he⟩
  · have hc1 : f1.code.length = f.code.length + c1.length := by rw [a4, List.length_append]
    have e1 : u16 (i0 + 1) = i0 + 1 := u16_id (by omega)
    have F2 := hF.back b3 hg.inv.at_ b2.at_ a1.stp.kl.1
    have t1 := a6 P E (F2.back hg.stp a1.inv.at_ hg.inv.at_ a1.stp.kl.1) hE hA.left
    have t2 := b8 (by omega) (by omega) P E (hF.lo (by have := a1.stp.ln; simp; omega)) (hg.stp.sco (a1.stp.sco hE)) (hA.right.rightE (by dsimp only; rw [List.length_append, hc1]))
    dsimp only at t2
    rw [a2, List.length_append, hc1, e1] at t2
    refine (t1.and t2).of fun mf h => ?_
    obtain ⟨e, he⟩ := h.2
    refine ⟨e + 1, ?_⟩
    unfold itmS
    rw [if_neg (by omega)]
    refine ⟨_, d, h.1, by rw [← e1]; exact hA.right.left.one, (nd_nat ns _).trans hd, ?_⟩
    rw [hnx]
    have e9 : f.code.length + (c1 ++ ([((13 : Int), u16 (i0 + 1))] ++ c2)).length = f.code.length + c1.length + [((13 : Int), i0 + 1)].length + c2.length := by simp; omega
    rw [e9]
    exact he
theorem ex_table {q q1 lo m1 hi n n' len : Nat} {a nx r : Int} (hd : ns[hi]? = some ⟨21, r, 0, 0, nx, 0, [], a⟩) (hi_ : TbL ns q1 len lo m1 r n n') (hl1 : lo ≤ m1) (hl : m1 < hi) (h1 : q1 + 1 ≤ q) : ExL ns q lo hi hi n n' := by
  intro m k B ch L f z hm hn hB hI hz
  have hhi := lt_of hd
  obtain ⟨m, rfl⟩ : ∃ j, m = j + 1 := ⟨m - 1, by omega⟩
  have hg := emit_go hI [(14, 0)] (by simp; omega)
  obtain ⟨L2, f2, c2, i1, j1, b1, b2, b3, b4, b5, b6, b7, b8⟩ := hi_ m k _ ch _ _ z (ns.length + 1) 0 0 (by omega) (by omega) hn (by simp; omega) hg.inv hz
  refine ⟨L2, f2, [(14, 0)] ++ c2, ⟨fun s hs => ?_, ⟨b2.ln, b2.at_, b2.ch, b2.ko, b2.al, b2.kq, by have := b2.ms; simp at this; omega⟩, hg.stp.trans b3⟩, b4, b5, by rw [b6]; dsimp only; rw [List.append_assoc], fun st g p hF hC => ?_, fun P E hF hE hA => ?_⟩
  · obtain ⟨s1, e1, w1⟩ := hg.run s hs
    obtain ⟨s2, e2, w2⟩ := b1 s1 w1
    refine ⟨s2, expr_node hd hI.at_ _ hs ?_, w2⟩
    show bind1 (emitM k [(14, 0)] s) _ = _
    rw [e1]
    show bind2 (eachM ns _ _ _ r 0 (0, s1)) _ = _
    rw [e2]
    rfl
  · have hzl := z_le hI hz hF (hg.stp.fx.trans b3.fx)
    have k2 := b7 st g p hF (hC.sub (by simp) (Nat.le_refl _) fun _ _ _ => rfl)
    dsimp only at k2
    rw [List.length_append] at k2
    refine Ck.app (t1 := ⟨st ++ [false], z⟩) (Ck.one (bB (by omega) hzl) in0 fun T hT he hL hn => .newT hT ⟨by omega, he⟩) (k2.weak (fun _ h => h) (by omega))
  · have t2 := b8 (by omega) (by omega) P E (hF.lo (by simp)) (hg.stp.sco hE) (hA.rightE (by simp))
    dsimp only at t2
    rw [List.length_append] at t2
    refine t2.up fun m h => ?_
    obtain ⟨e, he⟩ := h
    exact ⟨_, (nd_nat ns hi).trans hd, by ((try dsimp only); (repeat rw [if_neg (by decide)]); rw [if_pos rfl]); exact ⟨e, hA.left.one, by rw [List.length_append, ← Nat.add_assoc]; exact he⟩⟩
end
end Go.Wl
