/- Plain: laying the tree flat. -/
import Derived.Test.Qxb6500573aGreatDoorQA
namespace Go.Wl
open Go Go.Sl Go.Proofs
set_option linter.unusedVariables false
def Pfx (ns ns1 : List Nd) : Prop := ns.length ≤ ns1.length ∧ ∀ j, j < ns.length → ns1[j]? = ns[j]?
theorem Pfx.refl (ns : List Nd) : Pfx ns ns := ⟨Nat.le_refl _, fun _ _ => rfl⟩
theorem Pfx.trans {a b c : List Nd} (h1 : Pfx a b) (h2 : Pfx b c) : Pfx a c := ⟨Nat.le_trans h1.1 h2.1, fun j hj => by rw [h2.2 j (by have := h1.1; omega), h1.2 j hj]⟩
theorem Pfx.snoc (ns : List Nd) (d : Nd) : Pfx ns (ns ++ [d]) := ⟨by simp, fun j hj => List.getElem?_append_left hj⟩
theorem top_at (ns : List Nd) (d : Nd) : (ns ++ [d])[ns.length]? = some d := by simp
theorem Nn.ext {ns ns' : List Nd} {kd : Kd} {lo hi : Nat} {r : Int} {n n' : Nat} (h : Nn ns kd lo hi r n n') (hp : Pfx ns ns') (hh : hi < ns.length) : Nn ns' kd lo hi r n n' :=
  h.congr ⟨fun j _ h2 => hp.2 j (by omega), fun _ => ⟨fun _ => hp.2 hi hh, fun d hd => ⟨d.next, by rw [hp.2 hi hh, hd]⟩⟩⟩
def Lay (F : ResF) (ns : List Nd) (kd : Kd) (n n' w : Nat) : Prop := ∃ (hi : Nat) (ns1 : List Nd) (d : Nd), F = some ((hi : Int), ns1) ∧ ns1.length = hi + 1 ∧ Pfx ns ns1 ∧ ns1.length ≤ ns.length + w ∧ ns1[hi]? = some d ∧ d.next = 0 ∧ Nn ns1 kd (ns.length - 1) hi hi n n'
def LayL (F : ResF) (ns : List Nd) (kd : Kd) (n n' w : Nat) : Prop := ∃ (r : Int) (hi : Nat) (ns1 : List Nd), F = some (r, ns1) ∧ ns1.length = hi + 1 ∧ Pfx ns ns1 ∧ ns1.length ≤ ns.length + w ∧ Nn ns1 kd (ns.length - 1) hi r n n'
def LayX (F : ResF) (ns : List Nd) (q1 q2 : Nat) (a : Int) (n n1 n2 w : Nat) : Prop := ∃ (hi m1 m2 : Nat) (ns1 : List Nd), F = some ((hi : Int), ns1) ∧ ns1.length = hi + 1 ∧ Pfx ns ns1 ∧ ns1.length ≤ ns.length + w ∧ ns1[hi]? = some ⟨18, m1, m2, 0, 0, 0, [], a⟩ ∧ Nn ns1 (.ex q1) (ns.length - 1) m1 m1 n n1 ∧ Nn ns1 (.ex q2) m1 m2 m2 n1 n2 ∧ m2 < hi
theorem it_inv {ns : List Nd} {q len lo hi n n' : Nat} {r : Int} (h : Nn ns (.it q (len + 1)) lo hi r n n') : ∃ m n1 d, r = (m : Nat) ∧ ns[m]? = some d ∧ Nn ns (.ex q) lo m m n n1 ∧ Nn ns (.it q len) m hi d.next n1 n' := by
  cases h with
  | icons hd hn ht hl => exact ⟨_, _, _, rfl, hd, ht, by rw [hn]; exact hl⟩
theorem it_nil {ns : List Nd} {q lo hi n n' : Nat} {r : Int} (h : Nn ns (.it q 0) lo hi r n n') : r = 0 ∧ hi = lo ∧ n' = n := by
  cases h with
  | inil => exact ⟨rfl, rfl, rfl⟩
theorem Lay.add {ns ns1 : List Nd} {d : Nd} {kd : Kd} {n n' w : Nat} (hl : 1 ≤ ns.length) (hp : Pfx ns ns1) (hb : ns1.length < 100000) (hw : ns1.length + 1 ≤ ns.length + w) (hd : d.next = 0) (h : Nn (ns1 ++ [d]) kd (ns.length - 1) ns1.length ns1.length n n') : Lay (addF d ns1) ns kd n n' w :=
  ⟨ns1.length, ns1 ++ [d], d, by unfold addF; rw [if_pos hb], by simp, hp.trans (.snoc _ _), by simp; omega, by simp, hd, h⟩
theorem wp2 {a b : Int} {s s2 : List UInt8} (hs : nameOk s) (hs2 : nameOk s2) : WP [.name a s, .name b s2] := fun t ht => by
  rcases List.mem_cons.1 ht with rfl | ht
  · exact ⟨_, _, rfl, hs⟩
  · rw [List.mem_singleton] at ht; subst ht; exact ⟨_, _, rfl, hs2⟩
/-- What the recursive calls do. -/
structure FcOk (m : Nat) (fc : RecF) : Prop where
  ex : ∀ {q : Nat} {t : T} {n n' : Nat} {ns : List Nd}, WE q t n n' → 2 * t.sz + 1 ≤ m → 1 ≤ ns.length → ns.length + (4 * t.sz + 1) ≤ 90000 → Lay (fc.expr t ns) ns (.ex q) n n' (4 * t.sz + 1)
  cl : ∀ {q : Nat} {a : Int} {f : T} {l : List T} {n n' : Nat} {ns : List Nd}, WE q (.call a f l) n n' → 2 * (T.call a f l).sz + 1 ≤ m → 1 ≤ ns.length → ns.length + (4 * (T.call a f l).sz + 1) ≤ 90000 → Lay (fc.expr (.call a f l) ns) ns (.cl q) n n' (4 * (T.call a f l).sz + 1)
  nm : ∀ {a : Int} {s : List UInt8} {ns : List Nd}, 1 ≤ m → fc.expr (.name a s) ns = addF ⟨17, 0, 0, 0, 0, 0, s, a⟩ ns
  ix : ∀ {q1 q2 : Nat} {a : Int} {x k : T} {n n1 n2 : Nat} {ns : List Nd}, WE q1 x n n1 → WE q2 k n1 n2 → 2 * (x.sz + k.sz + 1) + 1 ≤ m → 1 ≤ ns.length → ns.length + (4 * (x.sz + k.sz + 1) + 1) ≤ 90000 → LayX (fc.expr (.index a x k) ns) ns q1 q2 a n n1 n2 (4 * (x.sz + k.sz) + 3)
  it : ∀ {q : Nat} {l : List T} {n n' : Nat} {ns : List Nd}, WI q l n n' → 2 * szL l + 1 ≤ m → 1 ≤ ns.length → ns.length + 4 * szL l ≤ 90000 → LayL (fc.chain l ns) ns (.it q l.length) n n' (4 * szL l)
  bl : ∀ {al al' : Nat} {lp : Bool} {l : List T} {n n' : Nat} {ns : List Nd}, WB al lp l n n' al' → 2 * szL l + 1 ≤ m → 1 ≤ ns.length → ns.length + 4 * szL l ≤ 90000 → LayL (fc.chain l ns) ns (.bl al lp al') n n' (4 * szL l)
  fk : ∀ {c num : Int} {ps body : List T} {ns ns1 : List Nd} {hi : Nat} {d : Nd}, fc.expr (.func c num ps body) ns = some ((hi : Int), ns1) → ns1[hi]? = some d → d.k = 20
  ps : ∀ {l : List T} {n : Nat} {ns : List Nd}, WP l → 1 ≤ m → 1 ≤ ns.length → l.length ≤ 3 → ns.length + 3 ≤ 90000 → LayL (fc.chain l ns) ns (.ps l.length) n n l.length
section
variable {m : Nat} {fc : RecF} (hc : FcOk m fc)
include hc
theorem call_lay {q : Nat} {a : Int} {f : T} {l : List T} {n n' : Nat} {ns : List Nd} (h : WE q (.call a f l) n n') (hm : 2 * (T.call a f l).sz ≤ m) (h1 : 1 ≤ ns.length) (hb : ns.length + (4 * (T.call a f l).sz + 1) ≤ 90000) : Lay (exprF fc (.call a f l) ns) ns (.cl q) n n' (4 * (T.call a f l).sz + 1) := by
  simp only [T.sz] at hm hb ⊢
  cases h with
  | call hf hl ha h2 h3 h4 =>
    unfold exprF
    dsimp only
    obtain ⟨i1, ns1, d1, e1, l1, p1, w1, t1, x1, g1⟩ := hc.ex hf (by omega) h1 (by omega)
    rw [e1]
    obtain ⟨r, i2, ns2, e2, l2, p2, w2, g2⟩ := hc.it (ns := ns1) ha (by omega) (by omega) (by omega)
    show Lay (bind2 (fc.chain l ns1) _) _ _ _ _ _
    rw [e2]
    have q1 := p1.1
    have q2 := p2.1
    have r1 := g1.reg.2.2 rfl
    refine Lay.add h1 (p1.trans p2) (by omega) (by omega) rfl ?_
    rw [show ns1.length - 1 = i1 from by omega] at g2
    exact .call (top_at _ _) (g1.ext (p2.trans (.snoc _ _)) (by omega)) (g2.ext (.snoc _ _) (by omega)) (by omega) hl h2 h3 h4
theorem index_lay {q1 q2 : Nat} {a : Int} {x k : T} {n n1 n2 : Nat} {ns : List Nd} (hx : WE q1 x n n1) (hk : WE q2 k n1 n2) (hm : 2 * (x.sz + k.sz + 1) ≤ m) (h1 : 1 ≤ ns.length) (hb : ns.length + (4 * (x.sz + k.sz + 1) + 1) ≤ 90000) : LayX (exprF fc (.index a x k) ns) ns q1 q2 a n n1 n2 (4 * (x.sz + k.sz) + 3) := by
  unfold exprF
  dsimp only
  obtain ⟨i1, ns1, d1, e1, l1, p1, w1, t1, x1, g1⟩ := hc.ex hx (by omega) h1 (by omega)
  rw [e1]
  obtain ⟨i2, ns2, d2, e2, l2, p2, w2, t2, x2, g2⟩ := hc.ex (ns := ns1) hk (by omega) (by omega) (by omega)
  show LayX (bind2 (fc.expr _ ns1) _) _ _ _ _ _ _ _ _
  rw [e2]
  have q1 := p1.1
  have q2 := p2.1
  rw [show ns1.length - 1 = i1 from by omega] at g2
  exact ⟨ns2.length, i1, i2, _, by show addF _ ns2 = _; unfold addF; rw [if_pos (by omega)], by simp, (p1.trans p2).trans (.snoc _ _), by simp; omega, top_at _ _, g1.ext (p2.trans (.snoc _ _)) (by omega), g2.ext (.snoc _ _) (by omega), by omega⟩
theorem expr_lay {q : Nat} {t : T} {n n' : Nat} {ns : List Nd} (h : WE q t n n') (hm : 2 * t.sz ≤ m) (h1 : 1 ≤ ns.length) (hb : ns.length + (4 * t.sz + 1) ≤ 90000) : Lay (exprF fc t ns) ns (.ex q) n n' (4 * t.sz + 1) := by
  cases h with
  | lit hq hk => exact Lay.add h1 (.refl _) (by omega) (by omega) rfl (.lit (top_at _ _) (by omega) hq hk)
  | num hq hk => exact Lay.add h1 (.refl _) (by omega) (by omega) rfl (.num (top_at _ _) (by omega) hq hk)
  | str hq hk => exact Lay.add h1 (.refl _) (by omega) (by omega) rfl (.str (top_at _ _) (by omega) hq hk)
  | name hq hk => exact Lay.add h1 (.refl _) (by omega) (by omega) rfl (.name (top_at _ _) (by omega) hq hk)
  | index hx hk h2 h3 =>
    simp only [T.sz] at hm hb ⊢
    obtain ⟨hi, m1, m2, ns1, e1, l1, p1, w1, t1, g1, g2, hl⟩ := index_lay hc hx hk hm h1 hb
    exact ⟨hi, ns1, _, e1, l1, p1, by omega, t1, rfl, .index t1 g1 g2 hl h2 h3⟩
  | @call q q1 q2 n nn n2 a f l hf hl ha h2 h3 h4 =>
    obtain ⟨i1, ns1, d1, e1, l1, p1, w1, t1, x1, g1⟩ := call_lay hc (a := a) (.call hf hl ha h2 h3 h4) hm h1 hb
    exact ⟨i1, ns1, d1, e1, l1, p1, w1, t1, x1, .ofcl g1⟩
  | func hq hp hl hn hnum hb2 =>
    simp only [T.sz] at hm hb ⊢
    unfold exprF
    dsimp only
    obtain ⟨r1, i1, ns1, e1, l1, p1, w1, g1⟩ := hc.ps (n := n) hp (by omega) h1 hl (by omega)
    rw [e1]
    obtain ⟨r2, i2, ns2, e2, l2, p2, w2, g2⟩ := hc.bl (ns := ns1) hb2 (by omega) (by omega) (by omega)
    show Lay (bind2 (fc.chain _ ns1) _) _ _ _ _ _
    rw [e2]
    have q1 := p1.1
    have q2 := p2.1
    rw [show ns1.length - 1 = i1 from by omega] at g2
    refine Lay.add h1 (p1.trans p2) (by omega) (by omega) rfl ?_
    have hw : IntKind.u64.wrap ((n : Int) + 1) = (n : Int) + 1 := u64n (n := n + 1) (by omega)
    refine .func (by rw [hnum, hw]; exact top_at _ _) (g1.ext (p2.trans (.snoc _ _)) (by omega)) (g2.ext (.snoc _ _) (by omega)) (by omega) hq hl hn
  | table hi h2 =>
    simp only [T.sz] at hm hb ⊢
    unfold exprF
    dsimp only
    obtain ⟨r1, i1, ns1, e1, l1, p1, w1, g1⟩ := hc.it hi (by omega) h1 (by omega)
    rw [e1]
    have q1 := p1.1
    refine Lay.add h1 p1 (by omega) (by omega) rfl ?_
    exact .table (top_at _ _) (g1.ext (.snoc _ _) (by omega)) (by omega) h2
  | bin ho hx hk h2 h3 =>
    simp only [T.sz] at hm hb ⊢
    unfold exprF
    dsimp only
    obtain ⟨i1, ns1, d1, e1, l1, p1, w1, t1, x1, g1⟩ := hc.ex hx (by omega) h1 (by omega)
    rw [e1]
    obtain ⟨i2, ns2, d2, e2, l2, p2, w2, t2, x2, g2⟩ := hc.ex (ns := ns1) hk (by omega) (by omega) (by omega)
    show Lay (bind2 (fc.expr _ ns1) _) _ _ _ _ _
    rw [e2]
    have q1 := p1.1
    have q2 := p2.1
    rw [show ns1.length - 1 = i1 from by omega] at g2
    refine Lay.add h1 (p1.trans p2) (by omega) (by omega) rfl ?_
    exact .bin (top_at _ _) ho (g1.ext (p2.trans (.snoc _ _)) (by omega)) (g2.ext (.snoc _ _) (by omega)) (by omega) h2 h3
  | log ho ho2 hx hk h2 h3 =>
    simp only [T.sz] at hm hb ⊢
    unfold exprF
    dsimp only
    obtain ⟨i1, ns1, d1, e1, l1, p1, w1, t1, x1, g1⟩ := hc.ex hx (by omega) h1 (by omega)
    rw [e1]
    obtain ⟨i2, ns2, d2, e2, l2, p2, w2, t2, x2, g2⟩ := hc.ex (ns := ns1) hk (by omega) (by omega) (by omega)
    show Lay (bind2 (fc.expr _ ns1) _) _ _ _ _ _
    rw [e2]
    have q1 := p1.1
    have q2 := p2.1
    rw [show ns1.length - 1 = i1 from by omega] at g2
    refine Lay.add h1 (p1.trans p2) (by omega) (by omega) rfl ?_
    exact .log (top_at _ _) ho (g1.ext (p2.trans (.snoc _ _)) (by omega)) (g2.ext (.snoc _ _) (by omega)) (by omega) h2 h3
  | un ho hx h2 =>
    simp only [T.sz] at hm hb ⊢
    unfold exprF
    dsimp only
    obtain ⟨i1, ns1, d1, e1, l1, p1, w1, t1, x1, g1⟩ := hc.ex hx (by omega) h1 (by omega)
    rw [e1]
    have q1 := p1.1
    refine Lay.add h1 p1 (by omega) (by omega) rfl ?_
    exact .un (top_at _ _) ho (g1.ext (.snoc _ _) (by omega)) (by omega) h2
theorem stmt_lay {al al' : Nat} {lp : Bool} {t : T} {n n' : Nat} {ns : List Nd} (h : WS al lp t n n' al') (hm : 2 * t.sz + 1 ≤ m) (h1 : 1 ≤ ns.length) (hb : ns.length + (4 * t.sz + 4) ≤ 90000) : Lay (stmtF fc t ns) ns (.st al lp al') n n' (4 * t.sz + 4) := by
  cases h with
  | loc0 hs h => exact Lay.add h1 (.refl _) (by omega) (by omega) rfl (.loc0 (top_at _ _) (by omega) hs h)
  | loc1 hs hv hq h =>
    simp only [T.sz] at hm hb ⊢
    unfold stmtF
    dsimp only
    rw [if_pos (by decide)]
    unfold optF
    rw [if_neg (by rw [hv.nn]; decide)]
    obtain ⟨i1, ns1, d1, e1, l1, p1, w1, t1, x1, g1⟩ := hc.ex hv (by omega) h1 (by omega)
    rw [e1]
    have q1 := p1.1
    refine Lay.add h1 p1 (by omega) (by omega) rfl ?_
    exact .loc1 (top_at _ _) (by omega) hs (g1.ext (.snoc _ _) (by omega)) hq h
  | loc2 hs hs2 hv hq h =>
    rw [show ∀ (l : List T) (v : T), (T.loc l v).sz = v.sz from fun _ _ => by simp only [T.sz]] at hm hb ⊢
    unfold stmtF
    dsimp only
    rw [if_neg (by simp)]
    obtain ⟨r1, i1, ns1, e1, l1, p1, w1, g1⟩ := hc.ps (n := n) (wp2 hs hs2) (by omega) h1 (by simp) (by omega)
    rw [e1]
    simp only [List.length_cons, List.length_nil] at w1 g1
    obtain ⟨i2, ns2, d2, e2, l2, p2, w2, t2, x2, g2⟩ := hc.cl (ns := ns1) hv (by omega) (by omega) (by omega)
    show Lay (bind2 (fc.expr _ ns1) _) _ _ _ _ _
    rw [e2]
    have q1 := p1.1
    have q2 := p2.1
    rw [show ns1.length - 1 = i1 from by omega] at g2
    refine Lay.add h1 (p1.trans p2) (by omega) (by omega) rfl ?_
    exact .loc2 (top_at _ _) (by omega) (g1.ext (p2.trans (.snoc _ _)) (by omega)) (g2.ext (.snoc _ _) (by omega)) hq h
  | locFn hs hv hq h =>
    rw [show ∀ (a : Int) (l : List UInt8) (v : T), (T.locFn a l v).sz = v.sz from fun _ _ _ => by simp only [T.sz]] at hm hb ⊢
    unfold stmtF
    dsimp only
    obtain ⟨i1, ns1, d1, e1, l1, p1, w1, t1, x1, g1⟩ := hc.ex hv (by omega) h1 (by omega)
    rw [e1]
    have q1 := p1.1
    refine Lay.add h1 p1 (by omega) (by omega) rfl ?_
    exact .locFn (top_at _ _) (by omega) hs ⟨d1, by rw [List.getElem?_append_left (by omega)]; exact t1, hc.fk e1 t1⟩ (g1.ext (.snoc _ _) (by omega)) hq h
  | @asgN al n n1 q lp a b s v hs hv hq =>
    simp only [T.sz] at hm hb ⊢
    unfold stmtF
    dsimp only
    rw [hc.nm (by omega)]
    unfold addF
    rw [if_pos (by omega)]
    obtain ⟨i2, ns2, d2, e2, l2, p2, w2, t2, x2, g2⟩ := hc.ex (ns := ns ++ [⟨17, 0, 0, 0, 0, 0, s, b⟩]) hv (by omega) (by simp) (by simp; omega)
    show Lay (bind2 (fc.expr _ _) _) _ _ _ _ _
    rw [e2]
    have q2 := p2.1
    simp only [List.length_append, List.length_singleton] at q2 w2 g2
    rw [show ns.length + 1 - 1 = ns.length from by omega] at g2
    refine Lay.add h1 ((Pfx.snoc _ _).trans p2) (by omega) (by omega) rfl ?_
    refine .asgN (top_at _ _) (d := ⟨17, 0, 0, 0, 0, 0, s, b⟩) ?_ rfl hs (by omega) (by omega) (g2.ext (.snoc _ _) (by omega)) hq
    rw [(p2.trans (.snoc _ _)).2 _ (by simp), top_at]
  | asgI hx hk hv h0 h2 h3 =>
    simp only [T.sz] at hm hb ⊢
    unfold stmtF
    dsimp only
    obtain ⟨i1, m1, m2, ns1, e1, l1, p1, w1, t1, g1, g2, hl⟩ := hc.ix hx hk (by omega) h1 (by omega)
    rw [e1]
    obtain ⟨i2, ns2, d2, e2, l2, p2, w2, t2, x2, g3⟩ := hc.ex (ns := ns1) hv (by omega) (by omega) (by omega)
    show Lay (bind2 (fc.expr _ ns1) _) _ _ _ _ _
    rw [e2]
    have q1 := p1.1
    have q2 := p2.1
    rw [show ns1.length - 1 = i1 from by omega] at g3
    refine Lay.add h1 (p1.trans p2) (by omega) (by omega) rfl ?_
    have r1 := g1.reg
    have r2 := g2.reg
    refine .asgI (top_at _ _) (by rw [(p2.trans (.snoc _ _)).2 _ (by omega)]; exact t1) ⟨rfl, rfl, rfl⟩ (g1.ext (p2.trans (.snoc _ _)) (by omega)) (g2.ext (p2.trans (.snoc _ _)) (by omega)) hl (g3.ext (.snoc _ _) (by omega)) (by omega) h0 h2 h3
  | callS hv hq =>
    rw [show ∀ (v : T), (T.callS v).sz = v.sz from fun _ => by simp only [T.sz]] at hm hb ⊢
    unfold stmtF
    dsimp only
    obtain ⟨i1, ns1, d1, e1, l1, p1, w1, t1, x1, g1⟩ := hc.cl hv (by omega) h1 (by omega)
    rw [e1]
    have q1 := p1.1
    refine Lay.add h1 p1 (by omega) (by omega) rfl ?_
    exact .callS (top_at _ _) (by omega) (g1.ext (.snoc _ _) (by omega)) hq
  | ife hcc hq hb1 hb2 =>
    simp only [T.sz] at hm hb ⊢
    unfold stmtF
    dsimp only
    obtain ⟨i1, ns1, d1, e1, l1, p1, w1, t1, x1, g1⟩ := hc.ex hcc (by omega) h1 (by omega)
    rw [e1]
    obtain ⟨r2, i2, ns2, e2, l2, p2, w2, g2⟩ := hc.bl (ns := ns1) hb1 (by omega) (by omega) (by omega)
    show Lay (bind2 (fc.chain _ ns1) _) _ _ _ _ _
    rw [e2]
    obtain ⟨r3, i3, ns3, e3, l3, p3, w3, g3⟩ := hc.bl (ns := ns2) hb2 (by omega) (by omega) (by omega)
    show Lay (bind2 (fc.chain _ ns2) _) _ _ _ _ _
    rw [e3]
    have q1 := p1.1
    have q2 := p2.1
    have q3 := p3.1
    rw [show ns1.length - 1 = i1 from by omega] at g2
    rw [show ns2.length - 1 = i2 from by omega] at g3
    refine Lay.add h1 ((p1.trans p2).trans p3) (by omega) (by omega) rfl ?_
    exact .ife (top_at _ _) (by omega) (g1.ext ((p2.trans p3).trans (.snoc _ _)) (by omega)) hq (g2.ext (p3.trans (.snoc _ _)) (by omega)) (g3.ext (.snoc _ _) (by omega))
  | whl hcc hq hb1 =>
    simp only [T.sz] at hm hb ⊢
    unfold stmtF
    dsimp only
    obtain ⟨i1, ns1, d1, e1, l1, p1, w1, t1, x1, g1⟩ := hc.ex hcc (by omega) h1 (by omega)
    rw [e1]
    obtain ⟨r2, i2, ns2, e2, l2, p2, w2, g2⟩ := hc.bl (ns := ns1) hb1 (by omega) (by omega) (by omega)
    show Lay (bind2 (fc.chain _ ns1) _) _ _ _ _ _
    rw [e2]
    have q1 := p1.1
    have q2 := p2.1
    rw [show ns1.length - 1 = i1 from by omega] at g2
    refine Lay.add h1 (p1.trans p2) (by omega) (by omega) rfl ?_
    exact .whl (top_at _ _) (by omega) (g1.ext (p2.trans (.snoc _ _)) (by omega)) hq (g2.ext (.snoc _ _) (by omega))
  | for2 hs hf hl hq hq1 h hb1 =>
    simp only [T.sz, szL] at hm hb ⊢
    unfold stmtF
    dsimp only
    obtain ⟨r1, i1, ns1, e1, l1, p1, w1, g1⟩ := hc.it (.cons (hf.mono hq) (.cons (hl.mono hq1) .nil)) (by simp only [szL]; omega) h1 (by simp only [szL]; omega)
    rw [e1]
    simp only [szL] at w1
    obtain ⟨r2, i2, ns2, e2, l2, p2, w2, g2⟩ := hc.bl (ns := ns1) hb1 (by omega) (by omega) (by omega)
    show Lay (bind2 (fc.chain _ ns1) _) _ _ _ _ _
    rw [e2]
    have q1 := p1.1
    have q2 := p2.1
    rw [show ns1.length - 1 = i1 from by omega] at g2
    obtain ⟨m1, na, d1, rfl, hd1, gx, g1⟩ := it_inv g1
    obtain ⟨m2, nb, d2, hd1n, hd2, gy, g1⟩ := it_inv g1
    obtain ⟨hd2n, e5, rfl⟩ := it_nil g1
    subst e5
    have r1 := gy.reg
    refine Lay.add h1 (p1.trans p2) (by omega) (by omega) rfl ?_
    have hpp := fun d => p2.trans (.snoc ns2 d)
    exact .for2 (top_at _ _) (by omega) hs (gx.ext (hpp _) (by omega)) (by rw [(hpp _).2 _ (by omega)]; exact hd1) hd1n (gy.ext (hpp _) (by omega)) (by rw [(hpp _).2 _ (by omega)]; exact hd2) hd2n (Nat.le_refl _) (Nat.le_refl _) h (g2.ext (.snoc _ _) (by omega))
  | for3 hs hf hl hst hq hq1 hq2 h hb1 =>
    simp only [T.sz, szL] at hm hb ⊢
    unfold stmtF
    dsimp only
    obtain ⟨r1, i1, ns1, e1, l1, p1, w1, g1⟩ := hc.it (.cons (hf.mono hq) (.cons (hl.mono hq1) (.cons (hst.mono hq2) .nil))) (by simp only [szL]; omega) h1 (by simp only [szL]; omega)
    rw [e1]
    simp only [szL] at w1
    obtain ⟨r2, i2, ns2, e2, l2, p2, w2, g2⟩ := hc.bl (ns := ns1) hb1 (by omega) (by omega) (by omega)
    show Lay (bind2 (fc.chain _ ns1) _) _ _ _ _ _
    rw [e2]
    have q1 := p1.1
    have q2 := p2.1
    rw [show ns1.length - 1 = i1 from by omega] at g2
    obtain ⟨m1, na, d1, rfl, hd1, gx, g1⟩ := it_inv g1
    obtain ⟨m2, nb, d2, hd1n, hd2, gy, g1⟩ := it_inv g1
    obtain ⟨m3, nc, d3, hd2n, hd3, gz, g1⟩ := it_inv g1
    obtain ⟨hd3n, e5, rfl⟩ := it_nil g1
    subst e5
    have r1 := gy.reg
    have r2 := gz.reg
    refine Lay.add h1 (p1.trans p2) (by omega) (by omega) rfl ?_
    have hpp := fun d => p2.trans (.snoc ns2 d)
    exact .for3 (top_at _ _) (by omega) hs (gx.ext (hpp _) (by omega)) (by rw [(hpp _).2 _ (by omega)]; exact hd1) hd1n (gy.ext (hpp _) (by omega)) (by rw [(hpp _).2 _ (by omega)]; exact hd2) hd2n (gz.ext (hpp _) (by omega)) (Nat.le_refl _) (Nat.le_refl _) (Nat.le_refl _) h (g2.ext (.snoc _ _) (by omega))
  | forIn hs hs2 hx hq h hb1 =>
    simp only [T.sz] at hm hb ⊢
    unfold stmtF
    dsimp only
    obtain ⟨r1, i1, ns1, e1, l1, p1, w1, g1⟩ := hc.ps (n := n) (wp2 hs hs2) (by omega) h1 (by simp) (by omega)
    rw [e1]
    simp only [List.length_cons, List.length_nil] at w1 g1
    obtain ⟨i2, ns2, d2, e2, l2, p2, w2, t2, x2, g2⟩ := hc.ex (ns := ns1) hx (by omega) (by omega) (by omega)
    show Lay (bind2 (fc.expr _ ns1) _) _ _ _ _ _
    rw [e2]
    obtain ⟨r3, i3, ns3, e3, l3, p3, w3, g3⟩ := hc.bl (ns := ns2) hb1 (by omega) (by omega) (by omega)
    show Lay (bind2 (fc.chain _ ns2) _) _ _ _ _ _
    rw [e3]
    have q1 := p1.1
    have q2 := p2.1
    have q3 := p3.1
    rw [show ns1.length - 1 = i1 from by omega] at g2
    rw [show ns2.length - 1 = i2 from by omega] at g3
    refine Lay.add h1 ((p1.trans p2).trans p3) (by omega) (by omega) rfl ?_
    exact .forIn (top_at _ _) (by omega) (g1.ext ((p2.trans p3).trans (.snoc _ _)) (by omega)) (g2.ext (p3.trans (.snoc _ _)) (by omega)) hq h (g3.ext (.snoc _ _) (by omega))
  | ret0 => exact Lay.add h1 (.refl _) (by omega) (by omega) rfl (.ret0 (top_at _ _) (by omega))
  | ret1 hx hq =>
    simp only [T.sz] at hm hb ⊢
    unfold stmtF
    dsimp only
    unfold optF
    rw [if_neg (by rw [hx.nn]; decide)]
    obtain ⟨i1, ns1, d1, e1, l1, p1, w1, t1, x1, g1⟩ := hc.ex hx (by omega) h1 (by omega)
    rw [e1]
    have q1 := p1.1
    refine Lay.add h1 p1 (by omega) (by omega) rfl ?_
    exact .ret1 (top_at _ _) (by omega) (g1.ext (.snoc _ _) (by omega)) hq
  | ret2 hx hy hq hq1 =>
    simp only [T.sz] at hm hb ⊢
    unfold stmtF
    dsimp only
    unfold optF
    rw [if_neg (by rw [hx.nn]; decide)]
    obtain ⟨i1, ns1, d1, e1, l1, p1, w1, t1, x1, g1⟩ := hc.ex hx (by omega) h1 (by omega)
    rw [e1]
    obtain ⟨i2, ns2, d2, e2, l2, p2, w2, t2, x2, g2⟩ := hc.ex (ns := ns1) hy (by omega) (by omega) (by omega)
    show Lay (bind2 (if _ = true then some (0, ns1) else fc.expr _ ns1) _) _ _ _ _ _
    rw [if_neg (by rw [hy.nn]; decide), e2]
    have q1 := p1.1
    have q2 := p2.1
    rw [show ns1.length - 1 = i1 from by omega] at g2
    refine Lay.add h1 (p1.trans p2) (by omega) (by omega) rfl ?_
    exact .ret2 (top_at _ _) (by omega) (g1.ext (p2.trans (.snoc _ _)) (by omega)) (g2.ext (.snoc _ _) (by omega)) hq hq1
  | brk => exact Lay.add h1 (.refl _) (by omega) (by omega) rfl (.brk (top_at _ _) (by omega))
end
end Go.Wl
