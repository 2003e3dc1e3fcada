/- Plain: laying the tree flat: chains. -/
import Derived.Test.Qxb6500573aGreatDoorQB
namespace Go.Wl
open Go Go.Sl Go.Proofs
set_option linter.unusedVariables false
theorem szL_len : ∀ l : List T, l.length ≤ szL l
  | [] => Nat.le_refl _
  | t :: l => by
    have := szL_len l
    simp only [szL, List.length_cons]
    omega
section
variable {m : Nat} {fc : RecF} (hc : FcOk m fc)
include hc
theorem bl_rest {lp : Bool} : ∀ {l : List T} {al al' n n' : Nat} (ns : List Nd) (first : Int) (last : Nat) (d : Nd), WB al lp l n n' al' → 2 * szL l ≤ m + 1 → ns[last]? = some d → d.next = 0 → 1 ≤ last → ns.length + 4 * szL l ≤ 90000 →
    ∃ (r : Int) (hi : Nat) (ns1 : List Nd), chainL fc l first last ns = some (first, ns1) ∧ ns1.length = hi + 1 ∧ ns.length ≤ ns1.length ∧ ns1.length ≤ ns.length + 4 * szL l ∧ (∀ j, j < ns.length → j ≠ last → ns1[j]? = ns[j]?) ∧ ns1[last]? = some { d with next := r } ∧ Nn ns1 (.bl al lp al') (ns.length - 1) hi r n n'
  | [], al, al', n, n', ns, first, last, d, h, hm, hd, hn, hl, hb => by
    cases h
    have hlt := (List.getElem?_eq_some_iff.1 hd).1
    refine ⟨0, ns.length - 1, ns, rfl, by omega, Nat.le_refl _, by omega, fun _ _ _ => rfl, ?_, .bnil⟩
    rw [hd]
    cases d
    cases hn
    rfl
  | t :: l, al, al', n, n', ns, first, last, d, h, hm, hd, hn, hl, hb => by
    have hlt := (List.getElem?_eq_some_iff.1 hd).1
    simp only [szL] at hm hb ⊢
    cases h with
    | cons ht hl2 =>
    have hst : t.isStmt = true := by cases ht <;> rfl
    obtain ⟨i1, ns1, d1, e1, l1, p1, w1, t1, x1, g1⟩ := stmt_lay hc ht (by omega) (show 1 ≤ ns.length by omega) (by omega)
    have q1 := p1.1
    unfold chainL layF
    rw [hst]
    show ∃ (r : Int) (hi : Nat) (ns2 : List Nd), bind2 (stmtF fc t ns) _ = _ ∧ _
    rw [e1]
    show ∃ (r : Int) (hi : Nat) (ns2 : List Nd), (if (last : Int) = 0 then _ else _) = _ ∧ _
    rw [if_neg (by omega), dif_pos (by omega)]
    have hrg := g1.reg.2.2 rfl
    have hl1 : ns1[last]? = some d := by rw [p1.2 last hlt, hd]
    obtain ⟨_, hl1'⟩ := List.getElem?_eq_some_iff.1 hl1
    generalize hns2 : ns1.set (last : Int).toNat { ns1[(last : Int).toNat] with next := (i1 : Int) } = ns2
    have hlen2 : ns2.length = ns1.length := by rw [← hns2]; simp
    have hother : ∀ j, j ≠ last → ns2[j]? = ns1[j]? := fun j hj => by rw [← hns2]; exact List.getElem?_set_ne (by omega)
    have hlast2 : ns2[last]? = some { d with next := (i1 : Int) } := by
      rw [← hns2]
      have : (last : Int).toNat = last := by omega
      simp only [this]
      rw [List.getElem?_set_self (by omega), hl1']
    obtain ⟨r', hi, ns3, f1, f2, f3, f4, f5, f6, f7⟩ := bl_rest ns2 first i1 d1 hl2 (by omega) (by rw [hother i1 (by omega)]; exact t1) x1 (by omega) (by omega)
    have g1' : Nn ns3 (.st _ lp _) (ns.length - 1) i1 i1 _ _ := g1.congr ⟨fun j h1 h2 => by rw [f5 j (by omega) (by omega), hother j (by omega)], fun _ => ⟨(fun q => by cases q), fun d hd => by
      rw [t1] at hd
      injection hd with hd
      subst hd
      exact ⟨r', f6⟩⟩⟩
    rw [show ns2.length - 1 = i1 from by omega] at f7
    refine ⟨i1, hi, ns3, f1, f2, by omega, by omega, fun j hj hjl => ?_, ?_, .bcons f6 rfl g1' f7⟩
    · rw [f5 j (by omega) (by omega), hother j hjl, p1.2 j hj]
    · rw [f5 last (by omega) (by omega), hlast2]
theorem bl_chain {lp : Bool} {l : List T} {al al' n n' : Nat} {ns : List Nd} (h : WB al lp l n n' al') (hm : 2 * szL l ≤ m + 1) (h1 : 1 ≤ ns.length) (hb : ns.length + 4 * szL l ≤ 90000) : LayL (chainF fc l ns) ns (.bl al lp al') n n' (4 * szL l) := by
  unfold chainF
  rw [if_pos (by have := szL_len l; omega)]
  cases l with
  | nil =>
    cases h
    exact ⟨0, ns.length - 1, ns, rfl, by omega, .refl _, by omega, .bnil⟩
  | cons t l =>
    simp only [szL] at hm hb ⊢
    cases h with
    | cons ht hl2 =>
    have hst : t.isStmt = true := by cases ht <;> rfl
    obtain ⟨i1, ns1, d1, e1, l1, p1, w1, t1, x1, g1⟩ := stmt_lay hc ht (by omega) h1 (by omega)
    have q1 := p1.1
    have hrg := g1.reg.2.2 rfl
    have e2 : chainL fc (t :: l) 0 0 ns = chainL fc l i1 i1 ns1 := by
      conv => lhs; unfold chainL layF
      rw [hst]
      show bind2 (stmtF fc t ns) _ = _
      rw [e1]
      rfl
    rw [e2]
    obtain ⟨r', hi, ns3, f1, f2, f3, f4, f5, f6, f7⟩ := bl_rest hc ns1 i1 i1 d1 hl2 (by omega) t1 x1 (by omega) (by omega)
    have g1' : Nn ns3 (.st _ lp _) (ns.length - 1) i1 i1 _ _ := g1.congr ⟨fun j h1 h2 => by rw [f5 j (by omega) (by omega)], fun _ => ⟨(fun q => by cases q), fun d hd => by
      rw [t1] at hd
      injection hd with hd
      subst hd
      exact ⟨r', f6⟩⟩⟩
    rw [show ns1.length - 1 = i1 from by omega] at f7
    refine ⟨i1, hi, ns3, f1, f2, ⟨by omega, fun j hj => ?_⟩, by omega, .bcons f6 rfl g1' f7⟩
    rw [f5 j (by omega) (by omega), p1.2 j hj]
theorem it_rest : ∀ {l : List T} {q n n' : Nat} (ns : List Nd) (first : Int) (last : Nat) (d : Nd), WI q l n n' → 2 * szL l ≤ m + 1 → ns[last]? = some d → d.next = 0 → 1 ≤ last → ns.length + 4 * szL l ≤ 90000 →
    ∃ (r : Int) (hi : Nat) (ns1 : List Nd), chainL fc l first last ns = some (first, ns1) ∧ ns1.length = hi + 1 ∧ ns.length ≤ ns1.length ∧ ns1.length ≤ ns.length + 4 * szL l ∧ (∀ j, j < ns.length → j ≠ last → ns1[j]? = ns[j]?) ∧ ns1[last]? = some { d with next := r } ∧ Nn ns1 (.it q l.length) (ns.length - 1) hi r n n'
  | [], q, n, n', ns, first, last, d, h, hm, hd, hn, hl, hb => by
    cases h
    have hlt := (List.getElem?_eq_some_iff.1 hd).1
    refine ⟨0, ns.length - 1, ns, rfl, by omega, Nat.le_refl _, by omega, fun _ _ _ => rfl, ?_, .inil⟩
    rw [hd]
    cases d
    cases hn
    rfl
  | t :: l, q, n, n', ns, first, last, d, h, hm, hd, hn, hl, hb => by
    have hlt := (List.getElem?_eq_some_iff.1 hd).1
    simp only [szL] at hm hb ⊢
    cases h with
    | cons ht hl2 =>
    have hst : t.isStmt = false := by cases ht <;> rfl
    obtain ⟨i1, ns1, d1, e1, l1, p1, w1, t1, x1, g1⟩ := expr_lay hc ht (by omega) (show 1 ≤ ns.length by omega) (by omega)
    have q1 := p1.1
    unfold chainL layF
    rw [hst]
    show ∃ (r : Int) (hi : Nat) (ns2 : List Nd), bind2 (exprF fc t ns) _ = _ ∧ _
    rw [e1]
    show ∃ (r : Int) (hi : Nat) (ns2 : List Nd), (if (last : Int) = 0 then _ else _) = _ ∧ _
    rw [if_neg (by omega), dif_pos (by omega)]
    have hrg := g1.reg.2.2 rfl
    have hl1 : ns1[last]? = some d := by rw [p1.2 last hlt, hd]
    obtain ⟨_, hl1'⟩ := List.getElem?_eq_some_iff.1 hl1
    generalize hns2 : ns1.set (last : Int).toNat { ns1[(last : Int).toNat] with next := (i1 : Int) } = ns2
    have hlen2 : ns2.length = ns1.length := by rw [← hns2]; simp
    have hother : ∀ j, j ≠ last → ns2[j]? = ns1[j]? := fun j hj => by rw [← hns2]; exact List.getElem?_set_ne (by omega)
    have hlast2 : ns2[last]? = some { d with next := (i1 : Int) } := by
      rw [← hns2]
      have : (last : Int).toNat = last := by omega
      simp only [this]
      rw [List.getElem?_set_self (by omega), hl1']
    obtain ⟨r', hi, ns3, f1, f2, f3, f4, f5, f6, f7⟩ := it_rest ns2 first i1 d1 hl2 (by omega) (by rw [hother i1 (by omega)]; exact t1) x1 (by omega) (by omega)
    have g1' : Nn ns3 (.ex q) (ns.length - 1) i1 i1 _ _ := g1.congr ⟨fun j h1 h2 => by rw [f5 j (by omega) (by omega), hother j (by omega)], fun _ => ⟨(fun q => by cases q), fun d hd => by
      rw [t1] at hd
      injection hd with hd
      subst hd
      exact ⟨r', f6⟩⟩⟩
    rw [show ns2.length - 1 = i1 from by omega] at f7
    refine ⟨i1, hi, ns3, f1, f2, by omega, by omega, fun j hj hjl => ?_, ?_, .icons f6 rfl g1' f7⟩
    · rw [f5 j (by omega) (by omega), hother j hjl, p1.2 j hj]
    · rw [f5 last (by omega) (by omega), hlast2]
theorem it_chain {l : List T} {q n n' : Nat} {ns : List Nd} (h : WI q l n n') (hm : 2 * szL l ≤ m + 1) (h1 : 1 ≤ ns.length) (hb : ns.length + 4 * szL l ≤ 90000) : LayL (chainF fc l ns) ns (.it q l.length) n n' (4 * szL l) := by
  unfold chainF
  rw [if_pos (by have := szL_len l; omega)]
  cases l with
  | nil =>
    cases h
    exact ⟨0, ns.length - 1, ns, rfl, by omega, .refl _, by omega, .inil⟩
  | cons t l =>
    simp only [szL] at hm hb ⊢
    cases h with
    | cons ht hl2 =>
    have hst : t.isStmt = false := by cases ht <;> rfl
    obtain ⟨i1, ns1, d1, e1, l1, p1, w1, t1, x1, g1⟩ := expr_lay hc ht (by omega) h1 (by omega)
    have q1 := p1.1
    have hrg := g1.reg.2.2 rfl
    have e2 : chainL fc (t :: l) 0 0 ns = chainL fc l i1 i1 ns1 := by
      conv => lhs; unfold chainL layF
      rw [hst]
      show bind2 (exprF fc t ns) _ = _
      rw [e1]
      rfl
    rw [e2]
    obtain ⟨r', hi, ns3, f1, f2, f3, f4, f5, f6, f7⟩ := it_rest hc ns1 i1 i1 d1 hl2 (by omega) t1 x1 (by omega) (by omega)
    have g1' : Nn ns3 (.ex q) (ns.length - 1) i1 i1 _ _ := g1.congr ⟨fun j h1 h2 => by rw [f5 j (by omega) (by omega)], fun _ => ⟨(fun q => by cases q), fun d hd => by
      rw [t1] at hd
      injection hd with hd
      subst hd
      exact ⟨r', f6⟩⟩⟩
    rw [show ns1.length - 1 = i1 from by omega] at f7
    refine ⟨i1, hi, ns3, f1, f2, ⟨by omega, fun j hj => ?_⟩, by omega, .icons f6 rfl g1' f7⟩
    rw [f5 j (by omega) (by omega), p1.2 j hj]
omit hc in
theorem ps_rest : ∀ {l : List T} {n : Nat} (ns : List Nd) (first : Int) (last : Nat) (d : Nd), WP l → ns[last]? = some d → d.next = 0 → 1 ≤ last → ns.length + l.length ≤ 90000 →
    ∃ (r : Int) (hi : Nat) (ns1 : List Nd), chainL fc l first last ns = some (first, ns1) ∧ ns1.length = hi + 1 ∧ ns.length ≤ ns1.length ∧ ns1.length ≤ ns.length + l.length ∧ (∀ j, j < ns.length → j ≠ last → ns1[j]? = ns[j]?) ∧ ns1[last]? = some { d with next := r } ∧ Nn ns1 (.ps l.length) (ns.length - 1) hi r n n
  | [], n, ns, first, last, d, h, hd, hn, hl, hb => by
    have hlt := (List.getElem?_eq_some_iff.1 hd).1
    refine ⟨0, ns.length - 1, ns, rfl, by omega, Nat.le_refl _, by omega, fun _ _ _ => rfl, ?_, .pnil⟩
    rw [hd]
    cases d
    cases hn
    rfl
  | t :: l, n, ns, first, last, d, h, hd, hn, hl, hb => by
    have hlt := (List.getElem?_eq_some_iff.1 hd).1
    obtain ⟨a, s, rfl, hs⟩ := h t (List.mem_cons_self)
    simp only [List.length_cons] at hb ⊢
    unfold chainL
    show ∃ (r : Int) (hi : Nat) (ns2 : List Nd), bind2 (addF ⟨17, 0, 0, 0, 0, 0, s, a⟩ ns) _ = _ ∧ _
    unfold addF
    rw [if_pos (by omega)]
    generalize hns1 : ns ++ [⟨17, 0, 0, 0, 0, 0, s, a⟩] = ns1
    show ∃ (r : Int) (hi : Nat) (ns2 : List Nd), (if (last : Int) = 0 then _ else _) = _ ∧ _
    rw [if_neg (by omega), dif_pos (by rw [← hns1]; simp; omega)]
    have l1 : ns1.length = ns.length + 1 := by rw [← hns1]; simp
    have p1 : Pfx ns ns1 := by rw [← hns1]; exact .snoc _ _
    have t1 : ns1[ns.length]? = some ⟨17, 0, 0, 0, 0, 0, s, a⟩ := by rw [← hns1]; exact top_at _ _
    have hl1 : ns1[last]? = some d := by rw [p1.2 last hlt, hd]
    obtain ⟨_, hl1'⟩ := List.getElem?_eq_some_iff.1 hl1
    generalize hns2 : ns1.set (last : Int).toNat { ns1[(last : Int).toNat]'(by omega) with next := (ns.length : Int) } = ns2
    have hlen2 : ns2.length = ns1.length := by rw [← hns2]; simp
    have hother : ∀ j, j ≠ last → ns2[j]? = ns1[j]? := fun j hj => by rw [← hns2]; exact List.getElem?_set_ne (by omega)
    have hlast2 : ns2[last]? = some { d with next := (ns.length : Int) } := by
      rw [← hns2]
      have : (last : Int).toNat = last := by omega
      simp only [this]
      rw [List.getElem?_set_self (by omega), hl1']
    obtain ⟨r', hi, ns3, f1, f2, f3, f4, f5, f6, f7⟩ := ps_rest (n := n) ns2 first ns.length ⟨17, 0, 0, 0, 0, 0, s, a⟩ (fun t ht => h t (List.mem_cons_of_mem _ ht)) (by rw [hother _ (by omega)]; exact t1) rfl (by omega) (by omega)
    rw [show ns2.length - 1 = ns.length from by omega] at f7
    refine ⟨ns.length, hi, ns3, f1, f2, by omega, by omega, fun j hj hjl => ?_, ?_, .pcons f6 rfl hs (by omega) f7⟩
    · rw [f5 j (by omega) (by omega), hother j hjl, p1.2 j hj]
    · rw [f5 last (by omega) (by omega), hlast2]
omit hc in
theorem ps_chain {l : List T} {n : Nat} {ns : List Nd} (h : WP l) (h1 : 1 ≤ ns.length) (hl : l.length ≤ 3) (hb : ns.length + 3 ≤ 90000) : LayL (chainF fc l ns) ns (.ps l.length) n n l.length := by
  unfold chainF
  rw [if_pos (by omega)]
  cases l with
  | nil => exact ⟨0, ns.length - 1, ns, rfl, by omega, .refl _, by omega, .pnil⟩
  | cons t l =>
    obtain ⟨a, s, rfl, hs⟩ := h t (List.mem_cons_self)
    simp only [List.length_cons] at hl ⊢
    have e2 : chainL fc (.name a s :: l) 0 0 ns = chainL fc l ns.length ns.length (ns ++ [⟨17, 0, 0, 0, 0, 0, s, a⟩]) := by
      conv => lhs; unfold chainL
      show bind2 (addF ⟨17, 0, 0, 0, 0, 0, s, a⟩ ns) _ = _
      unfold addF
      rw [if_pos (by omega)]
      rfl
    rw [e2]
    obtain ⟨r', hi, ns3, f1, f2, f3, f4, f5, f6, f7⟩ := ps_rest (fc := fc) (n := n) (ns ++ [⟨17, 0, 0, 0, 0, 0, s, a⟩]) ns.length ns.length ⟨17, 0, 0, 0, 0, 0, s, a⟩ (fun t ht => h t (List.mem_cons_of_mem _ ht)) (top_at _ _) rfl (by omega) (by simp; omega)
    simp only [List.length_append, List.length_singleton] at f3 f4 f5 f7
    rw [show ns.length + 1 - 1 = ns.length from by omega] at f7
    refine ⟨ns.length, hi, ns3, f1, f2, ⟨by omega, fun j hj => ?_⟩, by omega, .pcons f6 rfl hs (by omega) f7⟩
    rw [f5 j (by omega) (by omega), (Pfx.snoc _ _).2 j hj]
end
theorem func_k {fc : RecF} {c num : Int} {ps body : List T} {ns ns1 : List Nd} {hi : Nat} {d : Nd} (h : exprF fc (.func c num ps body) ns = some ((hi : Int), ns1)) (hd : ns1[hi]? = some d) : d.k = 20 := by
  unfold exprF at h
  dsimp only at h
  obtain ⟨p, n2, _, h⟩ := bnd2 h
  obtain ⟨q, n3, _, h⟩ := bnd2 h
  unfold addF at h
  split at h
  · injection h with h
    injection h with h1 h2
    subst h2
    have e : hi = n3.length := by omega
    subst e
    rw [top_at] at hd
    injection hd with hd
    rw [← hd]
  · cases h
theorem recF_ok : ∀ m, FcOk m (recF m)
  | 0 => ⟨fun _ h => by omega, fun _ h => by omega, fun h => by omega, fun _ _ h => by omega, fun _ h => by omega, fun _ h => by omega, (fun h => by cases h), fun _ h => by omega⟩
  | m + 1 => by
    have ih := recF_ok m
    exact ⟨fun h hm h1 hb => expr_lay ih h (by omega) h1 hb, fun h hm h1 hb => call_lay ih h (by omega) h1 hb, fun _ => rfl, fun hx hk hm h1 hb => index_lay ih hx hk (by omega) h1 hb, fun h hm h1 hb => it_chain ih h (by omega) h1 hb, fun h hm h1 hb => bl_chain ih h (by omega) h1 hb, fun h hd => func_k h hd, fun h _ h1 hl hb => ps_chain h h1 hl hb⟩
/-- What the front end makes of the text: an error, or nodes in form. -/
theorem front_nodes (src : List UInt8) : (∃ e at_, (e = 1 ∨ e = 2 ∨ (13 ≤ e ∧ e ≤ 20)) ∧ (e = 1 ↔ 2048 < src.length) ∧ (0 ≤ at_ ∧ at_ ≤ (src.length : Int)) ∧ ∀ toks0 nodes0, ∃ toks ns, parseS 100000 src toks0 nodes0 = some (.err e at_, toks, ns)) ∨
    (src.length ≤ 2048 ∧ ∃ (ns : List Nd) (root : Int) (n al hi : Nat), n ≤ 12 ∧ ns.length = hi + 1 ∧ hi ≤ 300 ∧ ns[0]? = some nd0 ∧ Nn ns (.bl 0 false al) 0 hi root 0 n ∧ ∀ toks0 nodes0, ∃ toks, parseS 100000 src toks0 nodes0 = some (.ok ns root, toks, ns)) := by
  rcases parse_front src with ⟨e, a, h1, h2, h3, h4⟩ | ⟨hl, chunk, n, al, hn, hsz, hw, toks, hp⟩
  · exact .inl ⟨e, a, h1, h2, h3, fun t0 n0 => by obtain ⟨t, h⟩ := h4 t0 n0; exact ⟨t, n0, h⟩⟩
  · generalize hF : (100000 : Nat) = F at hp ⊢
    obtain ⟨root, hi, ns, e1, l1, p1, w1, g1⟩ := (recF_ok F).bl (ns := [nd0]) hw (by omega) (by simp) (by simp; omega)
    simp only [List.length_singleton] at w1
    have h0 : ns[0]? = some nd0 := by rw [p1.2 0 (by simp)]; rfl
    rw [e1] at hp
    by_cases h3 : 300 < (ns.length : Int) - 1
    · refine .inl ⟨17, src.length, by omega, by omega, by omega, fun t0 n0 => ⟨toks, ns, ?_⟩⟩
      rw [hp]
      show (if ns.length ≤ 1000000 then _ else _) = _
      rw [if_pos (by omega), if_pos h3]
    · refine .inr ⟨hl, ns, root, n, al, hi, hn, l1, by omega, h0, g1, fun t0 n0 => ⟨toks, ?_⟩⟩
      rw [hp]
      show (if ns.length ≤ 1000000 then _ else _) = _
      rw [if_pos (by omega), if_neg h3]
end Go.Wl
