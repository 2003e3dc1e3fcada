/- Plain: the compiler: for. -/
import Derived.Test.Qxb6500573aGreatDoorQM
namespace Go.Wl
open Go Go.Sl Go.Proofs
set_option linter.unusedVariables false
theorem num1_ok : numOk 4607182418800017408 := numOk_of (x := 4607182418800017408) (by decide) (by decide)
section
variable {ns : List Nd}
theorem st_for2 {al lo m1 m2 m3 hi n n1 n2 n3 q q1 a1 : Nat} {lp : Bool} {a nx r : Int} {s : List UInt8} {d1 d2 : Nd} (hd : ns[hi]? = some ⟨8, m1, r, 0, nx, 0, s, a⟩) (hl1 : lo < m1) (hl2 : m1 < m2) (hl3 : m2 ≤ m3) (hn12 : n1 ≤ n2) (hn23 : n2 ≤ n3) (hl : m3 < hi) (hs : nameOk s) (hf : ExL ns q lo m1 m1 n n1) (hd1 : ns[m1]? = some d1) (hn1 : d1.next = m2) (hg : ExL ns q1 m1 m2 m2 n1 n2) (hd2 : ns[m2]? = some d2) (hn2 : d2.next = 0) (hq : q ≤ QQ) (hq1 : q1 ≤ QQ) (h : al + 4 ≤ 12) (h1 : BsL ns (al + 4) true a1 m2 m3 r n2 n3) : StL ns al lp al lo hi hi n n3 := by
  intro m k B ch L f z bt hm hn hB hI hz hal hlo hlp
  have hhi := lt_of hd
  obtain ⟨m, rfl⟩ : ∃ j, m = j + 1 := ⟨m - 1, by omega⟩
  unfold QQ at *
  have hzl : z.length = al := by rw [hz.1, hal]
  have hal2 := hI.al
  obtain ⟨L1, f1, c1, a1', a2, a3, a4, a5, a6⟩ := hf m k B ch L f z (by omega) (by omega) (by omega) hI hz
  have hf1 : f1.locals.length = al := by rw [a2, hal]
  obtain ⟨L2, b1⟩ := bind_go a1'.inv [] (by omega) (by omega)
  rw [hf1] at b1
  have hz1 : Zl (z ++ [1]) (f1.locals ++ [([] : List UInt8)]) := by
    rw [a2]
    exact hid_zl hz 1 rfl
  obtain ⟨L3, f3, c3, d1', e2, e3, e4, e5, e6⟩ := hg m k _ ch L2 _ (z ++ [1]) (by omega) (by omega) (by omega) b1.inv hz1
  dsimp only at e2 e3 e4 e5
  have hf3 : f3.locals.length = al + 1 := by rw [e2, List.length_append, hf1]; rfl
  obtain ⟨L4, b2⟩ := bind_go d1'.inv [] (by omega) (by omega)
  rw [hf3] at b2
  have hz2 : Zl (z ++ [1, 1]) (f3.locals ++ [([] : List UInt8)]) := by
    rw [e2, a2, List.append_assoc]
    exact hid_zl hz 2 rfl
  obtain ⟨Lq, fq, i, q1', q2, q3, q4, q5, q6, q7, q8⟩ := cnum_go b2.inv num1_ok (.inl rfl) (by omega)
  obtain ⟨L5, u1⟩ := emit_to q2 [((1 : Int), i)] rfl (by simp; omega)
  have t1 : Go ns k ch (stepM (recC ns m) k 0) L4 _ L5 { fq with code := fq.code ++ [((1 : Int), i)] } n2 _ := (go_bindV (G := fun i s => emitM k [(1, i)] s) q1' q3 u1).congr fun s hs => by unfold stepM; rw [if_neg (by decide)]
  obtain ⟨f5, hf5⟩ : ∃ f5 : Fs, f5 = { fq with code := fq.code ++ [((1 : Int), i)] } := ⟨_, rfl⟩
  rw [← hf5] at t1
  have t2 : f5.locals = f3.locals ++ [[]] := by rw [hf5]; exact q4
  have t3 : f5.loops = f3.loops := by rw [hf5]; exact q5
  obtain ⟨c5, hc5⟩ : ∃ c5 : List In, c5 = [((1 : Int), i)] := ⟨_, rfl⟩
  have t4 : f5.code = f3.code ++ [((6 : Int), ((al + 1 : Nat) : Int))] ++ c5 := by rw [hf5, hc5]; dsimp only; rw [q6]
  have t5 : ∀ (g : Pg) (p : Pr), EnvF g p f5 → (al : Int) + 2 ≤ p.nslots → Ck g p [] 128 (f3.code ++ [((6 : Int), ((al + 1 : Nat) : Int))]).length c5 ⟨[], z ++ [1, 1]⟩ ⟨[false], z ++ [1, 1]⟩ := fun g p hF hp => by
    rw [hf5] at hF
    have h1 := (hF.ks i.toNat _ q8).1
    rw [hc5]
    exact Ck.one (bB (by simp) (by simp; omega)) q7 fun T hT he hL hn => .kon hT (by dsimp only; omega) ⟨by omega, he⟩
  have hloc5 : f5.locals = f.locals ++ [[], []] := by rw [t2, e2, a2]; simp
  obtain ⟨L6, f6, c6, r1, r2, r3, r4, r5, r6⟩ := round_go (al := al) (d := ⟨8, m1, r, 0, nx, 0, s, a⟩) h1 (by omega) (m := m) (by omega) (by omega) hn (by first | omega | (simp only [List.length_cons, List.length_nil]; omega)) t1.inv hloc5 hz hal h (by rw [t3, e3, a3]; omega) hs
  have hgo := Go.trans a1' (Go.trans b1 (Go.trans d1' (Go.trans b2 (Go.trans t1 r1))))
  have hl1' : f1.code.length = f.code.length + c1.length := by rw [a4, List.length_append]
  have hl3' : f3.code.length = f.code.length + c1.length + 1 + c3.length := by rw [e4]; simp; omega
  have hl5' : f5.code.length = f.code.length + c1.length + 1 + c3.length + 1 + c5.length := by rw [t4]; simp; omega
  refine ⟨L6, f6, [], (c1 ++ ([((6 : Int), (al : Int))] ++ (c3 ++ ([((6 : Int), ((al + 1 : Nat) : Int))] ++ (c5 ++ c6))))).map some, (hgo.congr fun s hs => ?_).mono (by first | omega | (simp only [List.length_cons, List.length_nil]; omega)), by rw [r2]; simp, (fun x hx => by cases hx), rfl, by rw [fill_some, r4, t4, e4, a4]; simp, ?_, fun b X hX g p hF hC => ?_, fun P Es b br hF hEs hB hA => ?_⟩
  · show stmtM ns (recC ns m) k hi s = _
    unfold stmtM
    rw [hs.get hI.at_, nd_nat, hd]
    show countM ns (recC ns m) k _ s = _
    unfold countM
    rw [hs.get hI.at_]
    show (if f.locals.length < 1000000 then _ else _) = _
    rw [if_pos (by omega)]
    show bind1 (nd ns (m1 : Int)) _ = _
    rw [nd_nat, hd1]
    show bind1 (nd ns d1.next) _ = _
    rw [hn1, nd_nat, hd2, hal]
    show (bind1 _ fun s => bind1 _ fun s => bind1 _ fun s => bind1 _ fun s => bind1 (stepM (recC ns m) k d2.next s) _) = _
    rw [hn2]
  · rw [r3, t3, e3, a3]
    exact .same (some_map _)
  · have hkl := a1'.stp.kl.1
    have hln1 := a1'.stp.ln
    have hln2 := b1.stp.ln
    have hln3 := d1'.stp.ln
    have hln4 := b2.stp.ln
    have hln5 := t1.stp.ln
    have hsl := (hF.mono (t1.stp.fx.trans r1.stp.fx)).sl
    dsimp only at hsl
    rw [fill_some]
    simp only [List.length_nil, List.replicate_zero, List.append_nil]
    have hzz : z.length ≤ p.nslots.toNat := by omega
    have hzz1 : (z ++ [1]).length ≤ p.nslots.toNat := by simp; omega
    have k1 := (a5 []).up (b1.stp.trans (d1'.stp.trans (b2.stp.trans (t1.stp.trans r1.stp)))) hkl (Nat.le_refl _) g p hF hC
    have k3 := (e5 []).up (a' := L.length) (b2.stp.trans (t1.stp.trans r1.stp)) (by omega) (by omega) g p hF hC
    have k5 := t5 g p (hF.mono r1.stp.fx) (by omega)
    have k6 := r5 g p hF (hC.sub (by omega) (Nat.le_refl _) fun _ _ _ => rfl)
    refine (k1.weak (fun _ h => by cases h) (show [].length + q ≤ 128 by simp; omega)).app ?_
    refine Ck.app (t1 := ⟨[], z ++ [1]⟩) (ck_set (st := []) (by omega) (by omega) (none_at (by omega)) (by simp) hzz (le_app _ _ _ (by decide))) ?_
    rw [List.length_append, hl1'] at k3
    refine (k3.weak (fun _ h => by cases h) (show [].length + q1 ≤ 128 by simp; omega)).app ?_
    refine Ck.app (t1 := ⟨[], z ++ [1, 1]⟩) (ck_set (st := []) (by omega) (by omega) (none_at (by simp; omega)) (by simp) hzz1 ?_) ?_
    · have := le_app [] (z ++ [1]) [1] (by decide)
      rw [List.append_assoc] at this
      exact this
    · rw [hl5'] at k6
      refine Ck.app (t1 := ⟨[false], z ++ [1, 1]⟩) ?_ (k6.weak (fun _ h => by cases h) (Nat.le_refl _))
      rw [show (f3.code ++ [((6 : Int), ((al + 1 : Nat) : Int))]).length = f.code.length + c1.length + 1 + c3.length + 1 from by rw [List.length_append, hl3']; rfl] at k5
      exact k5.weak (fun _ h => by cases h) (Nat.le_refl _)
  · rw [fill_some] at hA
    have hkl := a1'.stp.kl.1
    have hln1 := a1'.stp.ln
    have hln2 := b1.stp.ln
    have hln3 := d1'.stp.ln
    have hln4 := b2.stp.ln
    have hln5 := t1.stp.ln
    have F5 := hF.back r1.stp t1.inv.at_ r1.inv.at_ hkl
    have F4 := F5.back t1.stp b2.inv.at_ t1.inv.at_ hkl
    have F3 := F4.back b2.stp d1'.inv.at_ b2.inv.at_ hkl
    have F2 := F3.back d1'.stp b1.inv.at_ d1'.inv.at_ hkl
    have F1 := F2.back b1.stp a1'.inv.at_ b1.inv.at_ hkl
    have Es2 := b1.stp.sco (a1'.stp.sco hEs)
    have Es4 := b2.stp.sco (d1'.stp.sco Es2)
    have v1 := a6 P Es F1 hEs hA.left
    have v3 := e6 P Es (F3.lo (by omega)) Es2 (hA.right.right.left.atE (by dsimp only; rw [List.length_append, hl1']))
    dsimp only at v3
    rw [a2, List.length_append, hl1'] at v3
    have v6 := r6 P Es (hF.lo (by omega)) (t1.stp.sco Es4) (hA.right.right.right.right.right.atE (by rw [hl5']; simp))
    dsimp only at v6
    rw [hl5'] at v6
    refine ((v1.and v3).and v6).up fun m h => ?_
    obtain ⟨⟨w1, w3⟩, w6⟩ := h
    have w5 : (if d2.next ≠ 0 then (recS ns P m).expr k Es (f.locals ++ [[], []]) (f.code.length + c1.length + 1 + c3.length + 1) d2.next (f.code.length + c1.length + 1 + c3.length + 1 + c5.length) else ∃ i, insP P k (f.code.length + c1.length + 1 + c3.length + 1) = some (1, i) ∧ kP P k i ⟨2, 4607182418800017408, []⟩ ∧ f.code.length + c1.length + 1 + c3.length + 1 + c5.length = f.code.length + c1.length + 1 + c3.length + 2) := by
      rw [if_neg (by rw [hn2]; decide)]
      obtain ⟨h', y1, y2, _⟩ := F5.ext k _ u1.inv.at_
      refine ⟨i, hA.right.right.right.right.left.ins (j := 0) (by rw [hc5]; rfl) (by simp), ⟨q7.1, h', y1, pfx_at y2 q8⟩, by rw [hc5]; rfl⟩
    refine ⟨_, (nd_nat ns hi).trans hd, ?_⟩
    dsimp only
    rw [if_neg (by decide), if_neg (by decide), if_neg (by decide)]
    refine ⟨r2, ?_⟩
    ((try dsimp only); (repeat rw [if_neg (by decide)]); rw [if_pos rfl])
    rw [hal]
    refine ⟨d1, d2, _, _, _, (nd_nat ns m1).trans hd1, by rw [hn1]; exact (nd_nat ns m2).trans hd2, w1, hA.right.left.one, by rw [hn1]; exact w3, hA.right.right.right.left.one, w5, ?_⟩
    have e9 : f.code.length + ((c1 ++ ([((6 : Int), (al : Int))] ++ (c3 ++ ([((6 : Int), ((al + 1 : Nat) : Int))] ++ (c5 ++ c6))))).map some).length = f.code.length + c1.length + 1 + c3.length + 1 + c5.length + c6.length := by simp; omega
    rw [e9]
    exact w6
theorem st_for3 {al lo m1 m2 m3 m4 hi n n1 n2 n3 n4 q q1 q2 a1 : Nat} {lp : Bool} {a nx r : Int} {s : List UInt8} {d1 d2 : Nd} (hd : ns[hi]? = some ⟨8, m1, r, 0, nx, 0, s, a⟩) (hl1 : lo < m1) (hl2 : m1 < m2) (hl3 : m2 < m3) (hl4 : m3 ≤ m4) (hn12 : n1 ≤ n2) (hn23 : n2 ≤ n3) (hn34 : n3 ≤ n4) (hl : m4 < hi) (hs : nameOk s) (hf : ExL ns q lo m1 m1 n n1) (hd1 : ns[m1]? = some d1) (hn1 : d1.next = m2) (hg : ExL ns q1 m1 m2 m2 n1 n2) (hd2 : ns[m2]? = some d2) (hn2 : d2.next = m3) (hst : ExL ns q2 m2 m3 m3 n2 n3) (hq2 : q2 ≤ QQ) (hq : q ≤ QQ) (hq1 : q1 ≤ QQ) (h : al + 4 ≤ 12) (h1 : BsL ns (al + 4) true a1 m3 m4 r n3 n4) : StL ns al lp al lo hi hi n n4 := by
  intro m k B ch L f z bt hm hn hB hI hz hal hlo hlp
  have hhi := lt_of hd
  obtain ⟨m, rfl⟩ : ∃ j, m = j + 1 := ⟨m - 1, by omega⟩
  unfold QQ at *
  have hzl : z.length = al := by rw [hz.1, hal]
  have hal2 := hI.al
  obtain ⟨L1, f1, c1, a1', a2, a3, a4, a5, a6⟩ := hf m k B ch L f z (by omega) (by omega) (by omega) hI hz
  have hf1 : f1.locals.length = al := by rw [a2, hal]
  obtain ⟨L2, b1⟩ := bind_go a1'.inv [] (by omega) (by omega)
  rw [hf1] at b1
  have hz1 : Zl (z ++ [1]) (f1.locals ++ [([] : List UInt8)]) := by
    rw [a2]
    exact hid_zl hz 1 rfl
  obtain ⟨L3, f3, c3, d1', e2, e3, e4, e5, e6⟩ := hg m k _ ch L2 _ (z ++ [1]) (by omega) (by omega) (by omega) b1.inv hz1
  dsimp only at e2 e3 e4 e5
  have hf3 : f3.locals.length = al + 1 := by rw [e2, List.length_append, hf1]; rfl
  obtain ⟨L4, b2⟩ := bind_go d1'.inv [] (by omega) (by omega)
  rw [hf3] at b2
  have hz2 : Zl (z ++ [1, 1]) (f3.locals ++ [([] : List UInt8)]) := by
    rw [e2, a2, List.append_assoc]
    exact hid_zl hz 2 rfl
  obtain ⟨L5, f5, c5, t1', t2, t3, t4, t5, t6⟩ := hst m k _ ch L4 _ (z ++ [1, 1]) (by omega) (by omega) (by omega) b2.inv hz2
  dsimp only at t2 t3 t4 t5
  have t1 : Go ns k ch (stepM (recC ns m) k (m3 : Int)) L4 _ L5 f5 n3 _ := t1'.congr fun s hs => by unfold stepM; rw [if_pos (by omega)]
  have hloc5 : f5.locals = f.locals ++ [[], []] := by rw [t2, e2, a2]; simp
  obtain ⟨L6, f6, c6, r1, r2, r3, r4, r5, r6⟩ := round_go (al := al) (d := ⟨8, m1, r, 0, nx, 0, s, a⟩) h1 (by omega) (m := m) (by omega) (by omega) hn (by first | omega | (simp only [List.length_cons, List.length_nil]; omega)) t1.inv hloc5 hz hal h (by rw [t3, e3, a3]; omega) hs
  have hgo := Go.trans a1' (Go.trans b1 (Go.trans d1' (Go.trans b2 (Go.trans t1 r1))))
  have hl1' : f1.code.length = f.code.length + c1.length := by rw [a4, List.length_append]
  have hl3' : f3.code.length = f.code.length + c1.length + 1 + c3.length := by rw [e4]; simp; omega
  have hl5' : f5.code.length = f.code.length + c1.length + 1 + c3.length + 1 + c5.length := by rw [t4]; simp; omega
  refine ⟨L6, f6, [], (c1 ++ ([((6 : Int), (al : Int))] ++ (c3 ++ ([((6 : Int), ((al + 1 : Nat) : Int))] ++ (c5 ++ c6))))).map some, (hgo.congr fun s hs => ?_).mono (by first | omega | (simp only [List.length_cons, List.length_nil]; omega)), by rw [r2]; simp, (fun x hx => by cases hx), rfl, by rw [fill_some, r4, t4, e4, a4]; simp, ?_, fun b X hX g p hF hC => ?_, fun P Es b br hF hEs hB hA => ?_⟩
  · show stmtM ns (recC ns m) k hi s = _
    unfold stmtM
    rw [hs.get hI.at_, nd_nat, hd]
    show countM ns (recC ns m) k _ s = _
    unfold countM
    rw [hs.get hI.at_]
    show (if f.locals.length < 1000000 then _ else _) = _
    rw [if_pos (by omega)]
    show bind1 (nd ns (m1 : Int)) _ = _
    rw [nd_nat, hd1]
    show bind1 (nd ns d1.next) _ = _
    rw [hn1, nd_nat, hd2, hal]
    show (bind1 _ fun s => bind1 _ fun s => bind1 _ fun s => bind1 _ fun s => bind1 (stepM (recC ns m) k d2.next s) _) = _
    rw [hn2]
  · rw [r3, t3, e3, a3]
    exact .same (some_map _)
  · have hkl := a1'.stp.kl.1
    have hln1 := a1'.stp.ln
    have hln2 := b1.stp.ln
    have hln3 := d1'.stp.ln
    have hln4 := b2.stp.ln
    have hln5 := t1.stp.ln
    have hsl := (hF.mono (t1.stp.fx.trans r1.stp.fx)).sl
    dsimp only at hsl
    rw [fill_some]
    simp only [List.length_nil, List.replicate_zero, List.append_nil]
    have hzz : z.length ≤ p.nslots.toNat := by omega
    have hzz1 : (z ++ [1]).length ≤ p.nslots.toNat := by simp; omega
    have k1 := (a5 []).up (b1.stp.trans (d1'.stp.trans (b2.stp.trans (t1.stp.trans r1.stp)))) hkl (Nat.le_refl _) g p hF hC
    have k3 := (e5 []).up (a' := L.length) (b2.stp.trans (t1.stp.trans r1.stp)) (by omega) (by omega) g p hF hC
    have k5 := (t5 []).up (a' := L.length) r1.stp (by omega) (by omega) g p hF hC
    have k6 := r5 g p hF (hC.sub (by omega) (Nat.le_refl _) fun _ _ _ => rfl)
    refine (k1.weak (fun _ h => by cases h) (show [].length + q ≤ 128 by simp; omega)).app ?_
    refine Ck.app (t1 := ⟨[], z ++ [1]⟩) (ck_set (st := []) (by omega) (by omega) (none_at (by omega)) (by simp) hzz (le_app _ _ _ (by decide))) ?_
    rw [List.length_append, hl1'] at k3
    refine (k3.weak (fun _ h => by cases h) (show [].length + q1 ≤ 128 by simp; omega)).app ?_
    refine Ck.app (t1 := ⟨[], z ++ [1, 1]⟩) (ck_set (st := []) (by omega) (by omega) (none_at (by simp; omega)) (by simp) hzz1 ?_) ?_
    · have := le_app [] (z ++ [1]) [1] (by decide)
      rw [List.append_assoc] at this
      exact this
    · rw [hl5'] at k6
      refine Ck.app (t1 := ⟨[false], z ++ [1, 1]⟩) ?_ (k6.weak (fun _ h => by cases h) (Nat.le_refl _))
      rw [show (f3.code ++ [((6 : Int), ((al + 1 : Nat) : Int))]).length = f.code.length + c1.length + 1 + c3.length + 1 from by rw [List.length_append, hl3']; rfl] at k5
      exact k5.weak (fun _ h => by cases h) (show [].length + q2 ≤ 128 by simp; omega)
  · rw [fill_some] at hA
    have hkl := a1'.stp.kl.1
    have hln1 := a1'.stp.ln
    have hln2 := b1.stp.ln
    have hln3 := d1'.stp.ln
    have hln4 := b2.stp.ln
    have hln5 := t1.stp.ln
    have F5 := hF.back r1.stp t1.inv.at_ r1.inv.at_ hkl
    have F4 := F5.back t1.stp b2.inv.at_ t1.inv.at_ hkl
    have F3 := F4.back b2.stp d1'.inv.at_ b2.inv.at_ hkl
    have F2 := F3.back d1'.stp b1.inv.at_ d1'.inv.at_ hkl
    have F1 := F2.back b1.stp a1'.inv.at_ b1.inv.at_ hkl
    have Es2 := b1.stp.sco (a1'.stp.sco hEs)
    have Es4 := b2.stp.sco (d1'.stp.sco Es2)
    have v1 := a6 P Es F1 hEs hA.left
    have v3 := e6 P Es (F3.lo (by omega)) Es2 (hA.right.right.left.atE (by dsimp only; rw [List.length_append, hl1']))
    dsimp only at v3
    rw [a2, List.length_append, hl1'] at v3
    have v6 := r6 P Es (hF.lo (by omega)) (t1.stp.sco Es4) (hA.right.right.right.right.right.atE (by rw [hl5']; simp))
    dsimp only at v6
    rw [hl5'] at v6
    have v5 := t6 P Es (F5.lo (by omega)) Es4 (hA.right.right.right.right.left.atE (by dsimp only; rw [List.length_append, hl3']; simp))
    dsimp only at v5
    rw [e2, a2, List.length_append, hl3', List.append_assoc] at v5
    refine (((v1.and v3).and v5).and v6).up fun m h => ?_
    obtain ⟨⟨⟨w1, w3⟩, w5⟩, w6⟩ := h
    have w5 : (if d2.next ≠ 0 then (recS ns P m).expr k Es (f.locals ++ [[], []]) (f.code.length + c1.length + 1 + c3.length + 1) d2.next (f.code.length + c1.length + 1 + c3.length + 1 + c5.length) else ∃ i, insP P k (f.code.length + c1.length + 1 + c3.length + 1) = some (1, i) ∧ kP P k i ⟨2, 4607182418800017408, []⟩ ∧ f.code.length + c1.length + 1 + c3.length + 1 + c5.length = f.code.length + c1.length + 1 + c3.length + 2) := by
      rw [if_pos (by omega), hn2]
      exact w5
    refine ⟨_, (nd_nat ns hi).trans hd, ?_⟩
    dsimp only
    rw [if_neg (by decide), if_neg (by decide), if_neg (by decide)]
    refine ⟨r2, ?_⟩
    ((try dsimp only); (repeat rw [if_neg (by decide)]); rw [if_pos rfl])
    rw [hal]
    refine ⟨d1, d2, _, _, _, (nd_nat ns m1).trans hd1, by rw [hn1]; exact (nd_nat ns m2).trans hd2, w1, hA.right.left.one, by rw [hn1]; exact w3, hA.right.right.right.left.one, w5, ?_⟩
    have e9 : f.code.length + ((c1 ++ ([((6 : Int), (al : Int))] ++ (c3 ++ ([((6 : Int), ((al + 1 : Nat) : Int))] ++ (c5 ++ c6))))).map some).length = f.code.length + c1.length + 1 + c3.length + 1 + c5.length + c6.length := by simp; omega
    rw [e9]
    exact w6
end
end Go.Wl
