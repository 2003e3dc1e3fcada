/- Plain: the compiler: simple statements. -/
import Derived.Test.Qxb6500573aGreatDoorQJ
namespace Go.Wl
open Go Go.Sl Go.Proofs
set_option linter.unusedVariables false
section
variable {ns : List Nd}
/-- No expression: nil. -/
theorem ex_zero (h0 : ns[0]? = some nd0) {m k B : Nat} {ch : List Nat} {L : List Fs} {f : Fs} {n : Nat} (hm : 1 ≤ m) (hB : B ≤ 50000) (hI : Inv ns k ch L f n B) : Go ns k ch ((recC ns m).expr k 0) L f (L.set k { f with code := f.code ++ [(2, 0)] }) { f with code := f.code ++ [(2, 0)] } n (B + 3) := by
  obtain ⟨m, rfl⟩ : ∃ j, m = j + 1 := ⟨m - 1, by omega⟩
  exact (emit_go hI [(2, 0)] (by simp; omega)).congr fun s hs => expr_node (hi := 0) h0 hI.at_ _ hs rfl
theorem sh_zero (h0 : ns[0]? = some nd0) {P : List Fs} {m k pc : Nat} {E : Sco} {l : List Nm8} (h : insP P k pc = some (2, 0)) : (recS ns P (m + 1)).expr k E l pc 0 (pc + 1) := ⟨nd0, (nd_nat ns 0).trans h0, by unfold nd0; rw [if_pos rfl]; exact ⟨h, rfl⟩⟩
theorem ck_zero {g : Pg} {p : Pr} {X : List (Nat × Ty)} {D o : Nat} {st : List Bool} {z : List Nat} (hD : st.length ≤ D) (hz : z.length ≤ p.nslots.toNat) : Ck g p X D o [(2, 0)] ⟨st, z⟩ ⟨st ++ [false], z⟩ :=
  Ck.one (bB hD hz) in0 fun T hT he hL hn => .lit (.inl rfl) hT ⟨by omega, he⟩
theorem none_at {z : List Nat} {x : Nat} (h : z.length ≤ x) : z[x]? ≠ some 2 := by rw [List.getElem?_eq_none h]; exact fun q => by cases q
theorem st_loc0 (h0 : ns[0]? = some nd0) {al lo hi n : Nat} {lp : Bool} {a nx : Int} {s : List UInt8} (hd : ns[hi]? = some ⟨1, 0, 0, 0, nx, 0, s, a⟩) (hl : lo < hi) (hs : nameOk s) (h : al + 1 ≤ 12) : StL ns al lp (al + 1) lo hi hi n n := by
  intro m k B ch L f z bt hm hn hB hI hz hal hlo hlp
  obtain ⟨m, rfl⟩ : ∃ j, m = j + 1 := ⟨m - 1, by omega⟩
  have a1 := ex_zero h0 (m := m) (by omega) (by omega) hI
  obtain ⟨L2, b1⟩ := bind_go a1.inv s (by dsimp only; omega) (by omega)
  refine ⟨L2, _, [s], [some (2, 0), some (6, (f.locals.length : Int))], ((Go.trans a1 b1).congr fun s hs => ?_).mono (by omega), rfl, fun x hx => ?_, rfl, by dsimp only; simp [fill], .same (fun x hx => ?_), fun b X hX g p hF hC => ?_, fun P E b br hF hE hB hA => ?_⟩
  · show stmtM ns (recC ns m) k hi s = _
    unfold stmtM
    rw [hs.get hI.at_, nd_nat, hd]
    rfl
  · rw [List.mem_singleton] at hx; subst hx; exact hs.1
  · rcases List.mem_cons.1 hx with rfl | hx
    · rfl
    · rw [List.mem_singleton] at hx; subst hx; rfl
  · have hzl := z_le hI hz hF (a1.stp.fx.trans b1.stp.fx)
    have hns := hF.sl
    have hzz := hz.1
    dsimp only at hns
    exact Ck.app (l := [(2, 0)]) (t1 := ⟨[false], z⟩) (ck_zero (by simp) hzl) (ck_set (st := []) (by omega) (by omega) (none_at (by omega)) (by simp) hzl (le_app _ _ _ (rep0 1)))
  · refine ⟨2, fun m hm => ?_⟩
    obtain ⟨j, rfl⟩ : ∃ j, m = j + 2 := ⟨m - 2, by omega⟩
    exact ⟨_, (nd_nat ns hi).trans hd, by ((try dsimp only); (repeat rw [if_neg (by decide)]); rw [if_pos rfl]); exact ⟨_, sh_zero h0 (hA 0 _ rfl), hA 1 _ rfl, rfl, rfl⟩⟩
theorem st_loc1 {al lo m1 hi n n1 q : Nat} {lp : Bool} {a nx : Int} {s : List UInt8} (hd : ns[hi]? = some ⟨1, m1, 0, 0, nx, 0, s, a⟩) (hl1 : lo < m1) (hl : m1 < hi) (hs : nameOk s) (hv : ExL ns q lo m1 m1 n n1) (hq : q ≤ QQ) (h : al + 1 ≤ 12) : StL ns al lp (al + 1) lo hi hi n n1 := by
  intro m k B ch L f z bt hm hn hB hI hz hal hlo hlp
  obtain ⟨m, rfl⟩ : ∃ j, m = j + 1 := ⟨m - 1, by omega⟩
  obtain ⟨L1, f1, c1, a1, a2, a3, a4, a5, a6⟩ := hv m k B ch L f z (by omega) hn (by omega) hI hz
  obtain ⟨L2, b1⟩ := bind_go a1.inv s (by rw [a2]; omega) (by omega)
  rw [a2, a4] at b1
  refine ⟨L2, _, [s], (c1 ++ [(6, (f.locals.length : Int))]).map some, ((Go.trans a1 b1).congr fun s hs => ?_).mono (by omega), rfl, fun x hx => ?_, rfl, by rw [fill_some]; dsimp only; rw [List.append_assoc], ?_, fun b X hX g p hF hC => ?_, fun P E b br hF hE hB hA => ?_⟩
  · show stmtM ns (recC ns m) k hi s = _
    unfold stmtM
    rw [hs.get hI.at_, nd_nat, hd]
    rfl
  · rw [List.mem_singleton] at hx; subst hx; exact hs.1
  · dsimp only
    rw [a3]
    exact .same (some_map _)
  · have hzl := z_le hI hz hF (a1.stp.fx.trans b1.stp.fx)
    have hns := hF.sl
    have hzz := hz.1
    dsimp only at hns
    rw [fill_some]
    have k1 := (a5 []).up b1.stp a1.stp.kl.1 (Nat.le_refl _) g p hF hC
    refine (k1.weak (fun _ h => by cases h) (show [].length + q ≤ 128 by simp; unfold QQ at hq; omega)).app (ck_set (st := []) (by omega) (by omega) (none_at (by omega)) (by simp) hzl (le_app _ _ _ (rep0 1)))
  · rw [fill_some] at hA
    refine (a6 P E (hF.back b1.stp a1.inv.at_ b1.inv.at_ a1.stp.kl.1) hE hA.left).up fun m h => ?_
    exact ⟨_, (nd_nat ns hi).trans hd, by ((try dsimp only); (repeat rw [if_neg (by decide)]); rw [if_pos rfl]); exact ⟨_, h, hA.right.one, by rw [List.length_map, List.length_append]; rfl, rfl⟩⟩
theorem ps_inv {len lo hi n n' : Nat} {r : Int} (h : Nn ns (.ps (len + 1)) lo hi r n n') : ∃ (m : Nat) (d : Nd), r = (m : Nat) ∧ ns[m]? = some d ∧ nameOk d.s ∧ lo < m ∧ m ≤ hi ∧ Nn ns (.ps len) m hi d.next n n' := by
  cases h with
  | pcons hd hn hs hm hl => exact ⟨_, _, rfl, hd, hs, hm, hl.reg.1, by rw [hn]; exact hl⟩
theorem st_loc2 {al lo m1 m2 hi n n1 q : Nat} {lp : Bool} {a nx r : Int} (hd : ns[hi]? = some ⟨2, r, m2, 0, nx, 0, [], a⟩) (hl1 : lo ≤ m1) (hl2 : m1 < m2) (hl : m2 < hi) (hp : Nn ns (.ps 2) lo m1 r n n) (hv : ClL ns q m1 m2 m2 n n1) (hq : q ≤ QQ) (h : al + 2 ≤ 12) : StL ns al lp (al + 2) lo hi hi n n1 := by
  intro m k B ch L f z bt hm hn hB hI hz hal hlo hlp
  obtain ⟨m, rfl⟩ : ∃ j, m = j + 1 := ⟨m - 1, by omega⟩
  obtain ⟨x1, d1, rfl, e1, e2, e3, e4, hp⟩ := ps_inv hp
  obtain ⟨x2, d2, e5, e6, e7, e8, e9, hp⟩ := ps_inv hp
  obtain ⟨L1, f1, c1, a1, a2, a3, a4, a5, a6⟩ := hv m k B ch L f z (by omega) hn (by omega) hI hz
  obtain ⟨L2, r1, r2, r3⟩ := declare_go a1.inv d1.s (by rw [a2]; omega)
  obtain ⟨L3, b1⟩ := bind_go r2 d2.s (by dsimp only; rw [a2]; simp; omega) (by omega)
  have hfl : f1.locals.length = f.locals.length := by rw [a2]
  have hg := emit_go b1.inv [(6, u16 (f1.locals.length : Int))] (by simp; omega)
  rw [u16_id (by omega)] at hg
  have hgo := Go.trans a1 (go_bindV (G := fun i s => bind1 (bindM k d2.s s) fun s => emitM k [(6, u16 i)] s) r1 r3 (Go.trans b1 (hg.congr fun s hs => by rw [u16_id (by omega)])))
  refine ⟨_, _, [d1.s, d2.s], (c1 ++ [(6, (f.locals.length : Int) + 1), (6, (f.locals.length : Int))]).map some, (hgo.congr fun s hs => ?_).mono (by simp; omega), by dsimp only; rw [a2]; simp, fun x hx => ?_, rfl, by rw [fill_some]; dsimp only; rw [a4, a2]; simp, ?_, fun b X hX g p hF hC => ?_, fun P E b br hF hE hB hA => ?_⟩
  · show stmtM ns (recC ns m) k hi s = _
    unfold stmtM
    rw [hs.get hI.at_, nd_nat, hd]
    show bind1 (nd ns (x1 : Int)) _ = _
    rw [nd_nat, e1]
    show bind1 (nd ns d1.next) _ = _
    rw [e5, nd_nat, e6]
    rfl
  · rcases List.mem_cons.1 hx with rfl | hx
    · exact e2.1
    · rw [List.mem_singleton] at hx; subst hx; exact e7.1
  · dsimp only
    rw [a3]
    exact .same (some_map _)
  · have hzl := z_le hI hz hF hgo.stp.fx
    have hns := hF.sl
    have hzz := hz.1
    dsimp only at hns
    rw [List.length_append, List.length_singleton] at hns
    rw [fill_some]
    have k1 := (a5 []).up (r3.trans (b1.stp.trans hg.stp)) a1.stp.kl.1 (Nat.le_refl _) g p hF hC
    refine (k1.weak (fun _ h => by cases h) (show [].length + q ≤ 128 by simp; unfold QQ at hq; omega)).app ?_
    exact Ck.app (l := [(6, (f.locals.length : Int) + 1)]) (t1 := ⟨[false], z⟩) (ck_set (st := [false]) (x := f.locals.length + 1) (by omega) (by omega) (none_at (by omega)) (by simp) hzl (Ty.le_refl _)) (ck_set (st := []) (by omega) (by omega) (none_at (by omega)) (by simp) hzl (le_app _ _ _ (rep0 2)))
  · rw [fill_some] at hA
    have F3 := hF.back hg.stp b1.inv.at_ hg.inv.at_ a1.stp.kl.1
    have F2 := F3.back b1.stp r2.at_ b1.inv.at_ a1.stp.kl.1
    refine (a6 P E (F2.back r3 a1.inv.at_ r2.at_ a1.stp.kl.1) hE hA.left).up fun m h => ?_
    exact ⟨_, (nd_nat ns hi).trans hd, by ((try dsimp only); (repeat rw [if_neg (by decide)]); rw [if_pos rfl]); exact ⟨d1, d2, _, (nd_nat ns x1).trans e1, by rw [e5]; exact (nd_nat ns x2).trans e6, h, hA.right 0 _ rfl, hA.right 1 _ rfl, by rw [List.length_map, List.length_append]; rfl, by simp [a2]⟩⟩
theorem st_locFn {al lo m1 hi n n1 q : Nat} {lp : Bool} {a nx : Int} {s : List UInt8} (hd : ns[hi]? = some ⟨3, m1, 0, 0, nx, 0, s, a⟩) (hl1 : lo < m1) (hl : m1 < hi) (hs : nameOk s) (hv : ExL ns q lo m1 m1 n n1) (hq : q ≤ QQ) (h : al + 1 ≤ 12) : StL ns al lp (al + 1) lo hi hi n n1 := by
  intro m k B ch L f z bt hm hn hB hI hz hal hlo hlp
  obtain ⟨m, rfl⟩ : ∃ j, m = j + 1 := ⟨m - 1, by omega⟩
  obtain ⟨L1, r1, r2, r3⟩ := declare_go hI s (by omega)
  obtain ⟨L2, f2, c2, a1, a2, a3, a4, a5, a6⟩ := hv m k B ch L1 _ (z ++ [0]) (by omega) hn (by omega) r2 (hz.nw (nw := [s]))
  have hg := emit_go a1.inv [(6, u16 (f.locals.length : Int))] (by simp; omega)
  rw [u16_id (by omega)] at hg
  have hgo := go_bindV (G := fun i s => bind1 ((recC ns m).expr k m1 s) fun s => emitM k [(6, u16 i)] s) r1 r3 (Go.trans a1 (hg.congr fun s hs => by rw [u16_id (by omega)]))
  dsimp only at a2 a3 a4 a5
  refine ⟨_, _, [s], (c2 ++ [(6, (f.locals.length : Int))]).map some, (hgo.congr fun s hs => ?_).mono (by simp; omega), by dsimp only; rw [a2], fun x hx => ?_, rfl, by rw [fill_some]; dsimp only; rw [a4]; simp, ?_, fun b X hX g p hF hC => ?_, fun P E b br hF hE hB hA => ?_⟩
  · show stmtM ns (recC ns m) k hi s = _
    unfold stmtM
    rw [hs.get hI.at_, nd_nat, hd]
    rfl
  · rw [List.mem_singleton] at hx; subst hx; exact hs.1
  · dsimp only
    rw [a3]
    exact .same (some_map _)
  · have hzz := hz.1
    have hns := (hF.mono (a1.stp.fx.trans hg.stp.fx)).sl
    dsimp only at hns
    have hal2 := hI.al
    have hzl : (z ++ [0]).length ≤ p.nslots.toNat := by simp; omega
    rw [fill_some]
    have k1 := (a5 []).up (a' := L.length) hg.stp (by have := r3.kl.1; have := r3.ln; omega) r3.ln g p hF hC
    refine Ck.app (t1 := ⟨[false], z ++ [0]⟩) ((k1.weak (fun _ h => by cases h) (show [].length + q ≤ 128 by simp; unfold QQ at hq; omega)).pre (le_app _ _ _ (rep0 1))) ?_
    refine ck_set (st := []) (by omega) (by omega) ?_ (by simp) hzl (Ty.le_refl _)
    rw [List.getElem?_append_right (by omega), hzz, Nat.sub_self]
    exact fun q => by cases q
  · rw [fill_some] at hA
    have F2 := hF.back hg.stp a1.inv.at_ hg.inv.at_ r3.kl.1
    refine (a6 P E (F2.lo r3.ln) (r3.sco hE) hA.left).up fun m h => ?_
    exact ⟨_, (nd_nat ns hi).trans hd, by ((try dsimp only); (repeat rw [if_neg (by decide)]); rw [if_pos rfl]); exact ⟨_, h, hA.right.one, by rw [List.length_map, List.length_append]; rfl, a2⟩⟩
theorem st_asgN {al lo m1 m2 hi n n1 q : Nat} {lp : Bool} {a nx : Int} {d : Nd} (hd : ns[hi]? = some ⟨4, m1, m2, 0, nx, 0, [], a⟩) (hd1 : ns[m1]? = some d) (hk : d.k = 17) (hs : nameOk d.s) (hl1 : lo < m1) (hl2 : m1 < m2) (hl : m2 < hi) (hv : ExL ns q m1 m2 m2 n n1) (hq : q ≤ QQ) : StL ns al lp al lo hi hi n n1 := by
  intro m k B ch L f z bt hm hn hB hI hz hal hlo hlp
  obtain ⟨m, rfl⟩ : ∃ j, m = j + 1 := ⟨m - 1, by omega⟩
  obtain ⟨L1, f1, c1, a1, a2, a3, a4, a5, a6⟩ := hv m k B ch L f z (by omega) hn (by omega) hI hz
  obtain ⟨L2, f2, i, b1, b2, b3, b4, b5, b6, b7⟩ := variable_go a1.inv hn hs (.inr ⟨m1, d, hd1, .inr (.inr hk), by rw [if_neg (by omega)]⟩) 6 8 10 (by omega)
  have hgo := Go.trans a1 b1
  refine ⟨L2, f2, [], (c1 ++ [i]).map some, (hgo.congr fun s hs => ?_).mono (by omega), by rw [b2, a2]; simp, (fun x hx => by cases hx), rfl, by rw [fill_some, b4, a4, List.append_assoc], ?_, fun b X hX g p hF hC => ?_, fun P E b br hF hE hB hA => ?_⟩
  · show stmtM ns (recC ns m) k hi s = _
    unfold stmtM
    rw [hs.get hI.at_, nd_nat, hd]
    show assignM ns (recC ns m) k _ s = _
    unfold assignM
    rw [hs.get hI.at_]
    show bind1 (nd ns (m1 : Int)) _ = _
    rw [nd_nat, hd1]
    show (if d.k = 17 then _ else _) = _
    rw [if_pos hk]
  · rw [b3, a3]
    exact .same (some_map _)
  · have hzl := z_le hI hz hF hgo.stp.fx
    rw [fill_some]
    simp only [List.length_nil, List.replicate_zero, List.append_nil]
    have k1 := (a5 []).up b1.stp a1.stp.kl.1 (Nat.le_refl _) g p hF hC
    refine (k1.weak (fun _ h => by cases h) (show [].length + q ≤ 128 by simp; unfold QQ at hq; omega)).app ?_
    refine Ck.one (bB (by simp) hzl) b5 fun T hT he hL hn => ?_
    obtain ⟨op, x⟩ := i
    have hal2 := b1.inv.al
    rcases b6 with ⟨e, nm, h1, h2⟩ | ⟨e, h1⟩ | ⟨e, v, h1, h2⟩
    · dsimp only at e h1 b5 ⊢
      subst e
      have hlt := lt_of h1
      refine .setL (st := []) (b := false) hT ⟨b5.1, by have := hF.sl; omega⟩ (fun q => ?_) ⟨by omega, he⟩
      rw [b2, a2] at h1
      rw [hz.2 _ _ h1 h2] at q
      cases q
    · dsimp only at e h1 b5 ⊢
      subst e
      exact .setU (st := []) (b := false) hT ⟨b5.1, by have := hF.up; omega⟩ ⟨by omega, he⟩
    · dsimp only at e h1 b5 ⊢
      subst e
      have h3 := hF.ks _ _ h1
      exact .setG (st := []) (b := false) hT ⟨b5.1, by omega⟩ ⟨by have := h3.2; rw [show ((x.toNat : Nat) : Int) = x from by omega] at this; exact this, h2⟩ ⟨by omega, he⟩
  · rw [fill_some] at hA
    refine (a6 P E (hF.back b1.stp a1.inv.at_ b1.inv.at_ a1.stp.kl.1) hE hA.left).up fun m h => ?_
    have hv := b7 P E _ hF.ext (a1.stp.sco hE) hA.right.one
    rw [a2] at hv
    refine ⟨_, (nd_nat ns hi).trans hd, ?_⟩
    dsimp only
    rw [if_neg (by decide), if_neg (by decide), if_neg (by decide)]
    refine ⟨by rw [b2, a2], ?_⟩
    rw [if_pos rfl]
    refine ⟨d, (nd_nat ns m1).trans hd1, ?_⟩
    rw [if_pos hk]
    exact ⟨_, h, hv, by rw [List.length_map, List.length_append]; rfl⟩
theorem st_asgI {al lo m1 m2 m3 m4 hi n n1 n2 n3 q q1 q2 : Nat} {lp : Bool} {a nx : Int} {d : Nd} (hd : ns[hi]? = some ⟨4, m3, m4, 0, nx, 0, [], a⟩) (hd1 : ns[m3]? = some d) (hk : d.k = 18 ∧ d.a = m1 ∧ d.b = m2) (hx : ExL ns q lo m1 m1 n n1) (hy : ExL ns q1 m1 m2 m2 n1 n2) (hl1 : lo < m1) (hl2 : m1 < m2) (hl3 : m2 < m3) (hl4 : m3 < m4) (hv : ExL ns q2 m3 m4 m4 n2 n3) (hn1 : n1 ≤ n2) (hn2 : n2 ≤ n3) (hl : m4 < hi) (h0 : q ≤ QQ) (h1 : q1 + 1 ≤ QQ) (h2 : q2 + 2 ≤ QQ) : StL ns al lp al lo hi hi n n3 := by
  intro m k B ch L f z bt hm hn hB hI hz hal hlo hlp
  obtain ⟨m, rfl⟩ : ∃ j, m = j + 1 := ⟨m - 1, by omega⟩
  obtain ⟨L0, f0, B0, L1, f1, c1, a0, a1, a2, a3, a4, a5, a6⟩ := two_ex hx hy hl1 hl2 hn1 (m := m) (by omega) (by omega) (by omega) hI hz
  obtain ⟨L2, f2, c2, b1, b2, b3, b4, b5, b6⟩ := hv m k _ ch L1 f1 z (by omega) hn (by omega) a1.inv (by rw [a2]; exact hz)
  have hg := emit_go b1.inv [(12, 0)] (by simp; omega)
  have hgo := Go.trans a0 (Go.trans a1 (Go.trans b1 hg))
  refine ⟨_, _, [], (c1 ++ (c2 ++ [(12, 0)])).map some, (hgo.congr fun s hs => ?_).mono (by simp; omega), by dsimp only; rw [b2, a2]; simp, (fun x hx => by cases hx), rfl, by rw [fill_some]; dsimp only; rw [b4, a4]; simp, ?_, fun b X hX g p hF hC => ?_, fun P E b br hF hE hB hA => ?_⟩
  · show stmtM ns (recC ns m) k hi s = _
    unfold stmtM
    rw [hs.get hI.at_, nd_nat, hd]
    show assignM ns (recC ns m) k _ s = _
    unfold assignM
    rw [hs.get hI.at_]
    show bind1 (nd ns (m3 : Int)) _ = _
    rw [nd_nat, hd1]
    show (if d.k = 17 then _ else _) = _
    rw [if_neg (by omega), hk.2.1, hk.2.2]
  · dsimp only
    rw [b3, a3]
    exact .same (some_map _)
  · have hzl := z_le hI hz hF hgo.stp.fx
    have hln := a0.stp.ln
    have hln1 := a1.stp.ln
    have hkl := a0.stp.kl.1
    rw [fill_some]
    simp only [List.length_nil, List.replicate_zero, List.append_nil]
    unfold QQ at h0 h1 h2
    have k1 := (a5 [] 128 (by simp; omega) (by simp; omega)).up (b1.stp.trans hg.stp) hkl (Nat.le_refl _) g p hF hC
    have k2 := (b5 [false, false]).up (a' := L.length) hg.stp (by omega) (by omega) g p hF hC
    rw [show f1.code.length = f.code.length + c1.length from by rw [a4, List.length_append]] at k2
    refine (k1.weak (fun _ h => by cases h) (Nat.le_refl _)).app ((k2.weak (fun _ h => by cases h) (by simp; omega)).app (Ck.one (bB (by simp) hzl) in0 fun T hT he hL hn => ?_))
    exact .setT (st := []) (a := false) (b := false) (c := false) hT ⟨by omega, he⟩
  · rw [fill_some] at hA
    have hc1 : f1.code.length = f.code.length + c1.length := by rw [a4, List.length_append]
    have F2 := hF.back hg.stp b1.inv.at_ hg.inv.at_ a0.stp.kl.1
    have t1 := a6 P E (F2.back b1.stp a1.inv.at_ b1.inv.at_ a0.stp.kl.1) hE hA.left
    have t2 := b6 P E (F2.lo (by have := a0.stp.ln; have := a1.stp.ln; omega)) (a1.stp.sco (a0.stp.sco hE)) (by rw [hc1]; exact hA.right.left)
    rw [a2, hc1] at t2
    refine (t1.and t2).up fun m h => ?_
    obtain ⟨⟨p1, w1, w2⟩, w3⟩ := h
    refine ⟨_, (nd_nat ns hi).trans hd, ?_⟩
    dsimp only
    rw [if_neg (by decide), if_neg (by decide), if_neg (by decide)]
    refine ⟨by rw [b2, a2], ?_⟩
    rw [if_pos rfl]
    refine ⟨d, (nd_nat ns m3).trans hd1, ?_⟩
    rw [if_neg (by omega), hk.2.1, hk.2.2]
    exact ⟨_, _, _, w1, w2, w3, hA.right.right.one, by simp; omega⟩
theorem st_callS {al lo m1 hi n n1 q : Nat} {lp : Bool} {a nx : Int} (hd : ns[hi]? = some ⟨5, m1, 0, 0, nx, 0, [], a⟩) (hl1 : lo < m1) (hl : m1 < hi) (hv : ClL ns q lo m1 m1 n n1) (hq : q ≤ QQ) : StL ns al lp al lo hi hi n n1 := by
  intro m k B ch L f z bt hm hn hB hI hz hal hlo hlp
  obtain ⟨m, rfl⟩ : ∃ j, m = j + 1 := ⟨m - 1, by omega⟩
  obtain ⟨L1, f1, c1, a1, a2, a3, a4, a5, a6⟩ := hv m k B ch L f z (by omega) hn (by omega) hI hz
  have hg := emit_go a1.inv [(25, 0), (25, 0)] (by simp; omega)
  have hgo := Go.trans a1 hg
  refine ⟨_, _, [], (c1 ++ [(25, 0), (25, 0)]).map some, (hgo.congr fun s hs => ?_).mono (by simp; omega), by dsimp only; rw [a2]; simp, (fun x hx => by cases hx), rfl, by rw [fill_some]; dsimp only; rw [a4]; simp, ?_, fun b X hX g p hF hC => ?_, fun P E b br hF hE hB hA => ?_⟩
  · show stmtM ns (recC ns m) k hi s = _
    unfold stmtM
    rw [hs.get hI.at_, nd_nat, hd]
    rfl
  · dsimp only
    rw [a3]
    exact .same (some_map _)
  · have hzl := z_le hI hz hF hgo.stp.fx
    rw [fill_some]
    simp only [List.length_nil, List.replicate_zero, List.append_nil]
    unfold QQ at hq
    have k1 := (a5 []).up hg.stp a1.stp.kl.1 (Nat.le_refl _) g p hF hC
    refine (k1.weak (fun _ h => by cases h) (show [].length + q ≤ 128 by simp; omega)).app ?_
    refine Ck.app (l := [(25, 0)]) (t1 := ⟨[false], z⟩) (Ck.one (bB (by simp) hzl) in0 fun T hT he hL hn => .pop (st := [false]) (a := false) hT ⟨by omega, he⟩) (Ck.one (bB (by simp) hzl) in0 fun T hT he hL hn => .pop (st := []) (a := false) hT ⟨by omega, he⟩)
  · rw [fill_some] at hA
    refine (a6 P E (hF.back hg.stp a1.inv.at_ hg.inv.at_ a1.stp.kl.1) hE hA.left).up fun m h => ?_
    refine ⟨_, (nd_nat ns hi).trans hd, ?_⟩
    dsimp only
    rw [if_neg (by decide), if_neg (by decide), if_neg (by decide)]
    refine ⟨a2, ?_⟩
    ((try dsimp only); (repeat rw [if_neg (by decide)]); rw [if_pos rfl])
    exact ⟨_, h, hA.right 0 _ rfl, hA.right 1 _ rfl, by rw [List.length_map, List.length_append]; rfl⟩
theorem ck_ret {g : Pg} {p : Pr} {X : List (Nat × Ty)} {o : Nat} {z : List Nat} {t1 : Ty} (hz : z.length ≤ p.nslots.toNat) : Ck g p X 128 o [(27, 0)] ⟨[false, false], z⟩ t1 :=
  Ck.one (bB (by simp) hz) in0 fun T hT he hL hn => .ret (st := []) (a := false) (b := false) hT
theorem st_ret0 (h0 : ns[0]? = some nd0) {al lo hi n : Nat} {lp : Bool} {a nx : Int} (hd : ns[hi]? = some ⟨10, 0, 0, 0, nx, 0, [], a⟩) (hl : lo < hi) : StL ns al lp al lo hi hi n n := by
  intro m k B ch L f z bt hm hn hB hI hz hal hlo hlp
  obtain ⟨m, rfl⟩ : ∃ j, m = j + 1 := ⟨m - 1, by omega⟩
  have a1 := ex_zero h0 (m := m) (by omega) (by omega) hI
  have a2 := ex_zero h0 (m := m) (by omega) (by omega) a1.inv
  have hg := emit_go a2.inv [(27, 0)] (by simp; omega)
  have hgo := Go.trans a1 (Go.trans a2 hg)
  refine ⟨_, _, [], [(2, 0), (2, 0), (27, 0)].map some, (hgo.congr fun s hs => ?_).mono (by simp; omega), by simp, (fun x hx => by cases hx), rfl, by rw [fill_some]; simp, .same (some_map _), fun b X hX g p hF hC => ?_, fun P E b br hF hE hB hA => ?_⟩
  · show stmtM ns (recC ns m) k hi s = _
    unfold stmtM
    rw [hs.get hI.at_, nd_nat, hd]
    rfl
  · have hzl := z_le hI hz hF hgo.stp.fx
    rw [fill_some]
    exact Ck.app (l := [(2, 0)]) (t1 := ⟨[false], z⟩) (ck_zero (by simp) hzl) (Ck.app (l := [(2, 0)]) (t1 := ⟨[false, false], z⟩) (ck_zero (st := [false]) (by simp) hzl) (ck_ret hzl))
  · rw [fill_some] at hA
    refine ⟨2, fun m hm => ?_⟩
    obtain ⟨j, rfl⟩ : ∃ j, m = j + 2 := ⟨m - 2, by omega⟩
    refine ⟨_, (nd_nat ns hi).trans hd, ?_⟩
    dsimp only
    rw [if_neg (by decide), if_neg (by decide), if_neg (by decide)]
    refine ⟨rfl, ?_⟩
    ((try dsimp only); (repeat rw [if_neg (by decide)]); rw [if_pos rfl])
    exact ⟨_, _, sh_zero h0 (hA 0 _ rfl), sh_zero h0 (hA 1 _ rfl), hA 2 _ rfl, rfl⟩
theorem st_ret1 (h0 : ns[0]? = some nd0) {al lo m1 hi n n1 q : Nat} {lp : Bool} {a nx : Int} (hd : ns[hi]? = some ⟨10, m1, 0, 0, nx, 0, [], a⟩) (hl1 : lo < m1) (hl : m1 < hi) (hx : ExL ns q lo m1 m1 n n1) (hq : q ≤ QQ) : StL ns al lp al lo hi hi n n1 := by
  intro m k B ch L f z bt hm hn hB hI hz hal hlo hlp
  obtain ⟨m, rfl⟩ : ∃ j, m = j + 1 := ⟨m - 1, by omega⟩
  obtain ⟨L1, f1, c1, a1, a2, a3, a4, a5, a6⟩ := hx m k B ch L f z (by omega) hn (by omega) hI hz
  have b1 := ex_zero h0 (m := m) (by omega) (by omega) a1.inv
  have hg := emit_go b1.inv [(27, 0)] (by simp; omega)
  have hgo := Go.trans a1 (Go.trans b1 hg)
  refine ⟨_, _, [], (c1 ++ [(2, 0), (27, 0)]).map some, (hgo.congr fun s hs => ?_).mono (by simp; omega), by dsimp only; rw [a2]; simp, (fun x hx => by cases hx), rfl, by rw [fill_some]; dsimp only; rw [a4]; simp, ?_, fun b X hX g p hF hC => ?_, fun P E b br hF hE hB hA => ?_⟩
  · show stmtM ns (recC ns m) k hi s = _
    unfold stmtM
    rw [hs.get hI.at_, nd_nat, hd]
    rfl
  · dsimp only
    rw [a3]
    exact .same (some_map _)
  · have hzl := z_le hI hz hF hgo.stp.fx
    rw [fill_some]
    unfold QQ at hq
    have k1 := (a5 []).up (b1.stp.trans hg.stp) a1.stp.kl.1 (Nat.le_refl _) g p hF hC
    exact (k1.weak (fun _ h => by cases h) (show [].length + q ≤ 128 by simp; omega)).app (Ck.app (l := [(2, 0)]) (t1 := ⟨[false, false], z⟩) (ck_zero (st := [false]) (by simp) hzl) (ck_ret hzl))
  · rw [fill_some] at hA
    have F2 := hF.back hg.stp b1.inv.at_ hg.inv.at_ a1.stp.kl.1
    refine (((a6 P E (F2.back b1.stp a1.inv.at_ b1.inv.at_ a1.stp.kl.1) hE hA.left).and ⟨1, fun m hm => hm⟩)).up fun m h => ?_
    obtain ⟨h, hm⟩ := h
    obtain ⟨j, rfl⟩ : ∃ j, m = j + 1 := ⟨m - 1, by omega⟩
    refine ⟨_, (nd_nat ns hi).trans hd, ?_⟩
    dsimp only
    rw [if_neg (by decide), if_neg (by decide), if_neg (by decide)]
    refine ⟨a2, ?_⟩
    ((try dsimp only); (repeat rw [if_neg (by decide)]); rw [if_pos rfl])
    exact ⟨_, _, h, sh_zero h0 (hA.right 0 _ rfl), hA.right 1 _ rfl, by rw [List.length_map, List.length_append]; rfl⟩
theorem st_ret2 {al lo m1 m2 hi n n1 n2 q q1 : Nat} {lp : Bool} {a nx : Int} (hd : ns[hi]? = some ⟨10, m1, m2, 0, nx, 0, [], a⟩) (hl1 : lo < m1) (hl2 : m1 < m2) (hn1 : n1 ≤ n2) (hl : m2 < hi) (hx : ExL ns q lo m1 m1 n n1) (hy : ExL ns q1 m1 m2 m2 n1 n2) (hq : q ≤ QQ) (hq1 : q1 + 1 ≤ QQ) : StL ns al lp al lo hi hi n n2 := by
  intro m k B ch L f z bt hm hn hB hI hz hal hlo hlp
  obtain ⟨m, rfl⟩ : ∃ j, m = j + 1 := ⟨m - 1, by omega⟩
  obtain ⟨L0, f0, B0, L1, f1, c1, a0, a1, a2, a3, a4, a5, a6⟩ := two_ex hx hy hl1 hl2 hn1 (m := m) (by omega) (by omega) (by omega) hI hz
  have hg := emit_go a1.inv [(27, 0)] (by simp; omega)
  have hgo := Go.trans a0 (Go.trans a1 hg)
  refine ⟨_, _, [], (c1 ++ [(27, 0)]).map some, (hgo.congr fun s hs => ?_).mono (by simp; omega), by dsimp only; rw [a2]; simp, (fun x hx => by cases hx), rfl, by rw [fill_some]; dsimp only; rw [a4]; simp, ?_, fun b X hX g p hF hC => ?_, fun P E b br hF hE hB hA => ?_⟩
  · show stmtM ns (recC ns m) k hi s = _
    unfold stmtM
    rw [hs.get hI.at_, nd_nat, hd]
    rfl
  · dsimp only
    rw [a3]
    exact .same (some_map _)
  · have hzl := z_le hI hz hF hgo.stp.fx
    rw [fill_some]
    unfold QQ at hq hq1
    have k1 := (a5 [] 128 (by simp; omega) (by simp; omega)).up hg.stp a0.stp.kl.1 (Nat.le_refl _) g p hF hC
    exact (k1.weak (fun _ h => by cases h) (Nat.le_refl _)).app (ck_ret hzl)
  · rw [fill_some] at hA
    refine (a6 P E (hF.back hg.stp a1.inv.at_ hg.inv.at_ a0.stp.kl.1) hE hA.left).up fun m h => ?_
    obtain ⟨p1, w1, w2⟩ := h
    refine ⟨_, (nd_nat ns hi).trans hd, ?_⟩
    dsimp only
    rw [if_neg (by decide), if_neg (by decide), if_neg (by decide)]
    refine ⟨a2, ?_⟩
    ((try dsimp only); (repeat rw [if_neg (by decide)]); rw [if_pos rfl])
    exact ⟨_, _, w1, w2, hA.right.one, by rw [List.length_map, List.length_append]; rfl⟩
theorem st_brk {al lo hi n : Nat} {a nx : Int} (hd : ns[hi]? = some ⟨11, 0, 0, 0, nx, 0, [], a⟩) (hl : lo < hi) : StL ns al true al lo hi hi n n := by
  intro m k B ch L f z bt hm hn hB hI hz hal hlo hlp
  obtain ⟨m, rfl⟩ : ∃ j, m = j + 1 := ⟨m - 1, by omega⟩
  obtain ⟨ls, base, ps, h1, h2, h3, h4⟩ := hlp rfl
  have hcd := hI.code
  have hal2 := hI.al
  have hzz := hz.1
  have hps : f.loops[f.loops.length - 1]? = some ((base : Int), ps) := by rw [h1]; simp
  have htk : f.loops.take (f.loops.length - 1) = ls := by rw [h1]; simp
  obtain ⟨c, hc1, hc2, hc3, hc4⟩ : ∃ c : List In, brkC f ((base : Int), ps) = f.code ++ c ∧ c.length ≤ 1 ∧ (∀ (g : Pg) (p : Pr) (X : List (Nat × Ty)), f.nslots ≤ p.nslots → Ck g p X 128 f.code.length c ⟨[], z⟩ ⟨[], z.take base⟩) ∧ ∀ P, LiesAt P k f.code.length c → levS P k base f.locals f.code.length (f.code.length + c.length) := by
    by_cases hb : (base : Int) < f.locals.length
    · refine ⟨[(29, (base : Int))], ?_, by simp, fun g p X hsl => ?_, fun P hA => ?_⟩
      · unfold brkC
        rw [if_pos hb, u16_id (by dsimp only; omega)]
      · refine Ck.one (bB (by simp) (by omega)) (by dsimp only; omega) fun T hT he hL hn => ?_
        exact .close hT (by dsimp only; omega) ⟨by omega, he⟩
      · unfold levS
        rw [if_pos (by omega)]
        exact ⟨hA.one, rfl⟩
    · refine ⟨[], ?_, by simp, fun g p X hsl => Ck.nil ?_, fun P hA => ?_⟩
      · unfold brkC
        rw [if_neg hb, List.append_nil]
      · rw [List.take_of_length_le (by omega)]; exact Ty.le_refl _
      · unfold levS
        rw [if_neg (by omega)]
        rfl
  have hgo := own_go (F := (recC ns (m + 1)).stmt k hi) (f' := { f with code := f.code ++ c ++ [(21, 65535)], loops := ls ++ [((base : Int), ps ++ [(k, ((f.code ++ c).length : Int))])] }) (e := 6) hI (fun s hs => by
    show stmtM ns (recC ns m) k hi s = _
    unfold stmtM
    rw [hs, nd_nat, hd]
    show brkM k s = _
    unfold brkM
    rw [hs]
    show bind1 f.loops[f.loops.length - 1]? _ = _
    rw [hps]
    show (if _ then _ else _) = _
    rw [htk, hc1, if_pos (by simp; omega)]) rfl ⟨rfl, rfl, List.prefix_refl _, List.prefix_refl _, Int.le_refl _⟩ rfl (hI.ko.congr rfl rfl rfl) hI.al (by unfold cost; simp; omega) hI.kq
  refine ⟨_, _, [], c.map some ++ [none], hgo.mono (by omega), by simp, (fun x hx => by cases hx), rfl, ?_, ⟨(fun q => by cases q), fun _ ls2 B2 ps2 e => ?_⟩, fun b X hX g p hF hC => ?_, fun P E b br hF hE hB hA => ?_⟩
  · rw [fill_app, fill_some]
    simp [fill]
  · rw [h1] at e
    have e2 := List.append_inj' e rfl
    obtain ⟨rfl, e3⟩ := e2
    injection e3 with e3 _
    injection e3 with e3 e4
    subst e3 e4
    rw [holes_app, holes_none _ _ (some_map c)]
    simp [holes]
  · obtain ⟨hb1, hb2⟩ := hX rfl
    rw [fill_app, fill_some]
    simp only [List.length_nil, List.replicate_zero, List.append_nil]
    have hsl := hF.sl
    dsimp only at hsl
    refine (hc3 g p X hsl).app ?_
    refine Ck.one (i := (21, (b : Int))) (bB (by simp) (by simp; omega)) (by dsimp only; omega) fun T hT he hL hn => ?_
    obtain ⟨l1, l2⟩ := hL _ hb2
    exact .jmp ⟨by dsimp only at l1 ⊢; omega, by rw [hT]; exact Ty.le_trans h3 l2⟩
  · rw [fill_app, fill_some] at hA
    obtain ⟨ls2, base2, ps2, e1, rfl⟩ := hB rfl
    rw [h1] at e1
    obtain ⟨rfl, e3⟩ := List.append_inj' e1 rfl
    injection e3 with e3 _
    injection e3 with e3 e4
    have e3 : base = base2 := by omega
    subst e3
    refine ⟨1, fun m hm => ?_⟩
    obtain ⟨j, rfl⟩ : ∃ j, m = j + 1 := ⟨m - 1, by omega⟩
    refine ⟨_, (nd_nat ns hi).trans hd, ?_⟩
    dsimp only
    rw [if_neg (by decide), if_neg (by decide), if_neg (by decide)]
    refine ⟨rfl, ?_⟩
    ((try dsimp only); (repeat rw [if_neg (by decide)]); rw [if_pos rfl])
    exact ⟨base, b, _, rfl, hc4 P hA.left, hA.right.one, by simp; omega⟩
end
end Go.Wl
