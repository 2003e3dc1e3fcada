/- Plain: the compiler: if and while. -/
import Derived.Test.Qxb6500573aGreatDoorQK
namespace Go.Wl
open Go Go.Sl Go.Proofs
set_option linter.unusedVariables false
variable {ns : List Nd}
theorem Inv.mono {k : Nat} {ch : List Nat} {L : List Fs} {f : Fs} {n B B' : Nat} (h : Inv ns k ch L f n B) (hB : B ≤ B') : Inv ns k ch L f n B' := ⟨h.ln, h.at_, h.ch, h.ko, h.al, h.kq, Nat.le_trans h.ms hB⟩
theorem go_get {k : Nat} {ch : List Nat} {G : Fs → CS → Option CS} {L L' : List Fs} {f f' : Fs} {n' B' : Nat} (hk : L[k]? = some f) (h : Go ns k ch (G f) L f L' f' n' B') : Go ns k ch (fun s => bind1 (s.get k) fun g => G g s) L f L' f' n' B' := h.congr fun s hs => by rw [hs.get hk]; rfl
theorem patch_to {k : Nat} {ch : List Nat} {L : List Fs} {f : Fs} {n B : Nat} (hI : Inv ns k ch L f n B) {A C : List In} {x : In} {E : Nat} (hc : f.code = A ++ x :: C) (hl : f.code.length = E) (hE : E ≤ 65535) : ∃ L', Go ns k ch (patchM k (A.length : Int)) L f L' { f with code := A ++ (x.1, (E : Int)) :: C } n B := by
  have h1 := patch_go hI A.length (by rw [hc]; simp)
  have e : f.code.set A.length ((f.code.getD A.length (0, 0)).1, u16 (f.code.length : Int)) = A ++ (x.1, (E : Int)) :: C := by
    rw [hl, u16_id (by omega), hc, getD_at, patch_at]
  rw [e] at h1
  exact ⟨_, h1⟩
theorem emit_to {k : Nat} {ch : List Nat} {L : List Fs} {f : Fs} {n B : Nat} (hI : Inv ns k ch L f n B) (l : List In) {l2 : List In} (he : l = l2) (hB : B + 3 * l.length ≤ 200000) : ∃ L', Go ns k ch (emitM k l) L f L' { f with code := f.code ++ l2 } n (B + 3 * l.length) := by
  subst he
  exact ⟨_, emit_go hI l hB⟩
theorem open_to {k : Nat} {ch : List Nat} {L : List Fs} {f : Fs} {n B : Nat} (hI : Inv ns k ch L f n B) (base : Int) (hl : f.loops.length < 1000) : ∃ L', Go ns k ch (openM k base) L f L' { f with loops := f.loops ++ [(base, [])] } n B := ⟨_, open_go hI base hl⟩
theorem patches_go {k : Nat} {ch : List Nat} {n B E : Nat} {post : List In} (hE : E ≤ 65535) : ∀ (c : List (Option In)) (pre : List In) (L : List Fs) (f : Fs), Inv ns k ch L f n B → f.code = pre ++ (fill 65535 c ++ post) → f.code.length = E → ∃ L', Go ns k ch (patchesM ((holes pre.length c).map fun (a : Nat) => (k, (a : Int)))) L f L' { f with code := pre ++ (fill E c ++ post) } n B
  | [], pre, L, f, hI, hc, hl => by
    refine ⟨L, ?_⟩
    have e : ({ f with code := pre ++ (fill E [] ++ post) } : Fs) = f := by
      have : pre ++ (fill E [] ++ post) = f.code := hc.symm
      rw [this]
    rw [e]
    exact ⟨fun s hs => ⟨s, rfl, hs⟩, hI, .refl hI⟩
  | none :: c, pre, L, f, hI, hc, hl => by
    obtain ⟨L1, h1⟩ := patch_to hI (A := pre) (x := (21, 65535)) (C := fill 65535 c ++ post) hc hl hE
    obtain ⟨L', h2⟩ := patches_go (post := post) hE c (pre ++ [(21, (E : Int))]) _ _ h1.inv (by simp) (by
      dsimp only
      rw [← hl, hc]
      simp [fill])
    refine ⟨L', ?_⟩
    rw [List.length_append, List.length_singleton] at h2
    have h3 := Go.trans h1 h2
    dsimp only at h3
    rw [List.append_assoc] at h3
    exact h3.congr fun s hs => rfl
  | some x :: c, pre, L, f, hI, hc, hl => by
    obtain ⟨L', h2⟩ := patches_go (post := post) hE c (pre ++ [x]) L f hI (by rw [hc]; simp [fill]) hl
    rw [List.length_append, List.length_singleton, List.append_assoc] at h2
    exact ⟨L', h2⟩
theorem shut_go {k : Nat} {ch : List Nat} {n B : Nat} {L : List Fs} {f : Fs} (hI : Inv ns k ch L f n B) {ls : Lps} {base : Int} {c : List (Option In)} {pre post : List In} (hB : B ≤ 150000) (hls : ls.length ≤ 1000) (hl : f.loops = ls ++ [(base, (holes pre.length c).map fun (a : Nat) => (k, (a : Int)))]) (hc : f.code = pre ++ (fill 65535 c ++ post)) : ∃ L', Go ns k ch (shutM k) L f L' { f with loops := ls, code := pre ++ (fill f.code.length c ++ post) } n B := by
  have hcd := hI.code
  have hcl : c.length ≤ f.code.length := by rw [hc]; simp [fill_len]; omega
  have hhl := holes_len c pre.length
  have h1 := own_go (F := fun s => some (s.put k { f with loops := ls })) (e := 0) (f' := { f with loops := ls }) hI (fun _ _ => rfl) rfl ⟨rfl, rfl, List.prefix_refl _, List.prefix_refl _, Int.le_refl _⟩ rfl (hI.ko.congr rfl rfl rfl) hI.al (by unfold cost; exact Nat.le_refl _) hI.kq
  obtain ⟨L', h2⟩ := patches_go (E := f.code.length) (by omega) c pre _ _ h1.inv hc rfl
  refine ⟨L', (Go.trans h1 h2).congr fun s hs => ?_⟩
  unfold shutM
  rw [hs.get hI.at_]
  show bind1 f.loops[f.loops.length - 1]? _ = _
  rw [show f.loops[f.loops.length - 1]? = some (base, (holes pre.length c).map fun (a : Nat) => (k, (a : Int))) from by rw [hl]; simp]
  show (if _ then _ else _) = _
  rw [if_pos (by rw [hl]; simp; omega), show f.loops.take (f.loops.length - 1) = ls from by rw [hl]; simp]
  rfl
section
variable {g : Pg} {p : Pr} {X : List (Nat × Ty)} {o : Nat} {z : List Nat}
/-- A jump where the value is false. -/
theorem ck_jf {E : Nat} {t : Ty} (hE : E ≤ 65535) (hz : z.length ≤ p.nslots.toNat) (hx : (E, t) ∈ X) (hl : (⟨[], z⟩ : Ty).le t) : Ck g p X 128 o [(22, (E : Int))] ⟨[false], z⟩ ⟨[], z⟩ :=
  Ck.one (bB (by simp) hz) (by dsimp only; omega) fun T hT he hL hn => by
    obtain ⟨l1, l2⟩ := hL _ hx
    exact .jf (st := []) (a := false) hT ⟨by dsimp only at l1 ⊢; omega, Ty.le_trans hl l2⟩ ⟨by omega, he⟩
theorem ck_jmp {E : Nat} {t t1 : Ty} (hE : E ≤ 65535) (hz : z.length ≤ p.nslots.toNat) (hx : (E, t) ∈ X) (hl : (⟨[], z⟩ : Ty).le t) : Ck g p X 128 o [(21, (E : Int))] ⟨[], z⟩ t1 :=
  Ck.one (bB (by simp) hz) (by dsimp only; omega) fun T hT he hL hn => by
    obtain ⟨l1, l2⟩ := hL _ hx
    exact .jmp ⟨by dsimp only at l1 ⊢; omega, by rw [hT]; exact Ty.le_trans hl l2⟩
end
section
variable {ns : List Nd}
theorem st_whl {al lo m1 m2 hi n n1 n2 q a1 : Nat} {lp : Bool} {a nx r1 : Int} (hd : ns[hi]? = some ⟨7, m1, r1, 0, nx, 0, [], a⟩) (hl1 : lo < m1) (hl2 : m1 ≤ m2) (hn12 : n1 ≤ n2) (hl : m2 < hi) (hc : ExL ns q lo m1 m1 n n1) (hq : q ≤ QQ) (h1 : BsL ns al true a1 m1 m2 r1 n1 n2) : StL ns al lp al lo hi hi n n2 := by
  intro m k B ch L f z bt hm hn hB hI hz hal hlo hlp
  have hhi := lt_of hd
  obtain ⟨m, rfl⟩ : ∃ j, m = j + 1 := ⟨m - 1, by omega⟩
  unfold QQ at hq
  obtain ⟨L1, f1, c1, a1', a2, a3, a4, a5, a6⟩ := hc m k B ch L f z (by omega) (by omega) (by omega) hI hz
  obtain ⟨L2, r1', r2, r3⟩ := jump_go a1'.inv 22 (by omega)
  obtain ⟨L3, o1⟩ := open_to r2 (f1.locals.length : Int) (by dsimp only; rw [a3]; omega)
  have hzl : z.length = al := by rw [hz.1, hal]
  have hf1 : f1.locals.length = al := by rw [a2, hal]
  obtain ⟨L4, f4, cb, b1, b2, b3, b4, b5, b6⟩ := block_go h1 hl2 (m := m) (bt := ⟨[], z⟩) (z := z) (by omega) (by omega) hn (by omega) o1.inv (by dsimp only; rw [a2]; exact hz) (by dsimp only; exact hf1) (by dsimp only; rw [a3, List.length_append]; simp; omega) (fun _ => ⟨f1.loops, al, [], by dsimp only; rw [hf1], Nat.le_refl _, by rw [List.take_of_length_le (by omega)]; exact Ty.le_refl _, by simp⟩)
  dsimp only at b2 b3 b4 b5
  have hlp4 := b4.2 rfl f1.loops (f1.locals.length : Int) [] rfl
  rw [List.nil_append] at hlp4
  have hcd4 := b1.inv.code
  have hcode4 : f4.code = f1.code ++ ((22, 65535) :: fill 65535 cb) := by rw [b3, List.append_assoc]; rfl
  have hlen4 : f4.code.length = f1.code.length + 1 + cb.length := by rw [hcode4]; simp [fill_len]; omega
  have hlen1 : f1.code.length = f.code.length + c1.length := by rw [a4, List.length_append]
  have e1 : u16 (f.code.length : Int) = f.code.length := u16_id (by omega)
  obtain ⟨L5, g1⟩ := emit_to b1.inv [(21, u16 (f.code.length : Int))] (l2 := [(21, (f.code.length : Int))]) (by rw [e1]) (by simp; omega)
  obtain ⟨E, hE⟩ : ∃ E, f1.code.length + 1 + cb.length + 1 = E := ⟨_, rfl⟩
  have hE6 : E ≤ 65535 := by omega
  obtain ⟨L6, p1⟩ := patch_to g1.inv (A := f1.code) (x := (22, 65535)) (C := fill 65535 cb ++ [((21 : Int), (f.code.length : Int))]) (E := E) (by dsimp only; rw [hcode4]; simp) (by dsimp only; rw [List.length_append, hlen4, ← hE]; rfl) hE6
  obtain ⟨L7, s1⟩ := shut_go p1.inv (ls := f1.loops) (base := (f1.locals.length : Int)) (c := cb) (pre := f1.code ++ [((22 : Int), (E : Int))]) (post := [((21 : Int), (f.code.length : Int))]) (by simp; omega) (by rw [a3]; omega) (by dsimp only; rw [hlp4]; simp) (by simp)
  dsimp only at s1
  rw [show (f1.code ++ ((22, (E : Int)) :: (fill 65535 cb ++ [((21 : Int), (f.code.length : Int))]))).length = E from by rw [← hE]; simp [fill_len]; omega] at s1
  have hgo := Go.trans a1' (go_bindV (G := fun a s => bind1 (s.get k) fun g => bind1 (openM k g.locals.length s) fun s => bind1 (blockM ns (recC ns m) k r1 s) fun s => bind1 (emitM k [(21, u16 f.code.length)] s) fun s => bind1 (patchM k a s) fun s => shutM k s) r1' r3 (go_get (G := fun g s => bind1 (openM k g.locals.length s) fun s => bind1 (blockM ns (recC ns m) k r1 s) fun s => bind1 (emitM k [(21, u16 f.code.length)] s) fun s => bind1 (patchM k (f1.code.length : Int) s) fun s => shutM k s) r2.at_ (Go.trans o1 (Go.trans b1 (Go.trans g1 (Go.trans p1 s1))))))
  refine ⟨L7, _, [], (c1 ++ ([((22 : Int), (E : Int))] ++ (fill E cb ++ [((21 : Int), (f.code.length : Int))]))).map some, (hgo.congr fun s hs => ?_).mono (by simp; omega), by dsimp only; rw [b2, a2]; simp, (fun x hx => by cases hx), rfl, by rw [fill_some]; dsimp only; rw [a4]; simp, ?_, fun b X hX g p hF hC => ?_, fun P Es b br hF hEs hB hA => ?_⟩
  · show stmtM ns (recC ns m) k hi s = _
    unfold stmtM
    rw [hs.get hI.at_, nd_nat, hd]
    show whileM ns (recC ns m) k _ s = _
    unfold whileM
    rw [hs.get hI.at_]
    rfl
  · dsimp only
    rw [a3]
    exact .same (some_map _)
  · have hzz := z_le hI hz hF hgo.stp.fx
    have hkl := a1'.stp.kl.1
    have hln1 := a1'.stp.ln
    have hln2 := r3.ln
    have hln3 := o1.stp.ln
    rw [fill_some]
    simp only [List.length_nil, List.replicate_zero, List.append_nil]
    have k1 := (a5 []).up (r3.trans (o1.stp.trans (b1.stp.trans (g1.stp.trans (p1.stp.trans s1.stp))))) hkl (Nat.le_refl _) g p hF hC
    have k2 := (b5 E ((E, ⟨[], z⟩) :: (f.code.length, ⟨[], z⟩) :: X) (fun _ => ⟨by omega, List.mem_cons_self⟩)).up (a' := L.length) (g1.stp.trans (p1.stp.trans s1.stp)) (by omega) (by omega) g p hF hC
    refine Ck.resStart (Ck.resEnd ?_)
    rw [show f.code.length + (c1 ++ ([((22 : Int), (E : Int))] ++ (fill E cb ++ [((21 : Int), (f.code.length : Int))]))).length = E from by rw [← hE, hlen1]; simp [fill_len]; omega]
    refine (k1.weak (fun _ h => by cases h) (show [].length + q ≤ 128 by simp; omega)).app ?_
    refine (ck_jf (by omega) hzz List.mem_cons_self (Ty.le_refl _)).app ?_
    rw [List.length_append, hlen1] at k2
    refine k2.app ?_
    exact ck_jmp (by omega) hzz (List.mem_cons_of_mem _ List.mem_cons_self) (Ty.le_refl _)
  · rw [fill_some] at hA
    have hkl := a1'.stp.kl.1
    have hEE : f.code.length + ((c1 ++ ([((22 : Int), (E : Int))] ++ (fill E cb ++ [((21 : Int), (f.code.length : Int))]))).map some).length = E := by rw [← hE, hlen1]; simp [fill_len]; omega
    rw [hEE]
    have F6 := hF.back s1.stp p1.inv.at_ s1.inv.at_ hkl
    have F5 := F6.back p1.stp g1.inv.at_ p1.inv.at_ hkl
    have F4 := F5.back g1.stp b1.inv.at_ g1.inv.at_ hkl
    have F3 := F4.back b1.stp o1.inv.at_ b1.inv.at_ hkl
    have F2 := F3.back o1.stp r2.at_ o1.inv.at_ hkl
    have F1 := F2.back r3 a1'.inv.at_ r2.at_ hkl
    have t1 := a6 P Es F1 hEs hA.left
    have t2 := b6 P Es E (some (al, E)) (F4.lo (by have := a1'.stp.ln; have := r3.ln; have := o1.stp.ln; omega)) (o1.stp.sco (r3.sco (a1'.stp.sco hEs))) (fun _ => ⟨f1.loops, al, [], by dsimp only; rw [hf1], rfl⟩) (hA.right.right.left.atE (by dsimp only; rw [List.length_append, hlen1]; rfl))
    dsimp only at t2
    rw [a2, List.length_append, hlen1] at t2
    refine (t1.and t2).up fun m h => ?_
    refine ⟨_, (nd_nat ns hi).trans hd, ?_⟩
    dsimp only
    rw [if_neg (by decide), if_neg (by decide), if_neg (by decide)]
    refine ⟨by rw [b2, a2], ?_⟩
    ((try dsimp only); (repeat rw [if_neg (by decide)]); rw [if_pos rfl])
    rw [hal]
    exact ⟨_, _, h.1, hA.right.left.one, h.2, hA.right.right.right.ins (j := 0) rfl (by rw [fill_len]; rfl), by simp; omega⟩
theorem st_ife {al lo m1 m2 m3 hi n n1 n2 n3 q a1 a2 : Nat} {lp : Bool} {a nx r1 r2 : Int} (hd : ns[hi]? = some ⟨6, m1, r1, r2, nx, 0, [], a⟩) (hl1 : lo < m1) (hl2 : m1 ≤ m2) (hl3 : m2 ≤ m3) (hn12 : n1 ≤ n2) (hn23 : n2 ≤ n3) (hl : m3 < hi) (hc : ExL ns q lo m1 m1 n n1) (hq : q ≤ QQ) (h1 : BsL ns al lp a1 m1 m2 r1 n1 n2) (h2 : BsL ns al lp a2 m2 m3 r2 n2 n3) : StL ns al lp al lo hi hi n n3 := by
  intro m k B ch L f z bt hm hn hB hI hz hal hlo hlp
  have hhi := lt_of hd
  obtain ⟨m, rfl⟩ : ∃ j, m = j + 1 := ⟨m - 1, by omega⟩
  unfold QQ at hq
  have hzl : z.length = al := by rw [hz.1, hal]
  obtain ⟨L1, f1, c1, a1', a2', a3, a4, a5, a6⟩ := hc m k B ch L f z (by omega) (by omega) (by omega) hI hz
  have hf1 : f1.locals.length = al := by rw [a2', hal]
  have hlen1 : f1.code.length = f.code.length + c1.length := by rw [a4, List.length_append]
  obtain ⟨L2, u1, u2, u3⟩ := jump_go a1'.inv 22 (by omega)
  obtain ⟨L3, f3, ct, b1, b2, b3, b4, b5, b6⟩ := block_go h1 hl2 (m := m) (bt := bt) (z := z) (by omega) (by omega) (by omega) (by omega) u2 (by dsimp only; rw [a2']; exact hz) (by dsimp only; exact hf1) (by dsimp only; rw [a3]; omega) (fun q => by
    obtain ⟨ls, base, ps, w1, w2, w3, w4⟩ := hlp q
    exact ⟨ls, base, ps, by dsimp only; rw [a3]; exact w1, w2, w3, by dsimp only; rw [List.length_append, hlen1]; omega⟩)
  dsimp only at b2 b3 b4 b5
  obtain ⟨L4, v1, v2, v3⟩ := jump_go b1.inv 21 (by omega)
  have hcode3 : f3.code = f1.code ++ ((22, 65535) :: fill 65535 ct) := by rw [b3, List.append_assoc]; rfl
  have hlen3 : f3.code.length = f1.code.length + 1 + ct.length := by rw [hcode3]; simp [fill_len]; omega
  have hcd := v2.code
  dsimp only at hcd
  rw [List.length_append, List.length_singleton] at hcd
  obtain ⟨E1, hE1⟩ : ∃ E, f1.code.length + 1 + ct.length + 1 = E := ⟨_, rfl⟩
  have hE16 : E1 ≤ 65535 := by omega
  obtain ⟨L5, p1⟩ := patch_to v2 (A := f1.code) (x := (22, 65535)) (C := fill 65535 ct ++ [((21 : Int), (65535 : Int))]) (E := E1) (by dsimp only; rw [hcode3]; simp) (by dsimp only; rw [List.length_append, hlen3, ← hE1]; rfl) hE16
  have hlen5 : (f1.code ++ ((22, (E1 : Int)) :: (fill 65535 ct ++ [((21 : Int), (65535 : Int))]))).length = E1 := by rw [← hE1]; simp [fill_len]; omega
  have hlp3 : LpIn lp f3.loops al z bt f3.code.length := by
    have := hlp.grow (cl' := f3.code.length) (al' := al) (c := ct) (k := k) (o := (f1.code ++ [((22 : Int), (65535 : Int))]).length) (l' := f3.loops) (by rw [← a3]; exact b4) [] hzl (Nat.le_refl _) (by omega)
    rw [List.append_nil] at this
    exact this
  obtain ⟨L6, f6, ce, d1, d2, d3, d4, d5, d6⟩ := block_go h2 hl3 (m := m) (bt := bt) (z := z) (by omega) (by omega) hn (by omega) p1.inv (by dsimp only; rw [b2, a2']; exact hz) (by dsimp only; rw [b2]; exact hf1) (by dsimp only; rw [b4.len (al := al) (cl := f.code.length) (z := z) (bt := bt) (by rw [a3]; exact hlp), a3]; omega) (fun q => by
    obtain ⟨ls, base, ps, w1, w2, w3, w4⟩ := hlp3 q
    exact ⟨ls, base, ps, w1, w2, w3, by dsimp only; rw [hlen5]; omega⟩)
  dsimp only at d2 d3 d4 d5
  rw [hlen5] at d4 d5
  have hcode6 : f6.code = (f1.code ++ ((22, (E1 : Int)) :: fill 65535 ct)) ++ ((21, 65535) :: fill 65535 ce) := by rw [d3]; simp
  have hlenA : (f1.code ++ ((22, (E1 : Int)) :: fill 65535 ct)).length = f3.code.length := by rw [hlen3]; simp [fill_len]; omega
  have hlen6 : f6.code.length = E1 + ce.length := by rw [d3, List.length_append, fill_len, hlen5]
  have hcd6 := d1.inv.code
  obtain ⟨E2, hE2⟩ : ∃ E, E1 + ce.length = E := ⟨_, rfl⟩
  have hE26 : E2 ≤ 65535 := by omega
  obtain ⟨L7, p2⟩ := patch_to d1.inv (E := E2) hcode6 (by omega) hE26
  rw [hlenA] at p2
  have hgo := Go.trans a1' (go_bindV (G := fun a s => bind1 (blockM ns (recC ns m) k r1 s) fun s => bind2 (jumpM k 21 s) fun b s => bind1 (patchM k a s) fun s => bind1 (blockM ns (recC ns m) k r2 s) fun s => patchM k b s) u1 u3 (Go.trans b1 (go_bindV (G := fun b s => bind1 (patchM k (f1.code.length : Int) s) fun s => bind1 (blockM ns (recC ns m) k r2 s) fun s => patchM k b s) v1 v3 (Go.trans p1 (Go.trans d1 p2)))))
  refine ⟨_, _, [], c1.map some ++ (some ((22 : Int), (E1 : Int)) :: (ct ++ (some ((21 : Int), (E2 : Int)) :: ce))), (hgo.congr fun s hs => ?_).mono (by omega), by dsimp only; rw [d2, b2, a2']; simp, (fun x hx => by cases hx), rfl, ?_, ?_, fun b X hX g p hF hC => ?_, fun P Es b br hF hEs hB hA => ?_⟩
  · show stmtM ns (recC ns m) k hi s = _
    unfold stmtM
    rw [hs.get hI.at_, nd_nat, hd]
    rfl
  · dsimp only
    rw [a4, fill_app, fill_some]
    simp [fill]
  · dsimp only
    have q1 : LpR k f.code.length lp f.loops f.loops (c1.map some ++ [some ((22 : Int), (E1 : Int))]) := .same fun x hx => by
      rcases List.mem_append.1 hx with hx | hx
      · exact some_map _ x hx
      · rw [List.mem_singleton] at hx; subst hx; rfl
    have q2 := q1.app (by
      rw [← a3, show f.code.length + (c1.map some ++ [some ((22 : Int), (E1 : Int))]).length = (f1.code ++ [((22 : Int), (65535 : Int))]).length from by simp; omega]
      exact b4)
    have q3 := q2.app (l2 := f3.loops) (d := [some ((21 : Int), (E2 : Int))]) (.same fun x hx => by rw [List.mem_singleton] at hx; subst hx; rfl)
    have q4 := q3.app (by
      rw [show f.code.length + (c1.map some ++ [some ((22 : Int), (E1 : Int))] ++ ct ++ [some ((21 : Int), (E2 : Int))]).length = E1 from by simp; omega]
      exact d4)
    simpa using q4
  · have hzz := z_le hI hz hF hgo.stp.fx
    have hkl := a1'.stp.kl.1
    have hln1 := a1'.stp.ln
    have hln2 := u3.ln
    have hln3 := b1.stp.ln
    have hln4 := v3.ln
    have hln5 := p1.stp.ln
    simp only [List.length_nil, List.replicate_zero, List.append_nil]
    have efill : fill b (c1.map some ++ (some ((22 : Int), (E1 : Int)) :: (ct ++ (some ((21 : Int), (E2 : Int)) :: ce)))) = (c1 ++ ([((22 : Int), (E1 : Int))] ++ (fill b ct ++ [((21 : Int), (E2 : Int))]))) ++ fill b ce := by
      rw [fill_app, fill_some]
      simp [fill]
    rw [efill]
    have k1 := (a5 []).up (u3.trans (b1.stp.trans (v3.trans (p1.stp.trans (d1.stp.trans p2.stp))))) hkl (Nat.le_refl _) g p hF hC
    have k2 := (b5 b ((E1, ⟨[], z⟩) :: (E2, ⟨[], z⟩) :: X) (fun q => ⟨(hX q).1, List.mem_cons_of_mem _ (List.mem_cons_of_mem _ (hX q).2)⟩)).up (a' := L.length) (v3.trans (p1.stp.trans (d1.stp.trans p2.stp))) (by omega) (by omega) g p hF hC
    have k3 := (d5 b ((E2, ⟨[], z⟩) :: X) (fun q => ⟨(hX q).1, List.mem_cons_of_mem _ (hX q).2⟩)).up (a' := L.length) p2.stp (by omega) (by omega) g p hF hC
    have hl1 : f.code.length + (c1 ++ ([((22 : Int), (E1 : Int))] ++ (fill b ct ++ [((21 : Int), (E2 : Int))]))).length = E1 := by rw [← hE1, hlen1]; simp [fill_len]; omega
    refine Ck.resEnd ?_
    rw [List.length_append, ← Nat.add_assoc, hl1, fill_len, hE2]
    refine Ck.app (t1 := ⟨[], z⟩) ?_ (by rw [hl1]; exact k3)
    refine Ck.resEnd ?_
    rw [hl1]
    refine (k1.weak (fun _ h => by cases h) (show [].length + q ≤ 128 by simp; omega)).app ?_
    refine (ck_jf (by omega) hzz List.mem_cons_self (Ty.le_refl _)).app ?_
    rw [List.length_append, hlen1] at k2
    refine k2.app ?_
    exact ck_jmp (by omega) hzz (List.mem_cons_of_mem _ List.mem_cons_self) (Ty.le_refl _)
  · have hkl := a1'.stp.kl.1
    have efill : fill b (c1.map some ++ (some ((22 : Int), (E1 : Int)) :: (ct ++ (some ((21 : Int), (E2 : Int)) :: ce)))) = c1 ++ ([((22 : Int), (E1 : Int))] ++ (fill b ct ++ ([((21 : Int), (E2 : Int))] ++ fill b ce))) := by
      rw [fill_app, fill_some]
      simp [fill]
    rw [efill] at hA
    have hEE : f.code.length + (c1.map some ++ (some ((22 : Int), (E1 : Int)) :: (ct ++ (some ((21 : Int), (E2 : Int)) :: ce)))).length = E2 := by rw [← hE2, ← hE1, hlen1]; simp; omega
    rw [hEE]
    have F6 := hF.back p2.stp d1.inv.at_ p2.inv.at_ hkl
    have F5 := F6.back d1.stp p1.inv.at_ d1.inv.at_ hkl
    have F4 := F5.back p1.stp v2.at_ p1.inv.at_ hkl
    have F3 := F4.back v3 b1.inv.at_ v2.at_ hkl
    have F2 := F3.back b1.stp u2.at_ b1.inv.at_ hkl
    have F1 := F2.back u3 a1'.inv.at_ u2.at_ hkl
    have hln1 := a1'.stp.ln
    have hln2 := u3.ln
    have hln3 := b1.stp.ln
    have hln4 := v3.ln
    have hln5 := p1.stp.ln
    have Es2 := u3.sco (a1'.stp.sco hEs)
    have Es5 := p1.stp.sco (v3.sco (b1.stp.sco Es2))
    have t1 := a6 P Es F1 hEs hA.left
    have t2 := b6 P Es b br (F3.lo (by omega)) Es2 (by dsimp only; rw [a3]; exact hB) (hA.right.right.left.atE (by dsimp only; rw [List.length_append, hlen1]; rfl))
    dsimp only at t2
    rw [a2', List.length_append, hlen1] at t2
    have t3 := d6 P Es b br (F6.lo (by omega)) Es5 (BrIn.grow (by rw [← a3] at hB; exact hB) b4) (hA.right.right.right.right.atE (by dsimp only; rw [hlen5, ← hE1, hlen1, fill_len]; simp))
    dsimp only at t3
    rw [b2, a2', hlen5] at t3
    refine ((t1.and t2).and t3).up fun m h => ?_
    obtain ⟨⟨w1, w2⟩, w3⟩ := h
    refine ⟨_, (nd_nat ns hi).trans hd, ?_⟩
    dsimp only
    rw [if_neg (by decide), if_neg (by decide), if_neg (by decide)]
    refine ⟨by rw [d2, b2, a2'], ?_⟩
    ((try dsimp only); (repeat rw [if_neg (by decide)]); rw [if_pos rfl])
    have e5 : f.code.length + c1.length + [((22 : Int), (65535 : Int))].length + ct.length + 1 = E1 := by rw [← hE1, hlen1]; rfl
    refine ⟨_, _, w1, ?_, w2, hA.right.right.right.left.ins (j := 0) rfl (by rw [fill_len]; rfl), ?_⟩
    · rw [e5]; exact hA.right.left.one
    · rw [e5, ← hE2]; exact w3
end
end Go.Wl
