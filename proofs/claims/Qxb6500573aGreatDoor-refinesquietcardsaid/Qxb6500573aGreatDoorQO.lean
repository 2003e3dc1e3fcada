/- Plain: the compiler: for in. -/
import Derived.Test.Qxb6500573aGreatDoorQN
namespace Go.Wl
open Go Go.Sl Go.Proofs
set_option linter.unusedVariables false
section
variable {ns : List Nd}
set_option maxHeartbeats 2000000 in
theorem st_forIn {al lo m1 m2 m3 hi n n1 n2 q a1 : Nat} {lp : Bool} {a nx r r1 : Int} (hd : ns[hi]? = some ⟨9, r, m2, r1, nx, 0, [], a⟩) (hl1 : lo ≤ m1) (hl2 : m1 < m2) (hl3 : m2 ≤ m3) (hn12 : n1 ≤ n2) (hl : m3 < hi) (hp : Nn ns (.ps 2) lo m1 r n n) (hx : ExL ns q m1 m2 m2 n n1) (hq : q ≤ QQ) (h : al + 4 ≤ 12) (h1 : BsL ns (al + 4) true a1 m2 m3 r1 n1 n2) : StL ns al lp al lo hi hi n n2 := by
  intro m k B ch L f z bt hm hn hB hI hz hal hlo hlp
  have hhi := lt_of hd
  obtain ⟨m, rfl⟩ : ∃ j, m = j + 1 := ⟨m - 1, by omega⟩
  unfold QQ at *
  obtain ⟨x1, dk, rfl, e1, e2, e3, e4, hp⟩ := ps_inv hp
  obtain ⟨x2, dv, e5, e6', e7, e8, e9, hp⟩ := ps_inv hp
  have hzl : z.length = al := by rw [hz.1, hal]
  have hal2 := hI.al
  have ea : u16 (al : Int) = al := u16_id (by omega)
  obtain ⟨L1, f1, c1, s0, a2, a3, a4, a5, a6⟩ := hx m k B ch L f z (by omega) (by omega) (by omega) hI hz
  have hf1 : f1.locals.length = al := by rw [a2, hal]
  have hlen1 : f1.code.length = f.code.length + c1.length := by rw [a4, List.length_append]
  obtain ⟨L2, s1⟩ := bind_go s0.inv [] (by omega) (by omega)
  rw [hf1] at s1
  obtain ⟨L3, s2⟩ := emit_to s1.inv [((2 : Int), (0 : Int))] rfl (by simp; omega)
  obtain ⟨L4, s3⟩ := bind_go s2.inv [] (by dsimp only; rw [List.length_append, hf1]; simp; omega) (by simp; omega)
  have hfl3 : (f1.locals ++ [([] : List UInt8)]).length = al + 1 := by rw [List.length_append, hf1]; rfl
  dsimp only at s3
  rw [hfl3] at s3
  obtain ⟨L5, s4⟩ := emit_to s3.inv [(32, u16 (al : Int))] (l2 := [(32, (al : Int))]) (by rw [ea]) (by simp; omega)
  obtain ⟨L6, s5, s5i, s5s⟩ := jump_go s4.inv 22 (by simp; omega)
  obtain ⟨L7, s6⟩ := open_to s5i (al : Int) (by dsimp only; rw [a3]; omega)
  have hfl7 : (f1.locals ++ [([] : List UInt8)] ++ [([] : List UInt8)]).length = al + 2 := by rw [List.length_append, hfl3]; rfl
  obtain ⟨L8, s7, s7i, s7s⟩ := declare_go s6.inv dk.s (by dsimp only; omega)
  obtain ⟨L9, s8, s8i, s8s⟩ := declare_go s7i dv.s (by dsimp only; rw [List.length_append, hfl7]; simp; omega)
  obtain ⟨A, hA⟩ : ∃ A, f1.code ++ [((6 : Int), (al : Int))] ++ [((2 : Int), (0 : Int))] ++ [((6 : Int), ((al + 1 : Nat) : Int))] ++ [((32 : Int), (al : Int))] = A := ⟨_, rfl⟩
  have hAl : A.length = f.code.length + c1.length + 4 := by rw [← hA, ← hlen1]; simp
  dsimp only at s4 s5 s5i s5s s6 s7 s7i s7s s8 s8i s8s
  rw [hA] at s4 s5 s5i s5s s6 s7i s7s s8i s8s
  have hloc9 : f1.locals ++ [([] : List UInt8)] ++ [([] : List UInt8)] ++ [dk.s] ++ [dv.s] = f.locals ++ List.replicate 2 [] ++ [dk.s, dv.s] := by rw [a2]; simp
  have hfl9 : (f1.locals ++ [([] : List UInt8)] ++ [([] : List UInt8)] ++ [dk.s] ++ [dv.s]).length = al + 4 := by rw [hloc9]; simp; omega
  have hzy : Zl (z ++ [1, 1] ++ [0, 0]) (f1.locals ++ [([] : List UInt8)] ++ [([] : List UInt8)] ++ [dk.s] ++ [dv.s]) := by
    rw [hloc9]
    exact (hid_zl hz 2 rfl).nw (nw := [dk.s, dv.s])
  obtain ⟨L10, f10, cb, s9, b2, b3, b4, b5, b6⟩ := block_go h1 hl3 (m := m) (bt := ⟨[], z ++ [1, 1]⟩) (z := z ++ [1, 1] ++ [0, 0]) (by omega) (by omega) hn (by simp; omega) s8i hzy (by dsimp only; exact hfl9) (by dsimp only; rw [a3]; simp; omega) (fun _ => ⟨f1.loops, al, [], rfl, by omega, by rw [List.append_assoc, take_z hzl]; exact le_app _ _ _ (by decide), by simp⟩)
  dsimp only at b2 b3 b4 b5
  have hlp10 := b4.2 rfl f1.loops (al : Int) [] rfl
  rw [List.nil_append] at hlp10
  have hfl10 : f10.locals.length = al + 4 := by rw [b2]; exact hfl9
  obtain ⟨L11, f11, cl1, s10, d2, d3, d4, d5, d6, d7⟩ := leave_go s9.inv (al + 2) (by omega) (by simp; omega)
  have hcode10 : f10.code = A ++ ((22, 65535) :: fill 65535 cb) := by rw [b3]; simp
  have hcd11 := s10.inv.code
  have hlen10 : f10.code.length = f.code.length + c1.length + 5 + cb.length := by rw [hcode10]; simp [fill_len, hAl]; omega
  have hlen11 : f11.code.length = f.code.length + c1.length + 5 + cb.length + cl1.length := by rw [d4, List.length_append, hlen10]
  have hf4len : (f1.code ++ [((6 : Int), (al : Int))] ++ [((2 : Int), (0 : Int))] ++ [((6 : Int), ((al + 1 : Nat) : Int))]).length = f.code.length + c1.length + 3 := by rw [← hlen1]; simp
  have et : u16 (((f1.code ++ [((6 : Int), (al : Int))] ++ [((2 : Int), (0 : Int))] ++ [((6 : Int), ((al + 1 : Nat) : Int))]).length : Nat) : Int) = ((f.code.length + c1.length + 3 : Nat) : Int) := by rw [hf4len]; exact u16_id (by simp at hcd11; omega)
  obtain ⟨top, htop⟩ : ∃ top, f.code.length + c1.length + 3 = top := ⟨_, rfl⟩
  rw [htop] at et
  obtain ⟨L12, s11⟩ := emit_to s10.inv [((21 : Int), u16 (((f1.code ++ [((6 : Int), (al : Int))] ++ [((2 : Int), (0 : Int))] ++ [((6 : Int), ((al + 1 : Nat) : Int))]).length : Nat) : Int))] (l2 := [((21 : Int), (top : Int))]) (by rw [et]) (by simp; omega)
  obtain ⟨E, hE⟩ : ∃ E, f.code.length + c1.length + 5 + cb.length + cl1.length + 1 = E := ⟨_, rfl⟩
  have hE6 : E ≤ 65535 := by simp at hcd11; omega
  obtain ⟨L13, s12⟩ := patch_to s11.inv (A := A) (x := (22, 65535)) (C := fill 65535 cb ++ (cl1 ++ [((21 : Int), (top : Int))])) (E := E) (by dsimp only; rw [d4, hcode10]; simp) (by dsimp only; rw [List.length_append, hlen11, ← hE]; rfl) hE6
  dsimp only at s12
  obtain ⟨L14, s13⟩ := shut_go s12.inv (ls := f1.loops) (base := (al : Int)) (c := cb) (pre := A ++ [((22 : Int), (E : Int))]) (post := cl1 ++ [((21 : Int), (top : Int))]) (by simp; omega) (by rw [a3]; omega) (by dsimp only; rw [d3, hlp10]; simp) (by simp)
  dsimp only at s13
  rw [show (A ++ ((22, (E : Int)) :: (fill 65535 cb ++ (cl1 ++ [((21 : Int), (top : Int))])))).length = E from by rw [← hE]; simp [fill_len, hAl]; omega] at s13
  have hl11 : f11.locals = f.locals ++ List.replicate 2 [] := by
    rw [d2, b2, hloc9]
    rw [List.take_append_of_le_length (by simp; omega), List.take_of_length_le (by simp; omega)]
  have hfl11 : f11.locals.length = al + 2 := by rw [hl11]; simp; omega
  obtain ⟨L15, f15, cl2, s14, w2, w3, w4, w5, w6, w7⟩ := leave_go s13.inv al (by dsimp only; omega) (by simp; omega)
  dsimp only at w2 w3 w4 w5 w6 w7
  have hgo := Go.trans s0 (Go.trans s1 (Go.trans s2 (Go.trans s3 (go_get (G := fun g s => bind1 (emitM k [(32, u16 (al : Int))] s) fun s => bind2 (jumpM k 22 s) fun a s =>
      bind1 (openM k al s) fun s => bind2 (declareM k dk.s s) fun _ s => bind2 (declareM k dv.s s) fun _ s => bind1 (blockM ns (recC ns m) k r1 s) fun s => bind1 (leaveM k ((al : Int) + 2) s) fun s =>
      bind1 (emitM k [(21, u16 g.code.length)] s) fun s => bind1 (patchM k a s) fun s => bind1 (shutM k s) fun s => leaveM k al s) s3.inv.at_
    (Go.trans s4 (go_bindV (G := fun a s => bind1 (openM k al s) fun s => bind2 (declareM k dk.s s) fun _ s => bind2 (declareM k dv.s s) fun _ s => bind1 (blockM ns (recC ns m) k r1 s) fun s => bind1 (leaveM k ((al : Int) + 2) s) fun s =>
      bind1 (emitM k [(21, u16 (((f1.code ++ [((6 : Int), (al : Int))] ++ [((2 : Int), (0 : Int))] ++ [((6 : Int), ((al + 1 : Nat) : Int))]).length : Nat) : Int))] s) fun s => bind1 (patchM k a s) fun s => bind1 (shutM k s) fun s => leaveM k al s) s5 s5s
      (Go.trans s6 (go_bindV (G := fun _ s => bind2 (declareM k dv.s s) fun _ s => bind1 (blockM ns (recC ns m) k r1 s) fun s => bind1 (leaveM k ((al : Int) + 2) s) fun s =>
        bind1 (emitM k [(21, u16 (((f1.code ++ [((6 : Int), (al : Int))] ++ [((2 : Int), (0 : Int))] ++ [((6 : Int), ((al + 1 : Nat) : Int))]).length : Nat) : Int))] s) fun s => bind1 (patchM k (A.length : Int) s) fun s => bind1 (shutM k s) fun s => leaveM k al s) s7 s7s
        (go_bindV (G := fun _ s => bind1 (blockM ns (recC ns m) k r1 s) fun s => bind1 (leaveM k ((al : Int) + 2) s) fun s =>
          bind1 (emitM k [(21, u16 (((f1.code ++ [((6 : Int), (al : Int))] ++ [((2 : Int), (0 : Int))] ++ [((6 : Int), ((al + 1 : Nat) : Int))]).length : Nat) : Int))] s) fun s => bind1 (patchM k (A.length : Int) s) fun s => bind1 (shutM k s) fun s => leaveM k al s) s8 s8s
          (Go.trans s9 (Go.trans s10 (Go.trans s11 (Go.trans s12 (Go.trans s13 s14))))))))))))))
  refine ⟨L15, f15, [], (c1 ++ ([((6 : Int), (al : Int)), ((2 : Int), (0 : Int)), ((6 : Int), ((al + 1 : Nat) : Int))] ++ (([((32 : Int), (al : Int)), ((22 : Int), (E : Int))] ++ (fill E cb ++ (cl1 ++ [((21 : Int), (top : Int))]))) ++ cl2))).map some, (hgo.congr fun s hs => ?_).mono (by simp; omega), ?_, (fun x hx => by cases hx), rfl, ?_, ?_, fun b X hX g p hF hC => ?_, fun P Es b br hF hEs hB hL => ?_⟩
  · show stmtM ns (recC ns m) k hi s = _
    unfold stmtM
    rw [hs.get hI.at_, nd_nat, hd]
    show walkM ns (recC ns m) k _ s = _
    unfold walkM
    rw [hs.get hI.at_]
    show (if f.locals.length < 1000000 then _ else _) = _
    rw [if_pos (by omega)]
    show bind1 (nd ns (x1 : Int)) _ = _
    rw [nd_nat, e1]
    show bind1 (nd ns dk.next) _ = _
    rw [e5, nd_nat, e6', hal]
    rfl
  · rw [w2, hl11, ← hal, List.take_left]; simp
  · rw [fill_some, w4, ← hA, a4]; simp
  · rw [w3, a3]
    exact .same (some_map _)
  · have hkl := s0.stp.kl.1
    have hln0 := s0.stp.ln
    have hln1 := s1.stp.ln
    have hln2 := s2.stp.ln
    have hln3 := s3.stp.ln
    have hln4 := s4.stp.ln
    have hln5 := s5s.ln
    have hln6 := s6.stp.ln
    have hln7 := s7s.ln
    have hln8 := s8s.ln
    have hfx9 := s9.stp.fx.trans (s10.stp.fx.trans (s11.stp.fx.trans (s12.stp.fx.trans (s13.stp.fx.trans s14.stp.fx))))
    have hsl := (hF.mono hfx9).sl
    dsimp only at hsl
    have hfl8 : (f1.locals ++ [([] : List UInt8)] ++ [([] : List UInt8)] ++ [dk.s]).length = al + 3 := by rw [List.length_append, hfl7]; rfl
    rw [hfl8] at hsl
    have hsl4 : (al : Int) + 4 ≤ p.nslots := by omega
    rw [fill_some]
    simp only [List.length_nil, List.replicate_zero, List.append_nil]
    have hzz : z.length ≤ p.nslots.toNat := by omega
    have hzz1 : (z ++ [1]).length ≤ p.nslots.toNat := by simp; omega
    have hzz2 : (z ++ [1, 1]).length ≤ p.nslots.toNat := by simp; omega
    have le12 : (⟨[], z ++ [1]⟩ : Ty).le ⟨[], z ++ [1, 1]⟩ := by
      have := le_app [] (z ++ [1]) [1] (by decide)
      rw [List.append_assoc] at this
      exact this
    have k1 := (a5 []).up (s1.stp.trans (s2.stp.trans (s3.stp.trans (s4.stp.trans (s5s.trans (s6.stp.trans (s7s.trans (s8s.trans (s9.stp.trans (s10.stp.trans (s11.stp.trans (s12.stp.trans (s13.stp.trans s14.stp))))))))))))) hkl (Nat.le_refl _) g p hF hC
    refine (k1.weak (fun _ h => by cases h) (show [].length + q ≤ 128 by simp; omega)).app ?_
    have P1 : ∀ o, Ck g p X 128 o [((6 : Int), (al : Int)), ((2 : Int), (0 : Int)), ((6 : Int), ((al + 1 : Nat) : Int))] ⟨[false], z⟩ ⟨[], z ++ [1, 1]⟩ := fun o =>
      Ck.app (l := [((6 : Int), (al : Int))]) (t1 := ⟨[], z ++ [1]⟩) (ck_set (st := []) (by omega) (by omega) (none_at (by omega)) (by simp) hzz (le_app _ _ _ (by decide)))
        (Ck.app (l := [((2 : Int), (0 : Int))]) (t1 := ⟨[false], z ++ [1]⟩) (ck_zero (by simp) hzz1) (ck_set (st := []) (by omega) (by omega) (none_at (by simp; omega)) (by simp) hzz1 le12))
    refine (P1 _).app ?_
    have P3 : Ck g p X 128 top ([((32 : Int), (al : Int)), ((22 : Int), (E : Int))] ++ (fill E cb ++ (cl1 ++ [((21 : Int), (top : Int))]))) ⟨[], z ++ [1, 1]⟩ ⟨[], z ++ [1, 1]⟩ := by
      refine Ck.resStart (Ck.resEnd ?_)
      rw [show top + ([((32 : Int), (al : Int)), ((22 : Int), (E : Int))] ++ (fill E cb ++ (cl1 ++ [((21 : Int), (top : Int))]))).length = E from by rw [← hE, ← htop]; simp [fill_len]; omega]
      obtain ⟨X', hX'⟩ : ∃ X', X' = (E, (⟨[], z ++ [1, 1]⟩ : Ty)) :: (top, ⟨[], z ++ [1, 1]⟩) :: X := ⟨_, rfl⟩
      rw [← hX']
      have mE : (E, (⟨[], z ++ [1, 1]⟩ : Ty)) ∈ X' := by rw [hX']; exact List.mem_cons_self
      have mT : (top, (⟨[], z ++ [1, 1]⟩ : Ty)) ∈ X' := by rw [hX']; exact List.mem_cons_of_mem _ List.mem_cons_self
      have q1 : Ck g p X' 128 top [((32 : Int), (al : Int))] ⟨[], z ++ [1, 1]⟩ ⟨[false], z ++ [1, 1]⟩ :=
        Ck.one (bB (by simp) hzz2) (by dsimp only; omega) fun T hT he hL hn => .forN hT (by dsimp only; omega) (by
          show (z ++ [1, 1])[al + 1]? ≠ some 2
          rw [at_app hzl 1]
          exact fun q => by cases q) (none_at (by simp; omega)) (none_at (by simp; omega)) ⟨by omega, he⟩
      have q2 : Ck g p X' 128 (top + 1) [((22 : Int), (E : Int))] ⟨[false], z ++ [1, 1]⟩ ⟨[], z ++ [1, 1]⟩ := ck_jf hE6 hzz2 mE (Ty.le_refl _)
      have q5 := (b5 E X' (fun _ => ⟨hE6, mE⟩)).up (a' := L.length) (s10.stp.trans (s11.stp.trans (s12.stp.trans (s13.stp.trans s14.stp)))) (by omega) (by omega) g p hF hC
      have e6 : (A ++ [((22 : Int), (65535 : Int))]).length = top + 2 := by rw [← htop]; simp [hAl]
      rw [e6] at q5
      have q6 := d6 (z ++ [1, 1] ++ [0, 0]) X' g p (by rw [hfl10]; simp; omega) (hF.mono (s11.stp.fx.trans (s12.stp.fx.trans (s13.stp.fx.trans s14.stp.fx))))
      rw [show f10.code.length = top + 2 + (fill E cb).length from by rw [hlen10, fill_len, ← htop], take_z (by simp; omega)] at q6
      have q7 : ∀ o, Ck g p X' 128 o [((21 : Int), (top : Int))] ⟨[], z ++ [1, 1]⟩ ⟨[], z ++ [1, 1]⟩ := fun o => ck_jmp (by omega) hzz2 mT (Ty.le_refl _)
      have q : Ck g p X' 128 top [((32 : Int), (al : Int)), ((22 : Int), (E : Int))] ⟨[], z ++ [1, 1]⟩ ⟨[], z ++ [1, 1] ++ [0, 0]⟩ := (q1.app q2).post (le_app _ _ _ (by decide))
      exact q.app (q5.app (q6.app (q7 _)))
    have P4 := w6 (z ++ [1, 1]) X g p (by rw [hfl11]; simp; omega) hF
    rw [take_z hzl] at P4
    have e7 : f.code.length + c1.length + [((6 : Int), (al : Int)), ((2 : Int), (0 : Int)), ((6 : Int), ((al + 1 : Nat) : Int))].length = top := by rw [← htop]; rfl
    rw [e7]
    refine P3.app ?_
    rw [show (A ++ [((22 : Int), (E : Int))] ++ (fill E cb ++ (cl1 ++ [((21 : Int), (top : Int))]))).length = top + ([((32 : Int), (al : Int)), ((22 : Int), (E : Int))] ++ (fill E cb ++ (cl1 ++ [((21 : Int), (top : Int))]))).length from by rw [← htop]; simp [fill_len, hAl]; omega] at P4
    exact P4
  · rw [fill_some] at hL
    have hkl := s0.stp.kl.1
    have F14 := hF.back s14.stp s13.inv.at_ s14.inv.at_ hkl
    have F13 := F14.back s13.stp s12.inv.at_ s13.inv.at_ hkl
    have F12 := F13.back s12.stp s11.inv.at_ s12.inv.at_ hkl
    have F11 := F12.back s11.stp s10.inv.at_ s11.inv.at_ hkl
    have F10 := F11.back s10.stp s9.inv.at_ s10.inv.at_ hkl
    have S18 := s1.stp.trans (s2.stp.trans (s3.stp.trans (s4.stp.trans (s5s.trans (s6.stp.trans (s7s.trans s8s))))))
    have F9 := F10.back s9.stp s8i.at_ s9.inv.at_ hkl
    have F1 := F9.back S18 s0.inv.at_ s8i.at_ hkl
    have hln := (s0.stp.trans S18).ln
    have hEs9 := S18.sco (s0.stp.sco hEs)
    have e6 : (A ++ [((22 : Int), (65535 : Int))]).length = top + 2 := by rw [← htop]; simp [hAl]
    have lb := hL.right.right.left.right.left
    have l1 := hL.right.right.left.right.right.left
    have l5 := hL.right.right.left.right.right.right
    have l2 := hL.right.right.right
    have l3 := hL.right.left
    have l4 := hL.right.right.left.left
    have t1 := a6 P Es F1 hEs hL.left
    have t2 := b6 P Es E (some (al, E)) (F10.lo hln) hEs9 (fun _ => ⟨f1.loops, al, [], rfl, rfl⟩) (lb.atE (by dsimp only; rw [e6]; simp; omega))
    dsimp only at t2
    rw [e6, hloc9] at t2
    have t3 := d7 P (l1.atE (by rw [hlen10, fill_len]; simp))
    unfold levS at t3
    rw [if_pos (by omega)] at t3
    obtain ⟨t3, t4⟩ := t3
    have hcl1 : cl1.length = 1 := by omega
    have hpre : (A ++ [((22 : Int), (E : Int))] ++ (fill E cb ++ (cl1 ++ [((21 : Int), (top : Int))]))).length = E := by rw [← hE]; simp [fill_len, hAl]; omega
    have t5 := w7 P (l2.atE (by rw [hpre, ← hE]; simp [fill_len]; omega))
    unfold levS at t5
    rw [if_pos (by omega)] at t5
    obtain ⟨t5, t6⟩ := t5
    rw [hpre] at t5 t6
    have hcl2 : cl2.length = 1 := by omega
    refine (t1.and t2).up fun m h => ?_
    obtain ⟨v1, v2⟩ := h
    have hl4 : f.locals ++ List.replicate 2 [] ++ [dk.s, dv.s] = f.locals ++ [[], [], dk.s, dv.s] := by simp
    rw [hl4] at v2
    refine ⟨_, (nd_nat ns hi).trans hd, ?_⟩
    dsimp only
    rw [if_neg (by decide), if_neg (by decide), if_neg (by decide)]
    refine ⟨by rw [w2, hl11, ← hal, List.take_left], ?_⟩
    ((try dsimp only); (repeat rw [if_neg (by decide)]); rw [if_pos rfl])
    refine ⟨dk, dv, _, (nd_nat ns x1).trans e1, by rw [e5]; exact (nd_nat ns x2).trans e6', v1, ?_⟩
    unfold walkS
    rw [hal, htop]
    rw [hlen10] at t3
    refine ⟨f.code.length + c1.length + 5 + cb.length, E, l3.ins (j := 0) rfl rfl, l3.ins (j := 1) rfl rfl, l3.ins (j := 2) rfl rfl, l4.ins (j := 0) rfl (by rw [← htop]; rfl), l4.ins (j := 1) rfl rfl, ?_, t3, l5.ins (j := 0) rfl (by simp [fill_len, hcl1]), by omega, t5, ?_⟩
    · rw [show f.code.length + c1.length + 5 = top + 2 from by omega]
      exact v2
    · rw [← hE]
      simp [fill_len, hcl1, hcl2]
      omega
end
end Go.Wl
