/- Plain: the compiler: counting loops. -/
import Derived.Test.Qxb6500573aGreatDoorQL
namespace Go.Wl
open Go Go.Sl Go.Proofs
set_option linter.unusedVariables false
variable {ns : List Nd}
theorem at_app {z w : List Nat} {al : Nat} (h : z.length = al) (i : Nat) : (z ++ w)[al + i]? = w[i]? := by
  rw [List.getElem?_append_right (by omega), show al + i - z.length = i from by omega]
theorem take_z {z w : List Nat} {al : Nat} (h : z.length = al) : (z ++ w).take al = z := by rw [← h, List.take_left]
/-- Slots beyond: what they hold matters only where a number is promised. -/
theorem zle_of {z w v : List Nat} (h0 : ∀ i : Nat, w[i]? = some 0 → v[i]? = some 0) (h2 : ∀ i : Nat, v[i]? = some 2 → w[i]? = some 2) : zle (z ++ w) (z ++ v) := by
  refine ⟨fun s h => ?_, fun s h => ?_⟩
  · by_cases hs : s < z.length
    · rw [List.getElem?_append_left hs] at h ⊢; exact h
    · rw [List.getElem?_append_right (by omega)] at h ⊢; exact h0 _ h
  · by_cases hs : s < z.length
    · rw [List.getElem?_append_left hs] at h ⊢; exact h
    · rw [List.getElem?_append_right (by omega)] at h ⊢; exact h2 _ h
theorem ones3 (i : Nat) (v : Nat) (hv : v ≠ 1) : ([1, 1, 1] : List Nat)[i]? ≠ some v := fun h => by
  match i, h with
  | 0, h => injection h with h; exact hv h.symm
  | 1, h => injection h with h; exact hv h.symm
  | 2, h => injection h with h; exact hv h.symm
theorem two3 (i : Nat) (v : Nat) (h : ([2, 2, 2] : List Nat)[i]? = some v) : v = 2 ∧ i < 3 := by
  match i, h with
  | 0, h => injection h with h; exact ⟨h.symm, by omega⟩
  | 1, h => injection h with h; exact ⟨h.symm, by omega⟩
  | 2, h => injection h with h; exact ⟨h.symm, by omega⟩
theorem le_yz (z : List Nat) : (⟨[], z ++ [2, 2, 2]⟩ : Ty).le ⟨[], z ++ [1, 1, 1]⟩ := ⟨stle.refl _, zle_of (fun i h => by have := two3 i 0 h; omega) (fun i h => absurd h (ones3 i 2 (by decide)))⟩
theorem hid_zl {z w : List Nat} {l : List (List UInt8)} (h : Zl z l) (n : Nat) (hw : w.length = n) : Zl (z ++ w) (l ++ List.replicate n []) := h.app (by simp [hw]) fun s nm hs hn => by
  have := List.mem_of_getElem? hs
  exact absurd (List.mem_replicate.1 this).2 hn
section
variable {ns : List Nd}
theorem round_go {al mlo mhi n1 n2 a1 : Nat} {d : Nd} (hbs : BsL ns (al + 4) true a1 mlo mhi d.b n1 n2) (hlh : mlo ≤ mhi) {m k B : Nat} {ch : List Nat} {L : List Fs} {f : Fs} {z : List Nat} {l0 : List (List UInt8)} (hm : mhi + 1 ≤ m ∧ mhi ≤ 1000) (hns : mhi < ns.length) (hn : n2 ≤ 12) (hB : B + 100 * (mhi - mlo) + 60 ≤ 40000) (hI : Inv ns k ch L f n1 B) (hl : f.locals = l0 ++ [[], []]) (hz : Zl z l0) (hal : l0.length = al) (hal4 : al + 4 ≤ 12) (hlo : f.loops.length + 1 ≤ mlo) (hs : nameOk d.s) :
    ∃ (L' : List Fs) (f' : Fs) (c : List In), Go ns k ch (roundM ns (recC ns m) k al d) L f L' f' n2 (B + 100 * (mhi - mlo) + 45) ∧ f'.locals = l0 ∧ f'.loops = f.loops ∧ f'.code = f.code ++ c ∧ Cd L' f' L.length [] 128 f.code.length c ⟨[false], z ++ [1, 1]⟩ ⟨[], z⟩ ∧ ∀ P Es, FinE P L' L.length → ScoL L ch Es → LiesAt P k f.code.length c → Evs fun m => roundS ns P (recS ns P m) k Es l0 d.s d.b f.code.length (f.code.length + c.length) := by
  have hzl : z.length = al := by rw [hz.1, hal]
  have hfl : f.locals.length = al + 2 := by rw [hl]; simp; omega
  have ea : u16 (al : Int) = al := u16_id (by omega)
  obtain ⟨L2, s1⟩ := bind_go hI [] (by omega) (by omega)
  rw [hfl] at s1
  obtain ⟨L3, s2⟩ := emit_to s1.inv [(30, u16 (al : Int))] (l2 := [(30, (al : Int))]) (by rw [ea]) (by simp; omega)
  obtain ⟨L4, s3⟩ := emit_to s2.inv [(31, u16 (al : Int))] (l2 := [(31, (al : Int))]) (by rw [ea]) (by simp; omega)
  obtain ⟨L5, s4, s4i, s4s⟩ := jump_go s3.inv 22 (by simp; omega)
  obtain ⟨L6, s5⟩ := open_to s4i (al : Int) (by dsimp only; omega)
  obtain ⟨L7, s6⟩ := emit_to s5.inv [(5, u16 (al : Int))] (l2 := [(5, (al : Int))]) (by rw [ea]) (by simp; omega)
  obtain ⟨L8, s7⟩ := bind_go s6.inv d.s (by dsimp only; rw [List.length_append, hfl]; simp; omega) (by simp; omega)
  have hfl8 : (f.locals ++ [([] : List UInt8)]).length = al + 3 := by rw [List.length_append, hfl]; rfl
  dsimp only at s3 s4 s4i s4s s5 s6 s7
  rw [hfl8] at s7
  have hloc8 : f.locals ++ [([] : List UInt8)] ++ [d.s] = l0 ++ List.replicate 3 [] ++ [d.s] := by rw [hl]; simp
  have hzy : Zl (z ++ [2, 2, 2] ++ [0]) (f.locals ++ [([] : List UInt8)] ++ [d.s]) := by
    rw [hloc8]
    exact (hid_zl hz 3 rfl).nw (nw := [d.s])
  obtain ⟨A, hA⟩ : ∃ A, f.code ++ [((6 : Int), ((al + 2 : Nat) : Int))] ++ [(30, (al : Int))] ++ [(31, (al : Int))] = A := ⟨_, rfl⟩
  have hAl : A.length = f.code.length + 3 := by rw [← hA]; simp
  rw [hA] at s3 s4 s4i s4s s5 s6 s7
  obtain ⟨L9, f9, cb, s8, b2, b3, b4, b5, b6⟩ := block_go hbs hlh (m := m) (bt := ⟨[], z ++ [1, 1, 1]⟩) (z := z ++ [2, 2, 2] ++ [0]) hm hns hn (by simp; omega) s7.inv hzy (by dsimp only; rw [List.length_append, hfl8]; rfl) (by dsimp only; simp; omega) (fun _ => ⟨f.loops, al, [], rfl, by omega, by rw [List.append_assoc, take_z hzl]; exact le_app _ _ _ (by decide), by simp⟩)
  dsimp only at b2 b3 b4 b5
  have hlp9 := b4.2 rfl f.loops (al : Int) [] rfl
  rw [List.nil_append] at hlp9
  have hfl9 : f9.locals.length = al + 4 := by rw [b2, List.length_append, hfl8]; rfl
  obtain ⟨L10, f10, cl1, s9, d2, d3, d4, d5, d6, d7⟩ := leave_go s8.inv (al + 3) (by omega) (by simp; omega)
  have hcode9 : f9.code = A ++ ((22, 65535) :: ([((5 : Int), (al : Int)), ((6 : Int), ((al + 3 : Nat) : Int))] ++ fill 65535 cb)) := by rw [b3]; simp
  have hcd10 := s9.inv.code
  have hlen10 : f10.code.length = f.code.length + 6 + cb.length + cl1.length := by rw [d4, hcode9]; simp [fill_len]; omega
  have hf3len : (f.code ++ [((6 : Int), ((al + 2 : Nat) : Int))] ++ [((30 : Int), (al : Int))]).length = f.code.length + 2 := by simp
  have et : u16 (((f.code ++ [((6 : Int), ((al + 2 : Nat) : Int))] ++ [((30 : Int), (al : Int))]).length : Nat) : Int) = ((f.code.length + 2 : Nat) : Int) := by rw [hf3len]; exact u16_id (by simp at hcd10; omega)
  have ea2 : u16 (u16 (al : Int) + 2) = ((al + 2 : Nat) : Int) := by rw [ea]; exact u16_id (by omega)
  obtain ⟨F5, hF5⟩ : ∃ F5 : List In, F5 = [((5 : Int), (al : Int)), (5, ((al + 2 : Nat) : Int)), (15, 1), (6, (al : Int)), (21, ((f.code.length + 2 : Nat) : Int))] := ⟨_, rfl⟩
  obtain ⟨L11, s10⟩ := emit_to s9.inv [((5 : Int), u16 (al : Int)), (5, u16 (u16 (al : Int) + 2)), (15, 1), (6, u16 (al : Int)), (21, u16 (((f.code ++ [((6 : Int), ((al + 2 : Nat) : Int))] ++ [((30 : Int), (al : Int))]).length : Nat) : Int))] (l2 := F5) (by rw [et, ea2, ea, hF5]) (by simp; omega)
  have hF5l : F5.length = 5 := by rw [hF5]; rfl
  obtain ⟨E, hE⟩ : ∃ E, f.code.length + 6 + cb.length + cl1.length + 5 = E := ⟨_, rfl⟩
  have hE6 : E ≤ 65535 := by simp at hcd10; omega
  obtain ⟨L12, s11⟩ := patch_to s10.inv (A := A) (x := (22, 65535)) (C := [((5 : Int), (al : Int)), ((6 : Int), ((al + 3 : Nat) : Int))] ++ (fill 65535 cb ++ (cl1 ++ F5))) (E := E) (by dsimp only; rw [d4, hcode9]; simp) (by dsimp only; rw [List.length_append, hlen10, hF5l, hE]) hE6
  dsimp only at s11
  obtain ⟨L13, s12⟩ := shut_go s11.inv (ls := f.loops) (base := (al : Int)) (c := cb) (pre := A ++ [((22 : Int), (E : Int)), ((5 : Int), (al : Int)), ((6 : Int), ((al + 3 : Nat) : Int))]) (post := cl1 ++ F5) (by simp; omega) (by omega) (by dsimp only; rw [d3, hlp9]; simp) (by simp)
  dsimp only at s12
  rw [show (A ++ ((22, (E : Int)) :: ([((5 : Int), (al : Int)), ((6 : Int), ((al + 3 : Nat) : Int))] ++ (fill 65535 cb ++ (cl1 ++ F5))))).length = E from by rw [← hE]; simp [fill_len, hAl, hF5l]; omega] at s12
  have hfl13 : f10.locals.length = al + 3 := by rw [d2, List.length_take]; omega
  have hl10 : f10.locals = l0 ++ List.replicate 3 [] := by
    rw [d2, b2, hloc8]
    rw [List.take_append_of_le_length (by simp; omega), List.take_of_length_le (by simp; omega)]
  obtain ⟨L14, f14, cl2, s13, x2, x3, x4, x5, x6, x7⟩ := leave_go s12.inv al (by dsimp only; omega) (by simp; omega)
  dsimp only at x2 x3 x4 x5 x6 x7
  have hgo := Go.trans s1 (Go.trans s2 (go_get (G := fun g s => bind1 (emitM k [(31, u16 (al : Int))] s) fun s => bind2 (jumpM k 22 s) fun a s => bind1 (openM k al s) fun s => bind1 (emitM k [(5, u16 (al : Int))] s) fun s => bind1 (bindM k d.s s) fun s => bind1 (blockM ns (recC ns m) k d.b s) fun s => bind1 (leaveM k ((al : Int) + 3) s) fun s =>
    bind1 (emitM k [(5, u16 (al : Int)), (5, u16 (u16 (al : Int) + 2)), (15, 1), (6, u16 (al : Int)), (21, u16 g.code.length)] s) fun s => bind1 (patchM k a s) fun s => bind1 (shutM k s) fun s => leaveM k al s) s2.inv.at_
    (Go.trans s3 (go_bindV (G := fun a s => bind1 (openM k al s) fun s => bind1 (emitM k [(5, u16 (al : Int))] s) fun s => bind1 (bindM k d.s s) fun s => bind1 (blockM ns (recC ns m) k d.b s) fun s => bind1 (leaveM k ((al : Int) + 3) s) fun s =>
      bind1 (emitM k [(5, u16 (al : Int)), (5, u16 (u16 (al : Int) + 2)), (15, 1), (6, u16 (al : Int)), (21, u16 (((f.code ++ [((6 : Int), ((al + 2 : Nat) : Int))] ++ [((30 : Int), (al : Int))]).length : Nat) : Int))] s) fun s => bind1 (patchM k a s) fun s => bind1 (shutM k s) fun s => leaveM k al s) (f := _) (f1 := _) s4 s4s
      (Go.trans s5 (Go.trans s6 (Go.trans s7 (Go.trans s8 (Go.trans s9 (Go.trans s10 (Go.trans s11 (Go.trans s12 s13))))))))))))
  have hgo' : Go ns k ch (roundM ns (recC ns m) k al d) L f L14 f14 n2 _ := hgo.congr fun s hs => rfl
  refine ⟨L14, f14, [((6 : Int), ((al + 2 : Nat) : Int)), (30, (al : Int))] ++ (([((31 : Int), (al : Int)), (22, (E : Int)), (5, (al : Int)), (6, ((al + 3 : Nat) : Int))] ++ (fill E cb ++ (cl1 ++ F5))) ++ cl2), hgo'.mono (by simp; omega), ?_, x3, ?_, fun g p hF hC => ?_, fun P Es hF hEs hL => ?_⟩
  · rw [x2, hl10, ← hal, List.take_left]
  · rw [x4, ← hA]; simp
  · have hkl := s1.stp.kl.1
    have hln1 := s1.stp.ln
    have hln2 := s2.stp.ln
    have hln3 := s3.stp.ln
    have hln4 := s4s.ln
    have hln5 := s5.stp.ln
    have hln6 := s6.stp.ln
    have hln7 := s7.stp.ln
    have hsl := (hF.mono (s8.stp.fx.trans (s9.stp.fx.trans (s10.stp.fx.trans (s11.stp.fx.trans (s12.stp.fx.trans s13.stp.fx)))))).sl
    dsimp only at hsl
    have hsl4 : (al : Int) + 4 ≤ p.nslots := by omega
    have hz2 : (z ++ [1, 1]).length ≤ p.nslots.toNat := by simp; omega
    have hz3 : (z ++ [1, 1, 1]).length ≤ p.nslots.toNat := by simp; omega
    have hy3 : (z ++ [2, 2, 2]).length ≤ p.nslots.toNat := by simp; omega
    have y0 : (z ++ [2, 2, 2])[al]? = some 2 := at_app hzl 0
    have y1 : (z ++ [2, 2, 2])[al + 1]? = some 2 := at_app hzl 1
    have y2 : (z ++ [2, 2, 2])[al + 2]? = some 2 := at_app hzl 2
    -- to the loop
    have P1 : ∀ X, Ck g p X 128 f.code.length [((6 : Int), ((al + 2 : Nat) : Int))] ⟨[false], z ++ [1, 1]⟩ ⟨[], z ++ [1, 1, 1]⟩ := fun X => by
      refine ck_set (st := []) (by omega) (by omega) (none_at (by simp; omega)) (by simp) hz2 ?_
      have := le_app [] (z ++ [1, 1]) [1] (by decide)
      rw [List.append_assoc] at this
      exact this
    have P2 : ∀ X, Ck g p X 128 (f.code.length + 1) [((30 : Int), (al : Int))] ⟨[], z ++ [1, 1, 1]⟩ ⟨[], z ++ [2, 2, 2]⟩ := fun X => by
      refine Ck.one (bB (by simp) hz3) (by dsimp only; omega) fun T hT he hL hn => ?_
      refine .forC (z' := z ++ [2, 2, 2]) hT (by dsimp only; omega) (fun s h => ?_) (fun s h => ?_) hy3 ⟨by omega, he⟩
      · by_cases hss : s < z.length
        · rw [List.getElem?_append_left hss] at h ⊢; exact h
        · rw [List.getElem?_append_right (by omega)] at h
          exact absurd h (ones3 _ 0 (by decide))
      · by_cases hss : s < z.length
        · rw [List.getElem?_append_left hss] at h ⊢; exact .inl h
        · rw [List.getElem?_append_right (by omega)] at h
          have := two3 _ _ h
          exact .inr (by dsimp only; omega)
    have P3 : Ck g p [] 128 (f.code.length + 2) ([((31 : Int), (al : Int)), (22, (E : Int)), (5, (al : Int)), (6, ((al + 3 : Nat) : Int))] ++ (fill E cb ++ (cl1 ++ F5))) ⟨[], z ++ [2, 2, 2]⟩ ⟨[], z ++ [1, 1, 1]⟩ := by
      refine Ck.resStart (Ck.resEnd ?_)
      rw [show f.code.length + 2 + ([((31 : Int), (al : Int)), (22, (E : Int)), (5, (al : Int)), (6, ((al + 3 : Nat) : Int))] ++ (fill E cb ++ (cl1 ++ F5))).length = E from by rw [← hE]; simp [fill_len, hF5l]; omega]
      have q1 : Ck g p ((E, ⟨[], z ++ [1, 1, 1]⟩) :: [(f.code.length + 2, ⟨[], z ++ [2, 2, 2]⟩)]) 128 (f.code.length + 2) [((31 : Int), (al : Int))] ⟨[], z ++ [2, 2, 2]⟩ ⟨[false], z ++ [2, 2, 2]⟩ :=
        Ck.one (bB (by simp) hy3) (by dsimp only; omega) fun T hT he hL hn => .forT hT (by dsimp only; omega) y0 y1 y2 ⟨by omega, he⟩
      have q2 : Ck g p ((E, ⟨[], z ++ [1, 1, 1]⟩) :: [(f.code.length + 2, ⟨[], z ++ [2, 2, 2]⟩)]) 128 (f.code.length + 3) [((22 : Int), (E : Int))] ⟨[false], z ++ [2, 2, 2]⟩ ⟨[], z ++ [2, 2, 2]⟩ := ck_jf hE6 hy3 List.mem_cons_self (le_yz z)
      have q3 : Ck g p ((E, ⟨[], z ++ [1, 1, 1]⟩) :: [(f.code.length + 2, ⟨[], z ++ [2, 2, 2]⟩)]) 128 (f.code.length + 4) [((5 : Int), (al : Int))] ⟨[], z ++ [2, 2, 2]⟩ ⟨[false], z ++ [2, 2, 2]⟩ :=
        Ck.one (bB (by simp) hy3) (by dsimp only; omega) fun T hT he hL hn => .getL (b := false) hT (by dsimp only; omega) (fun q => by cases q) ⟨by omega, he⟩
      have q4 : Ck g p ((E, ⟨[], z ++ [1, 1, 1]⟩) :: [(f.code.length + 2, ⟨[], z ++ [2, 2, 2]⟩)]) 128 (f.code.length + 5) [((6 : Int), ((al + 3 : Nat) : Int))] ⟨[false], z ++ [2, 2, 2]⟩ ⟨[], z ++ [2, 2, 2] ++ [0]⟩ :=
        ck_set (st := []) (by omega) (by omega) (none_at (by simp; omega)) (by simp) hy3 (le_app _ _ _ (by decide))
      have q5 := (b5 E ((E, ⟨[], z ++ [1, 1, 1]⟩) :: [(f.code.length + 2, ⟨[], z ++ [2, 2, 2]⟩)]) (fun _ => ⟨hE6, List.mem_cons_self⟩)).up (a' := L.length) (s9.stp.trans (s10.stp.trans (s11.stp.trans (s12.stp.trans s13.stp)))) (by omega) (by omega) g p hF hC
      have e6 : (A ++ [((22 : Int), (65535 : Int))] ++ [((5 : Int), (al : Int))] ++ [((6 : Int), ((al + 3 : Nat) : Int))]).length = f.code.length + 6 := by simp [hAl]
      rw [e6] at q5
      have q6 := d6 (z ++ [2, 2, 2] ++ [0]) ((E, ⟨[], z ++ [1, 1, 1]⟩) :: [(f.code.length + 2, ⟨[], z ++ [2, 2, 2]⟩)]) g p (by rw [hfl9]; simp; omega) (hF.mono (s10.stp.fx.trans (s11.stp.fx.trans (s12.stp.fx.trans s13.stp.fx))))
      rw [show f9.code.length = f.code.length + 6 + (fill E cb).length from by rw [hcode9]; simp [fill_len, hAl]; omega, take_z (by simp; omega)] at q6
      have r1 : ∀ o, Ck g p ((E, ⟨[], z ++ [1, 1, 1]⟩) :: [(f.code.length + 2, ⟨[], z ++ [2, 2, 2]⟩)]) 128 o [((5 : Int), (al : Int))] ⟨[], z ++ [2, 2, 2]⟩ ⟨[true], z ++ [2, 2, 2]⟩ := fun o =>
        Ck.one (bB (by simp) hy3) (by dsimp only; omega) fun T hT he hL hn => .getL (b := true) hT (by dsimp only; omega) (fun _ => y0) ⟨by omega, he⟩
      have r2 : ∀ o, Ck g p ((E, ⟨[], z ++ [1, 1, 1]⟩) :: [(f.code.length + 2, ⟨[], z ++ [2, 2, 2]⟩)]) 128 o [((5 : Int), ((al + 2 : Nat) : Int))] ⟨[true], z ++ [2, 2, 2]⟩ ⟨[true, true], z ++ [2, 2, 2]⟩ := fun o =>
        Ck.one (bB (by simp) hy3) (by dsimp only; omega) fun T hT he hL hn => .getL (b := true) (st := [true]) hT (by dsimp only; omega) (fun _ => y2) ⟨by omega, he⟩
      have r3 : ∀ o, Ck g p ((E, ⟨[], z ++ [1, 1, 1]⟩) :: [(f.code.length + 2, ⟨[], z ++ [2, 2, 2]⟩)]) 128 o [((15 : Int), (1 : Int))] ⟨[true, true], z ++ [2, 2, 2]⟩ ⟨[true], z ++ [2, 2, 2]⟩ := fun o =>
        Ck.one (bB (by simp) hy3) (by dsimp only; omega) fun T hT he hL hn => .arith (st := []) (a := true) (b := true) hT (by dsimp only; omega) ⟨by omega, he⟩
      have r4 : ∀ o, Ck g p ((E, ⟨[], z ++ [1, 1, 1]⟩) :: [(f.code.length + 2, ⟨[], z ++ [2, 2, 2]⟩)]) 128 o [((6 : Int), (al : Int))] ⟨[true], z ++ [2, 2, 2]⟩ ⟨[], z ++ [2, 2, 2]⟩ := fun o =>
        Ck.one (bB (by simp) hy3) (by dsimp only; omega) fun T hT he hL hn => .setL (st := []) (b := true) hT (by dsimp only; omega) (fun _ => rfl) ⟨by omega, he⟩
      have r5 : ∀ o, Ck g p ((E, ⟨[], z ++ [1, 1, 1]⟩) :: [(f.code.length + 2, ⟨[], z ++ [2, 2, 2]⟩)]) 128 o [((21 : Int), ((f.code.length + 2 : Nat) : Int))] ⟨[], z ++ [2, 2, 2]⟩ ⟨[], z ++ [1, 1, 1]⟩ := fun o =>
        ck_jmp (by omega) hy3 (List.mem_cons_of_mem _ List.mem_cons_self) (Ty.le_refl _)
      have r : ∀ o, Ck g p ((E, ⟨[], z ++ [1, 1, 1]⟩) :: [(f.code.length + 2, ⟨[], z ++ [2, 2, 2]⟩)]) 128 o F5 ⟨[], z ++ [2, 2, 2]⟩ ⟨[], z ++ [1, 1, 1]⟩ := fun o => by
        rw [hF5]
        exact (r1 o).app (l2 := [(5, ((al + 2 : Nat) : Int)), (15, 1), (6, (al : Int)), (21, ((f.code.length + 2 : Nat) : Int))]) ((r2 _).app (l2 := [(15, 1), (6, (al : Int)), (21, ((f.code.length + 2 : Nat) : Int))]) ((r3 _).app (l2 := [(6, (al : Int)), (21, ((f.code.length + 2 : Nat) : Int))]) ((r4 _).app (r5 _))))
      have q : Ck g p ((E, ⟨[], z ++ [1, 1, 1]⟩) :: [(f.code.length + 2, ⟨[], z ++ [2, 2, 2]⟩)]) 128 (f.code.length + 2) [((31 : Int), (al : Int)), (22, (E : Int)), (5, (al : Int)), (6, ((al + 3 : Nat) : Int))] ⟨[], z ++ [2, 2, 2]⟩ ⟨[], z ++ [2, 2, 2] ++ [0]⟩ :=
        q1.app (l2 := [(22, (E : Int)), (5, (al : Int)), (6, ((al + 3 : Nat) : Int))]) (q2.app (l2 := [(5, (al : Int)), (6, ((al + 3 : Nat) : Int))]) (q3.app q4))
      exact q.app (q5.app (q6.app (r _)))
    have P4 := x6 (z ++ [1, 1, 1]) [] g p (by rw [hfl13]; simp; omega) hF
    rw [take_z hzl] at P4
    refine Ck.app (t1 := ⟨[], z ++ [2, 2, 2]⟩) ((P1 []).app (l2 := [(30, (al : Int))]) (P2 [])) (P3.app ?_)
    rw [show (A ++ [((22 : Int), (E : Int)), ((5 : Int), (al : Int)), ((6 : Int), ((al + 3 : Nat) : Int))] ++ (fill E cb ++ (cl1 ++ F5))).length = f.code.length + [((6 : Int), ((al + 2 : Nat) : Int)), (30, (al : Int))].length + ([((31 : Int), (al : Int)), (22, (E : Int)), (5, (al : Int)), (6, ((al + 3 : Nat) : Int))] ++ (fill E cb ++ (cl1 ++ F5))).length from by simp [fill_len, hAl, hF5l]; omega] at P4
    exact P4
  · have hkl := s1.stp.kl.1
    have F13 := hF.back s13.stp s12.inv.at_ s13.inv.at_ hkl
    have F12 := F13.back s12.stp s11.inv.at_ s12.inv.at_ hkl
    have F11 := F12.back s11.stp s10.inv.at_ s11.inv.at_ hkl
    have F10 := F11.back s10.stp s9.inv.at_ s10.inv.at_ hkl
    have F9 := F10.back s9.stp s8.inv.at_ s9.inv.at_ hkl
    have hln : L.length ≤ L8.length := (s1.stp.trans (s2.stp.trans (s3.stp.trans (s4s.trans (s5.stp.trans (s6.stp.trans s7.stp)))))).ln
    have hEs8 := (s1.stp.trans (s2.stp.trans (s3.stp.trans (s4s.trans (s5.stp.trans (s6.stp.trans s7.stp)))))).sco hEs
    have e6 : (A ++ [((22 : Int), (65535 : Int))] ++ [((5 : Int), (al : Int))] ++ [((6 : Int), ((al + 3 : Nat) : Int))]).length = f.code.length + 6 := by simp [hAl]
    have lb := hL.right.left.right.left
    have l1 := hL.right.left.right.right.left
    have l5 := hL.right.left.right.right.right
    have l2 := hL.right.right
    have l0' := hL.left
    have l4 := hL.right.left.left
    have t2 := b6 P Es E (some (al, E)) (F9.lo hln) hEs8 (fun _ => ⟨f.loops, al, [], rfl, rfl⟩) (lb.atE (by dsimp only; rw [e6]; simp))
    dsimp only at t2
    rw [e6, hloc8] at t2
    have hl9 : f9.code.length = f.code.length + 6 + cb.length := by rw [hcode9]; simp [fill_len, hAl]; omega
    have t3 := d7 P (l1.atE (by rw [hl9, fill_len]; simp))
    unfold levS at t3
    rw [if_pos (by omega)] at t3
    obtain ⟨t3, t4⟩ := t3
    have hcl1 : cl1.length = 1 := by omega
    have t5 := x7 P (l2.atE (by simp [fill_len, hAl, hF5l]; omega))
    unfold levS at t5
    rw [if_pos (by omega)] at t5
    obtain ⟨t5, t6⟩ := t5
    have hpre : (A ++ [((22 : Int), (E : Int)), ((5 : Int), (al : Int)), ((6 : Int), ((al + 3 : Nat) : Int))] ++ (fill E cb ++ (cl1 ++ F5))).length = E := by rw [← hE]; simp [fill_len, hAl, hF5l]; omega
    rw [hpre] at t5 t6
    have hcl2 : cl2.length = 1 := by omega
    refine t2.of fun m h => ?_
    have hl4 : l0 ++ List.replicate 3 [] ++ [d.s] = l0 ++ [[], [], [], d.s] := by simp
    rw [hl4] at h
    unfold roundS
    rw [hal]
    have ef : ∀ j (i : In), F5[j]? = some i → insP P k (f.code.length + 6 + cb.length + 1 + j) = some i := fun j i hj => l5.ins hj (by simp [fill_len, hcl1])
    rw [hF5] at ef
    rw [hl9] at t3
    refine ⟨f.code.length + 6 + cb.length, E, l0'.ins (j := 0) rfl rfl, l0'.ins (j := 1) rfl rfl, l4.ins (j := 0) rfl rfl, l4.ins (j := 1) rfl rfl, l4.ins (j := 2) rfl rfl, l4.ins (j := 3) rfl rfl, h, t3, ef 0 _ rfl, ef 1 _ rfl, ef 2 _ rfl, ef 3 _ rfl, ef 4 _ rfl, by omega, t5, ?_⟩
    rw [← hE]
    simp [fill_len, hF5l, hcl1, hcl2]
    omega
end
end Go.Wl
