/- Plain: the machine's functions do not look at the fuel. -/
import Derived.Test.Qxb6500573aGreatDoorEA
namespace Go.Wl
open Go Go.Sl Go.Proofs
set_option linter.unusedVariables false
section
variable {α β : Type} {fl : Bool} {th : Nat}
/-- A change that the fuel has no part in. -/
structure Upd1 (fl : Bool) (th : Nat) (U : VM → VM) : Prop where
  b : ∀ m, U (bump m) = bump (U m)
  mo : ∀ m, Mo fl th m (U m)
theorem N1.upd {U : VM → VM} (h : Upd1 fl th U) : N1 fl th (fun m => some (U m)) := fun m _ => ⟨by (try dsimp only); rw [h.b]; rfl, fun m' q => by injection q with q; subst q; exact h.mo m⟩
theorem N2.upd {U : VM → VM} (h : Upd1 fl th U) (a : VM → α) (ha : ∀ m, a (bump m) = a m) : N2 fl th (fun m => some (a m, U m)) := fun m _ => ⟨by (try dsimp only); rw [h.b, ha]; rfl, fun a m' q => by injection q with q; injection q with q1 q2; subst q2; exact h.mo m⟩
theorem NO.okM {U : VM → VM} (h : Upd1 fl th U) (a : VM → α) (ha : ∀ m, a (bump m) = a m) : NO fl th (fun m => some (.ok (a m) (U m))) := fun m _ => ⟨by (try dsimp only); rw [h.b, ha]; rfl, fun o q => by injection q with q; subst q; exact ⟨h.mo m, fun _ _ q => by cases q⟩⟩
theorem NO.thrM {U : VM → VM} (h : Upd1 fl th U) (v : V) : NO fl th (fun m => (some (.thr v (U m)) : Option (Out α))) := fun m _ => ⟨by (try dsimp only); rw [h.b]; rfl, fun o q => by injection q with q; subst q; exact ⟨h.mo m, fun _ _ q => by cases q⟩⟩
theorem NO.trpM {U : VM → VM} (h : Upd1 fl th U) {e : Int} (he : e ≠ 9) : NO fl th (fun m => (some (.trp e (U m)) : Option (Out α))) := fun m _ => ⟨by (try dsimp only); rw [h.b]; rfl, fun o q => by injection q with q; subst q; exact ⟨h.mo m, fun _ _ q => by injection q with q1 q2; subst q1; exact he⟩⟩
theorem N1.rd2 {γ : Type} {G : VM → Option (β × γ)} {F : β → γ → VM → Option VM} (hG : N0 G) (hF : ∀ a b, N1 fl th (F a b)) : N1 fl th (fun m => Go.Wl.bind2 (G m) fun a b => F a b m) := fun m hm => by
  (try dsimp only)
  rw [hG m]
  cases G m with
  | none => exact ⟨rfl, fun _ h => by cases h⟩
  | some p => exact hF p.1 p.2 m hm
theorem Upd1.setT (t : VM → Th) (ht : ∀ m, t (bump m) = t m) : Upd1 fl th (fun m => setTh m th (t m)) := ⟨fun m => by (try dsimp only); rw [ht]; rfl, fun m => Mo.set _ _ _ _⟩
theorem Upd1.setC (cs : VM → List Ce) (hc : ∀ m, cs (bump m) = cs m) (t : VM → Th) (ht : ∀ m, t (bump m) = t m) : Upd1 fl th (fun m => setTh { m with vs := { m.vs with cells := cs m } } th (t m)) :=
  ⟨fun m => by (try dsimp only); rw [ht, hc]; rfl, fun m => by
    have := Mo.set fl th { m with vs := { m.vs with cells := cs m } } (t m)
    exact ⟨this.fuel, this.out, this.st, this.nw, this.nth⟩⟩
/-- Tables, closures, cells, upvalues. -/
theorem Upd1.vs (f : VS → VS) (hf : ∀ s : VS, (f s).fuel = s.fuel ∧ (f s).threads = s.threads ∧ (f s).out = s.out) (hb : ∀ s : VS, f { s with fuel := s.fuel + 1 } = { f s with fuel := (f s).fuel + 1 }) : Upd1 fl th (fun m => { m with vs := f m.vs }) := by
  refine ⟨fun m => ?_, fun m => ?_⟩
  · unfold bump
    (try dsimp only)
    rw [hb]
  · obtain ⟨h1, h2, h3⟩ := hf m.vs
    refine ⟨h1, ⟨by (try dsimp only); rw [h3]; exact List.prefix_refl _, fun _ => h3⟩, fun u t _ h => ⟨t, by (try dsimp only); rw [h2]; exact h, rfl⟩, fun u t' h hq => ?_, by (try dsimp only); rw [h2]; exact Nat.le_refl _⟩
    (try dsimp only at hq)
    rw [h2] at hq
    exact absurd (List.getElem?_eq_some_iff.1 hq).1 (by omega)
theorem n_push (l : List V) : N1 fl th (pushM th l) := N1.rd (fun _ => rfl) fun t => N1.ite (fun _ => Iff.rfl) (N1.upd (Upd1.setT (fun _ => _) fun _ => rfl)) N1.none
theorem n_pop : N2 fl th (popM th) := N2.rd (fun _ => rfl) fun t => N2.ite (fun _ => Iff.rfl) (N2.rd (N0.const _) fun v => N2.upd (Upd1.setT (fun _ => _) fun _ => rfl) (fun _ => v) fun _ => rfl) N2.none
theorem n_setF (i : Nat) (f : Fr) : N1 fl th (setF th i f) := N1.rd (fun _ => rfl) fun t => N1.ite (fun _ => Iff.rfl) (N1.upd (Upd1.setT (fun _ => _) fun _ => rfl)) N1.none
theorem n_pc (i : Nat) (pc : Int) : N1 fl th (pcM th i pc) := N1.rd (fun _ => rfl) fun f => n_setF i _
theorem n_next (i : Nat) : N1 fl th (nextPc th i) := N1.rd (fun _ => rfl) fun f => N1.ite (fun _ => Iff.rfl) (n_pc i _) N1.none
theorem n_close (at_ : Int) : N1 fl th (closeM th at_) := N1.rd (fun _ => rfl) fun t => N1.ite (fun _ => Iff.rfl) (N1.rd2 (fun _ => rfl) fun o c => N1.upd (Upd1.setC (fun _ => c) (fun _ => rfl) (fun _ => _) fun _ => rfl)) N1.none
theorem n_kill : N1 fl th (killM th) := N1.bind1 (n_close 0) (N1.rd (fun _ => rfl) fun t => N1.upd (Upd1.setT (fun _ => _) fun _ => rfl))
theorem n_setS (i : Nat) (v : V) : N1 fl th (setS th i v) := N1.rd (fun _ => rfl) fun t => N1.ite (fun _ => Iff.rfl) (N1.upd (Upd1.setT (fun _ => _) fun _ => rfl)) N1.none
theorem n_enter (c : Int) (args : List V) (ret : Int) (prot : Bool) : N1 fl th (enterM th c args ret prot) := N1.rd (fun _ => rfl) fun cl => N1.rd (fun _ => rfl) fun p => N1.rd (fun _ => rfl) fun t => N1.ite (fun _ => Iff.rfl) (N1.upd (Upd1.setT (fun _ => _) fun _ => rfl)) N1.none
theorem n_setUp (i : Nat) (x : Int) (v : V) : N1 fl th (setUpM th i x v) := N1.rd2 (fun _ => rfl) fun j e => N1.ite (fun _ => Iff.rfl) (fun m hm => by
    have e0 : ∀ m : VM, (bind1 (getI m.vs.threads e.th) fun t => bind1 (getI t.stack e.at_) fun _ => some (setTh m e.th.toNat { t with stack := t.stack.set e.at_.toNat v })) = (bind1 (getI m.vs.threads e.th) fun t => bind1 (getI t.stack e.at_) fun _ => some (setTh m e.th.toNat { t with stack := t.stack.set e.at_.toNat v })) := fun _ => rfl
    have hb : getI (bump m).vs.threads e.th = getI m.vs.threads e.th := rfl
    (try dsimp only)
    rw [hb]
    cases hq : getI m.vs.threads e.th with
    | none => exact ⟨rfl, fun _ h => by cases h⟩
    | some t =>
      rw [bind1_some, bind1_some]
      cases hs : getI t.stack e.at_ with
      | none => exact ⟨rfl, fun _ h => by cases h⟩
      | some w =>
        refine ⟨rfl, fun m' h => ?_⟩
        have h : some (setTh m e.th.toNat { t with stack := t.stack.set e.at_.toNat v }) = some m' := h
        injection h with h
        subst h
        obtain ⟨_, h2, _, h3, h4⟩ := getI_some hq
        have hat : m.vs.threads[e.th.toNat]? = some t := List.getElem?_eq_some_iff.2 ⟨h3, h4⟩
        refine ⟨rfl, ⟨List.prefix_refl _, fun _ => rfl⟩, fun u t1 hu h => ?_, fun u t' h hh => ?_, by rw [setTh_len]; exact Nat.le_refl _⟩
        · by_cases hue : u = e.th.toNat
          · subst hue
            rw [hat] at h
            injection h with h
            subst h
            exact ⟨_, setTh_at hat, rfl⟩
          · exact ⟨t1, by rw [setTh_ne hue]; exact h, rfl⟩
        · have := (List.getElem?_eq_some_iff.1 hh).1
          rw [setTh_len] at this
          omega) (N1.upd (Upd1.vs (fun s => { s with cells := s.cells.set j.toNat { e with v := v } }) (fun _ => ⟨rfl, rfl, rfl⟩) fun _ => rfl))
theorem n_capNew (at_ : Int) (i : Nat) (t : Th) : N2 fl th (capNew th at_ i t) := N2.ite (fun _ => Iff.rfl) (N2.upd (Upd1.setC (fun m => m.vs.cells ++ [⟨th, at_, V.nil⟩]) (fun _ => rfl) (fun m => { t with opn := t.opn.take i ++ [(m.vs.cells.length : Int)] ++ t.opn.drop i }) fun _ => rfl) (fun m => (m.vs.cells.length : Int)) fun _ => rfl) N2.none
theorem n_capture (at_ : Int) : N2 fl th (captureM th at_) := N2.rd (fun _ => rfl) fun t => N2.ite (fun _ => Iff.rfl) (N2.rd (fun _ => rfl) fun i => by
    cases i with
    | zero => exact n_capNew at_ 0 t
    | succ n => exact N2.rd (N0.const _) fun j => N2.rd (fun _ => rfl) fun e => N2.ite (fun _ => Iff.rfl) (N2.ret (fun _ => j) fun _ => rfl) (n_capNew at_ (n + 1) t)) N2.none
theorem n_ups (i : Nat) : ∀ ds : List (Int × Int), N1 fl th (upsM th i ds)
  | [] => N1.some_
  | d :: l => N1.rd (fun _ => rfl) fun f => N1.ite (fun _ => Iff.rfl)
      (N1.ite (fun _ => Iff.rfl) (N1.bind2 (n_capture _) fun c => N1.ite (fun _ => Iff.rfl) (N1.bind1 (N1.upd (Upd1.vs (fun s => { s with upix := s.upix ++ [c] }) (fun _ => ⟨rfl, rfl, rfl⟩) fun _ => rfl)) (n_ups i l)) N1.none) N1.none)
      (N1.rd (fun _ => rfl) fun c => N1.ite (fun _ => Iff.rfl) (N1.rd (fun _ => rfl) fun u => N1.ite (fun _ => Iff.rfl) (N1.bind1 (N1.upd (Upd1.vs (fun s => { s with upix := s.upix ++ [u] }) (fun _ => ⟨rfl, rfl, rfl⟩) fun _ => rfl)) (n_ups i l)) N1.none) N1.none)
theorem n_closure (i : Nat) (x : Int) : NO fl th (closureM th i x) := NO.ite (fun _ => Iff.rfl) (NO.trp (by decide)) (NO.rd (fun _ => rfl) fun q => NO.rd (fun _ => rfl) fun ds =>
    (NO.rd (G := fun m => some (m.vs.upix.length : Int)) (fun _ => rfl) fun L => NO.bind1 (n_ups i ds) (NO.ite (c := fun m' => m'.vs.clos.length < 1000000) (fun _ => Iff.rfl) (NO.okM (Upd1.vs (fun s => { s with clos := s.clos ++ [⟨x, L, q.nup⟩] }) (fun _ => ⟨rfl, rfl, rfl⟩) fun _ => rfl) (fun m => (m.vs.clos.length : Int)) fun _ => rfl) NO.none) :))
theorem n_store (h : Int) (k v : V) : NO fl th (storeM h k v) := NO.ite (fun _ => Iff.rfl) (NO.rd2 (fun _ => rfl) fun ts e => NO.ite (fun _ => Iff.rfl) (NO.trpM (Upd1.vs (fun s => { s with tabs := ts }) (fun _ => ⟨rfl, rfl, rfl⟩) fun _ => rfl) (by decide)) (NO.ite (fun _ => Iff.rfl) (NO.thrM (Upd1.vs (fun s => { s with tabs := ts }) (fun _ => ⟨rfl, rfl, rfl⟩) fun _ => rfl) _) (NO.okM (Upd1.vs (fun s => { s with tabs := ts }) (fun _ => ⟨rfl, rfl, rfl⟩) fun _ => rfl) (fun _ => ()) fun _ => rfl))) NO.none
theorem n_numOf (v : V) (msg : List UInt8) : NO fl th (fun m => some (numOfM v msg m)) := by
  unfold numOfM
  by_cases h : v.t ≠ 2
  · simp only [if_pos h]; exact NO.thr (fun _ => _) fun _ => rfl
  · simp only [if_neg h]; exact NO.ok (fun _ => _) fun _ => rfl
theorem n_tabOf (v : V) (msg : List UInt8) : NO fl th (fun m => some (tabOfM v msg m)) := by
  unfold tabOfM
  by_cases h : v.t ≠ 4
  · simp only [if_pos h]; exact NO.thr (fun _ => _) fun _ => rfl
  · simp only [if_neg h]; exact NO.ok (fun _ => _) fun _ => rfl
theorem n_compare (op : Int) (a b : V) : NO fl th (compareM op a b) :=
  NO.ite (fun _ => Iff.rfl) (NO.ite (fun _ => Iff.rfl) (NO.ok (fun _ => _) fun _ => rfl) NO.none) (NO.ite (fun _ => Iff.rfl) (NO.ok (fun _ => _) fun _ => rfl) (NO.ite (fun _ => Iff.rfl) (NO.ok (fun _ => _) fun _ => rfl) (NO.ite (fun _ => Iff.rfl) (NO.thr (fun _ => _) fun _ => rfl)
    (NO.ite (fun _ => Iff.rfl) (NO.ok (fun _ => _) fun _ => rfl) (NO.ite (fun _ => Iff.rfl) (NO.ok (fun _ => _) fun _ => rfl) (NO.ite (fun _ => Iff.rfl) (NO.ok (fun _ => _) fun _ => rfl) (NO.ok (fun _ => _) fun _ => rfl)))))))
theorem n_fChk (a : Nat) : NO fl th (fChk th a) := NO.rd (fun _ => rfl) fun v0 => NO.ite (fun _ => Iff.rfl) (NO.thr (fun _ => _) fun _ => rfl) (NO.rd (fun _ => rfl) fun v1 => NO.ite (fun _ => Iff.rfl) (NO.thr (fun _ => _) fun _ => rfl) (NO.rd (fun _ => rfl) fun v2 => NO.ite (fun _ => Iff.rfl) (NO.thr (fun _ => _) fun _ => rfl) (NO.ite (fun _ => Iff.rfl) (by
    cases cmpM 1 v2.n.toNat 0 <;> cases cmpM 2 v2.n.toNat v2.n.toNat
    · exact NO.ok (fun _ => _) fun _ => rfl
    · exact NO.thr (fun _ => _) fun _ => rfl
    · exact NO.thr (fun _ => _) fun _ => rfl
    · exact NO.thr (fun _ => _) fun _ => rfl) NO.none)))
theorem n_fTest (a : Nat) : NO fl th (fTest th a) := NO.rd (fun _ => rfl) fun v0 => NO.rd (fun _ => rfl) fun v1 => NO.rd (fun _ => rfl) fun v2 => NO.ite (fun _ => Iff.rfl) (NO.okU (n_push _) ()) NO.none
theorem n_fNext (a : Nat) : NO fl th (fNext th a) := NO.rd (fun _ => rfl) fun v0 => NO.bind (n_tabOf v0 _) fun h => NO.rd (fun _ => rfl) fun v1 => NO.ite (fun _ => Iff.rfl) (NO.rd (fun _ => rfl) fun r => NO.ite (fun _ => Iff.rfl) (NO.thr (fun _ => _) fun _ => rfl) (NO.bind1 (n_setS _ _) (NO.bind1 (n_setS _ _) (NO.bind1 (n_setS _ _) (NO.okU (n_push _) ()))))) NO.none
theorem n_for (a : Nat) (op : Int) : NO fl th (forV th a op) := NO.ite (fun _ => Iff.rfl) (n_fChk a) (NO.ite (fun _ => Iff.rfl) (n_fTest a) (NO.ite (fun _ => Iff.rfl) (n_fNext a) (NO.ok (fun _ => _) fun _ => rfl)))
theorem n_arith (x : Int) (w : V) : NO fl th (opArith th x w) := NO.bind2 n_pop fun v => NO.bind (n_numOf v _) fun an => NO.bind (n_numOf w _) fun bn => NO.ite (fun _ => Iff.rfl) (NO.okU (n_push _) ()) NO.none
theorem n_cmp (x : Int) (w : V) : NO fl th (opCmp th x w) := NO.bind2 n_pop fun v => NO.bind (n_compare x v w) fun c => NO.okU (n_push _) ()
theorem n_cat (w : V) : NO fl th (opCat th w) := NO.bind2 n_pop fun v => NO.ite (fun _ => Iff.rfl) (NO.thr (fun _ => _) fun _ => rfl) (NO.ite (fun _ => Iff.rfl) (NO.thr (fun _ => _) fun _ => rfl) (NO.rd (N0.const _) fun l => NO.rd (N0.const _) fun r => NO.ite (fun _ => Iff.rfl) (NO.ite (fun _ => Iff.rfl) (NO.thr (fun _ => _) fun _ => rfl) (NO.okU (n_push _) ())) NO.none))
theorem n_neg (w : V) : NO fl th (opNeg th w) := NO.bind (n_numOf w _) fun bn => NO.ite (fun _ => Iff.rfl) (NO.okU (n_push _) ()) NO.none
theorem n_len (w : V) : NO fl th (opLen th w) := NO.ite (fun _ => Iff.rfl) (NO.bind (n_tabOf w _) fun h => NO.ite (fun _ => Iff.rfl) (NO.rd2 (fun _ => rfl) fun l e => NO.okU (n_push _) ()) NO.none) (NO.okU (n_push _) ())
theorem n_oper (op x : Int) : NO fl th (operM th op x) := NO.bind2 n_pop fun w => NO.ite (fun _ => Iff.rfl) (n_arith x w) (NO.ite (fun _ => Iff.rfl) (n_cmp x w) (NO.ite (fun _ => Iff.rfl) (n_cat w) (NO.ite (fun _ => Iff.rfl) (NO.okU (n_push _) ()) (NO.ite (fun _ => Iff.rfl) (n_neg w) (NO.ite (fun _ => Iff.rfl) (n_len w) (NO.okU (n_push _) ()))))))
theorem n_plain (i : Nat) (p : Pr) (op x : Int) : NO fl th (plainM th i p op x) := NO.rd (fun _ => rfl) fun f => NO.rd (fun _ => rfl) fun t => NO.ite (fun _ => Iff.rfl)
    (NO.ite (fun _ => Iff.rfl) (NO.rd (fun _ => rfl) fun v => NO.okU (n_push _) ())
    (NO.ite (fun _ => Iff.rfl) (NO.okU (n_push _) ()) (NO.ite (fun _ => Iff.rfl) (NO.okU (n_push _) ()) (NO.ite (fun _ => Iff.rfl) (NO.okU (n_push _) ())
    (NO.ite (fun _ => Iff.rfl) (NO.ite (fun _ => Iff.rfl) (NO.rd (fun _ => rfl) fun v => NO.okU (n_push _) ()) NO.none)
    (NO.ite (fun _ => Iff.rfl) (NO.ite (fun _ => Iff.rfl) (NO.bind2 n_pop fun v => NO.okU (n_setS _ _) ()) NO.none)
    (NO.ite (fun _ => Iff.rfl) (NO.rd (fun _ => rfl) fun v => NO.okU (n_push _) ())
    (NO.ite (fun _ => Iff.rfl) (NO.bind2 n_pop fun v => NO.okU (n_setUp _ _ _) ())
    (NO.ite (fun _ => Iff.rfl) (NO.rd (fun _ => rfl) fun k => NO.rd (fun _ => rfl) fun v => NO.okU (n_push _) ())
    (NO.ite (fun _ => Iff.rfl) (NO.bind2 n_pop fun v => NO.rd (fun _ => rfl) fun k => n_store 0 k v)
    (NO.ite (fun _ => Iff.rfl) (NO.bind2 n_pop fun k => NO.bind2 n_pop fun a => NO.bind (n_tabOf a _) fun h => NO.rd (fun _ => rfl) fun v => NO.okU (n_push _) ())
    (NO.ite (fun _ => Iff.rfl) (NO.bind2 n_pop fun v => NO.bind2 n_pop fun k => NO.bind2 n_pop fun a => NO.bind (n_tabOf a _) fun h => n_store h k v)
    (NO.ite (fun _ => Iff.rfl) (NO.bind2 n_pop fun v => NO.rd (fun _ => rfl) fun t => NO.ite (fun _ => Iff.rfl) (NO.rd (N0.const _) fun a => NO.bind (n_tabOf a _) fun h => n_store h _ v) NO.none)
    (NO.ite (fun _ => Iff.rfl) (NO.ite (fun _ => Iff.rfl) (NO.trp (by decide)) (NO.rd (G := fun m => some (m.vs.tabs.length : Int)) (fun _ => rfl) fun L => NO.bind1 (N1.upd (Upd1.vs (fun s => { s with tabs := s.tabs ++ [Tb.empty] }) (fun _ => ⟨rfl, rfl, rfl⟩) fun _ => rfl)) (NO.okU (n_push [⟨4, L, []⟩]) ())))
    (NO.ite (fun _ => Iff.rfl) (NO.bind2 n_pop fun _ => NO.ok (fun _ => _) fun _ => rfl)
    (NO.ite (fun _ => Iff.rfl) (NO.bind (n_closure i x) fun c => NO.ite (fun _ => Iff.rfl) (NO.okU (n_push _) ()) NO.none)
    (NO.ite (fun _ => Iff.rfl) (NO.okU (n_close _) ())
    (NO.ite (fun _ => Iff.rfl) (NO.ite (fun _ => Iff.rfl) (n_for _ op) NO.none) (NO.ite (fun _ => Iff.rfl) (NO.ite (fun _ => Iff.rfl) (n_for _ op) NO.none) (NO.ite (fun _ => Iff.rfl) (NO.ite (fun _ => Iff.rfl) (n_for _ op) NO.none) (n_oper op x))))))))))))))))))))) NO.none
theorem n_print (a : V) : NO true th (bPrintM a) := NO.rd (N0.const _) fun t => NO.ite (fun _ => Iff.rfl) (NO.ite (fun _ => Iff.rfl) (NO.trp (by decide)) (NO.okM (U := fun m => { m with vs := { m.vs with out := m.vs.out ++ t ++ [10] } }) ⟨fun _ => rfl, fun m => ⟨rfl, ⟨by (try dsimp only); rw [List.append_assoc]; exact List.prefix_append _ _, fun q => by cases q⟩, fun u t' _ h => ⟨t', h, rfl⟩, fun u t' h h2 => absurd (List.getElem?_eq_some_iff.1 h2).1 (by (try dsimp only); omega), Nat.le_refl _⟩⟩ (fun _ => (V.nil, V.nil)) fun _ => rfl)) NO.none
theorem n_str (a : V) : NO fl th (bStrM a) := NO.rd (N0.const _) fun t => NO.ok (fun _ => _) fun _ => rfl
theorem n_num (a : V) : NO fl th (bNumM a) := NO.ite (fun _ => Iff.rfl) (NO.ok (fun _ => _) fun _ => rfl) (NO.ite (fun _ => Iff.rfl) (NO.ite (fun _ => Iff.rfl) (NO.rd2 (N0.const _) fun f e => NO.ite (fun _ => Iff.rfl) (NO.ok (fun _ => _) fun _ => rfl) (NO.ok (fun _ => _) fun _ => rfl)) NO.none) (NO.ok (fun _ => _) fun _ => rfl))
theorem n_bnext (a k : V) : NO fl th (bNextM a k) := NO.bind (n_tabOf a _) fun h => NO.ite (fun _ => Iff.rfl) (NO.rd (fun _ => rfl) fun r => NO.ite (fun _ => Iff.rfl) (NO.thr (fun _ => _) fun _ => rfl) (NO.ok (fun _ => _) fun _ => rfl)) NO.none
theorem n_spawn (fn : Int) : N2 fl th (spawnM fn) := N2.ite (fun _ => Iff.rfl) (N2.upd (U := fun m => { m with vs := { m.vs with threads := m.vs.threads ++ [thNew fn] } }) ⟨fun _ => rfl, fun m => ⟨rfl, ⟨List.prefix_refl _, fun _ => rfl⟩, fun u t' _ h => ⟨t', by (try dsimp only); rw [List.getElem?_append_left (List.getElem?_eq_some_iff.1 h).1]; exact h, rfl⟩, fun u t' h h2 => (by
    (try dsimp only at h2)
    have := (List.getElem?_eq_some_iff.1 h2).1
    rw [List.length_append, List.length_singleton] at this
    rw [List.getElem?_append_right h, show u - m.vs.threads.length = 0 from by omega] at h2
    injection h2 with h2
    subst h2
    rfl), (by show _ ≤ (m.vs.threads ++ [thNew fn]).length; simp)⟩⟩ (fun m => (m.vs.threads.length : Int)) fun _ => rfl) N2.none
theorem n_create (a : V) : NO fl th (bCreateM a) := NO.ite (fun _ => Iff.rfl) (NO.thr (fun _ => _) fun _ => rfl) (NO.ite (fun _ => Iff.rfl) (NO.trp (by decide)) (NO.ite (fun _ => Iff.rfl) (NO.bind2 (n_spawn _) fun r => NO.ok (fun _ => _) fun _ => rfl) NO.none))
theorem n_status (a : V) : NO fl th (bStatusM a) := NO.ite (fun _ => Iff.rfl) (NO.thr (fun _ => _) fun _ => rfl) (NO.rd (fun _ => rfl) fun t => NO.ok (fun _ => _) fun _ => rfl)
theorem n_fin (at_ : Nat) (p : V × V) : NO fl th (finM th at_ p) := NO.rd (fun _ => rfl) fun t => NO.ite (fun _ => Iff.rfl) (NO.bind1 (N1.bind1 (N1.upd (Upd1.setT (fun _ => { t with stack := t.stack.take at_ }) fun _ => rfl)) (n_push [p.1, p.2])) (NO.ok (fun _ => _) fun _ => rfl)) NO.none
theorem n_callB (at_ : Nat) (k : Int) (a b : V) : NO true th (callB th at_ k a b) := NO.ite (fun _ => Iff.rfl) (NO.rd (fun _ => rfl) fun t => NO.ite (fun _ => Iff.rfl) (NO.ite (fun _ => Iff.rfl) (NO.ite (fun _ => Iff.rfl) (NO.outE (n_enter _ _ _ _)) NO.none) (n_fin _ _)) (n_fin _ _))
    (NO.ite (fun _ => Iff.rfl) (NO.ite (fun _ => Iff.rfl) (NO.thr (fun _ => _) fun _ => rfl) (NO.rd (fun _ => rfl) fun u => NO.ite (fun _ => Iff.rfl) (NO.rd (fun _ => rfl) fun t => NO.ite (fun _ => Iff.rfl) (NO.okM (Upd1.setT (fun _ => _) fun _ => rfl) (fun _ => _) fun _ => rfl) NO.none) (n_fin _ _)))
    (NO.ite (fun _ => Iff.rfl) (NO.ite (fun _ => Iff.rfl) (NO.thr (fun _ => _) fun _ => rfl) (NO.rd (fun _ => rfl) fun t => NO.ite (fun _ => Iff.rfl) (NO.okM (Upd1.setT (fun _ => _) fun _ => rfl) (fun _ => _) fun _ => rfl) NO.none))
    (NO.ite (fun _ => Iff.rfl) (NO.bind (n_print a) (n_fin at_)) (NO.ite (fun _ => Iff.rfl) (NO.bind (n_str a) (n_fin at_)) (NO.ite (fun _ => Iff.rfl) (NO.bind (n_num a) (n_fin at_)) (NO.ite (fun _ => Iff.rfl) (NO.bind (NO.ok (fun _ => _) fun _ => rfl) (n_fin at_)) (NO.ite (fun _ => Iff.rfl) (NO.bind (NO.thr (fun _ => _) fun _ => rfl) (n_fin at_))
    (NO.ite (fun _ => Iff.rfl) (NO.bind (n_bnext a b) (n_fin at_)) (NO.ite (fun _ => Iff.rfl) (NO.bind (n_create a) (n_fin at_)) (NO.ite (fun _ => Iff.rfl) (NO.bind (n_status a) (n_fin at_)) (NO.thr (fun _ => _) fun _ => rfl)))))))))))
theorem n_callF (at_ : Nat) (f : V) (args : List V) : NO true th (callF th at_ f args) := NO.ite (fun _ => Iff.rfl) (NO.rd (fun _ => rfl) fun t => NO.ite (fun _ => Iff.rfl) (NO.thr (fun _ => _) fun _ => rfl) (NO.ite (fun _ => Iff.rfl) (NO.outE (n_enter _ _ _ _)) NO.none)) (NO.ite (fun _ => Iff.rfl) (NO.thr (fun _ => _) fun _ => rfl) (n_callB at_ _ _ _))
end
end Go.Wl
