/- Plain: the interpreter and the machine: variables' ends. -/
import Derived.Test.Qxb6500573aGreatDoorSK
namespace Go.Wl
open Go Go.Sl Go.Proofs
set_option linter.unusedVariables false
/-- Closing, exactly. -/
theorem closeL_x {u : Nat} {at_ : Int} {stack : List V} (hsl : stack.length < 1000000000) : ∀ (n : Nat) (o : List Int) (c : List Ce), o.length = n → (∀ j, j ∈ o → ∃ e, getI c j = some e ∧ e.th = (u : Int) ∧ 0 ≤ e.at_ ∧ e.at_ < stack.length) → (o.Pairwise fun i j => ∀ a b, getI c i = some a → getI c j = some b → a.at_ < b.at_) →
    ∃ k c', closeL at_ stack n o c = some (o.take k, c') ∧ c'.length = c.length ∧ ∀ (j : Nat) (e : Ce), c[j]? = some e → ((j : Int) ∈ o ∧ at_ ≤ e.at_ → ∃ v, stack[e.at_.toNat]? = some v ∧ c'[j]? = some ⟨-1, 0, v⟩) ∧ (¬ ((j : Int) ∈ o ∧ at_ ≤ e.at_) → c'[j]? = some e)
  | 0, o, c, hn, ha, hp => by
    have e0 := List.length_eq_zero_iff.1 hn
    subst e0
    exact ⟨0, c, rfl, rfl, fun j e he => ⟨fun q => (by cases q.1), fun _ => he⟩⟩
  | n + 1, o, c, hn, ha, hp => by
    obtain ⟨o1, j, rfl⟩ : ∃ o1 j, o = o1 ++ [j] := ⟨o.dropLast, o.getLast (fun h => by rw [h] at hn; cases hn), (List.dropLast_concat_getLast _).symm⟩
    have hn1 : o1.length = n := by simpa using hn
    obtain ⟨e, he, hth, h0, h1⟩ := ha j (by simp)
    obtain ⟨j0, jl, je⟩ := getI_lt' he
    rw [List.pairwise_append] at hp
    obtain ⟨hp1, _, hp2⟩ := hp
    have hlt : ∀ i a, i ∈ o1 → getI c i = some a → a.at_ < e.at_ := fun i a hi hia => hp2 i hi j (by simp) a e hia he
    have hne : ∀ i, i ∈ o1 → i ≠ j := fun i hi q => by
      subst q
      have := hlt _ e hi he
      omega
    have hget : ∀ (i : Nat) (a : Ce), (i : Int) ∈ o1 ++ [j] → c[i]? = some a → getI c (i : Int) = some a := fun i a hi hia => by
      obtain ⟨a', q1, _⟩ := ha _ hi
      have q2 := (getI_lt' q1).2.2
      rw [Int.toNat_natCast, hia] at q2
      have q3 : a = a' := Option.some.inj q2
      rw [q3]
      exact q1
    unfold closeL
    rw [List.getElem?_append_right (by omega), hn1, Nat.sub_self]
    show ∃ k c', bind1 (some j) _ = _ ∧ _
    rw [bind1_some, he, bind1_some]
    by_cases hat : e.at_ < at_
    · rw [if_pos hat]
      refine ⟨n + 1, c, by rw [List.take_of_length_le (by omega)], rfl, fun i a hia => ⟨fun q => ?_, fun _ => hia⟩⟩
      have hg := hget i a q.1 hia
      rcases List.mem_append.1 q.1 with hi | hi
      · have := hlt i a hi hg; omega
      · rw [List.mem_singleton] at hi
        rw [hi, he] at hg
        injection hg with hg
        rw [← hg] at q
        omega
    · rw [if_neg hat]
      have hv : getI stack e.at_ = some stack[e.at_.toNat] := getI_mk (by omega) (List.getElem?_eq_getElem (by omega))
      rw [hv, bind1_some, List.take_left' hn1]
      have hsame : ∀ i, i ∈ o1 → getI (c.set j.toNat ⟨-1, 0, stack[e.at_.toNat]⟩) i = getI c i := fun i hi => by
        obtain ⟨a, ha1, _⟩ := ha i (by simp [hi])
        obtain ⟨i0, _, _⟩ := getI_lt' ha1
        have := hne i hi
        exact getI_congr fun _ => by rw [List.getElem?_set_ne (by omega)]
      obtain ⟨k, c', g2, g3, g4⟩ := closeL_x hsl n o1 (c.set j.toNat ⟨-1, 0, stack[e.at_.toNat]⟩) hn1 (fun i hi => by rw [hsame i hi]; exact ha i (by simp [hi])) (hp1.imp_of_mem fun {a b} ha' hb' hab x y hx hy => by
        rw [hsame a ha'] at hx
        rw [hsame b hb'] at hy
        exact hab x y hx hy)
      by_cases hkk : k ≤ o1.length
      · refine ⟨k, c', by rw [g2, List.take_append_of_le_length hkk], by rw [g3]; simp, fun i a hia => ?_⟩
        by_cases hij : (i : Int) = j
        · have hi2 : i = j.toNat := by omega
          subst hi2
          rw [je] at hia
          injection hia with hia
          subst hia
          have hno : ¬ (((j.toNat : Nat) : Int) ∈ o1 ∧ at_ ≤ ((⟨-1, 0, stack[e.at_.toNat]⟩ : Ce)).at_) := fun q => hne _ q.1 hij
          have := (g4 j.toNat ⟨-1, 0, stack[e.at_.toNat]⟩ (List.getElem?_set_self (by omega))).2 hno
          exact ⟨fun _ => ⟨stack[e.at_.toNat], List.getElem?_eq_getElem (by omega), this⟩, fun q => absurd ⟨by rw [hij]; simp, by omega⟩ q⟩
        · have hi2 : j.toNat ≠ i := by omega
          obtain ⟨w1, w2⟩ := g4 i a (by rw [List.getElem?_set_ne hi2]; exact hia)
          refine ⟨fun q => w1 ⟨?_, q.2⟩, fun q => w2 fun w => q ⟨List.mem_append_left _ w.1, w.2⟩⟩
          rcases List.mem_append.1 q.1 with hi | hi
          · exact hi
          · rw [List.mem_singleton] at hi; exact absurd hi hij
      · refine ⟨o1.length, c', by rw [g2, List.take_of_length_le (by omega), List.take_left], by rw [g3]; simp, fun i a hia => ?_⟩
        by_cases hij : (i : Int) = j
        · have hi2 : i = j.toNat := by omega
          subst hi2
          rw [je] at hia
          injection hia with hia
          subst hia
          have hno : ¬ (((j.toNat : Nat) : Int) ∈ o1 ∧ at_ ≤ ((⟨-1, 0, stack[e.at_.toNat]⟩ : Ce)).at_) := fun q => hne _ q.1 hij
          have := (g4 j.toNat ⟨-1, 0, stack[e.at_.toNat]⟩ (List.getElem?_set_self (by omega))).2 hno
          exact ⟨fun _ => ⟨stack[e.at_.toNat], List.getElem?_eq_getElem (by omega), this⟩, fun q => absurd ⟨by rw [hij]; simp, by omega⟩ q⟩
        · have hi2 : j.toNat ≠ i := by omega
          obtain ⟨w1, w2⟩ := g4 i a (by rw [List.getElem?_set_ne hi2]; exact hia)
          refine ⟨fun q => w1 ⟨?_, q.2⟩, fun q => w2 fun w => q ⟨List.mem_append_left _ w.1, w.2⟩⟩
          rcases List.mem_append.1 q.1 with hi | hi
          · exact hi
          · rw [List.mem_singleton] at hi; exact absurd hi hij
/-- What closing does to the cells. -/
structure Clsd (m : VM) (th : Nat) (t : Th) (at_ : Int) (cs : List Ce) : Prop where
  len : cs.length = m.vs.cells.length
  cls : ∀ (j : Nat) (e : Ce), m.vs.cells[j]? = some e → (e.th = (th : Int) ∧ at_ ≤ e.at_ → ∃ v, t.stack[e.at_.toNat]? = some v ∧ cs[j]? = some ⟨-1, 0, v⟩) ∧ (¬ (e.th = (th : Int) ∧ at_ ≤ e.at_) → cs[j]? = some e)
  unq : ∀ (j1 j2 : Nat) (e1 e2 : Ce), m.vs.cells[j1]? = some e1 → m.vs.cells[j2]? = some e2 → e1.th = (th : Int) → e2.th = (th : Int) → e1.at_ = e2.at_ → j1 = j2
  nn : ∀ (j : Nat) (e : Ce), m.vs.cells[j]? = some e → e.th = (th : Int) → 0 ≤ e.at_
theorem RunX.closeX {c : Cx} {m : VM} {ty : Ty} {k : Nat} (h : RunX c k m ty) {t : Th} (ht : m.vs.threads[c.th]? = some t) (at_ : Int) : ∃ (o' : List Int) (cs : List Ce), closeM c.th at_ m = some (setTh { m with vs := { m.vs with cells := cs } } c.th { t with opn := o' }) ∧ Clsd m c.th t at_ cs := by
  obtain ⟨t', ht', hR⟩ := h.run
  rw [ht] at ht'
  injection ht' with ht'
  subst ht'
  have hb := h.stkB ht
  obtain ⟨o1, o2, o3⟩ := hR.op
  have hmem : ∀ (j : Nat) (e : Ce), m.vs.cells[j]? = some e → e.th = (c.th : Int) → (j : Int) ∈ t.opn := fun j e he hth => by
    obtain ⟨t1, p1, p2⟩ := (h.mi.ce j e he).1 (by omega)
    rw [hth, Int.toNat_natCast, ht] at p1
    injection p1 with p1
    subst p1
    exact p2
  have hin : ∀ (j : Nat) (e : Ce), m.vs.cells[j]? = some e → (j : Int) ∈ t.opn → e.th = (c.th : Int) ∧ 0 ≤ e.at_ ∧ getI m.vs.cells (j : Int) = some e := fun j e he hj => by
    obtain ⟨e', q1, q2, q3⟩ := o1 _ hj
    have := (getI_lt' q1).2.2
    rw [Int.toNat_natCast, he] at this
    injection this with this
    subst this
    exact ⟨q2, (h.zlt ht q3).1, q1⟩
  obtain ⟨k', cs, g2, g3, g4⟩ := closeL_x (u := c.th) (at_ := at_) (stack := t.stack) (by omega) t.opn.length t.opn m.vs.cells rfl (fun j hj => by
    obtain ⟨e, q1, q2, q3⟩ := o1 j hj
    have := h.zlt ht q3
    exact ⟨e, q1, q2, this.1, this.2⟩) o2
  refine ⟨t.opn.take k', cs, ?_, g3, fun j e he => ⟨fun q => (g4 j e he).1 ⟨hmem j e he q.1, q.2⟩, fun q => (g4 j e he).2 fun w => q ⟨(hin j e he w.1).1, w.2⟩⟩, fun j1 j2 e1 e2 h1 h2 t1 t2 ha => ?_, fun j e he hth => (hin j e he (hmem j e he hth)).2.1⟩
  · unfold closeM getT
    rw [ht, bind1_some, if_pos (by omega), g2, bind2_some]
  · have m1 := hmem j1 e1 h1 t1
    have m2 := hmem j2 e2 h2 t2
    have q1 := (hin j1 e1 h1 m1).2.2
    have q2 := (hin j2 e2 h2 m2).2.2
    obtain ⟨i1, l1, x1⟩ := List.mem_iff_getElem.1 m1
    obtain ⟨i2, l2, x2⟩ := List.mem_iff_getElem.1 m2
    have hp := List.pairwise_iff_getElem.1 o2
    rcases Nat.lt_trichotomy i1 i2 with q | q | q
    · have := hp i1 i2 l1 l2 q e1 e2 (by rw [x1]; exact q1) (by rw [x2]; exact q2); omega
    · subst q
      rw [x1] at x2
      omega
    · have := hp i2 i1 l2 l1 q e2 e1 (by rw [x2]; exact q2) (by rw [x1]; exact q1); omega
end Go.Wl
namespace Go.Sm
open Go Go.Sl Go.Wl Go.Nm Go.Proofs
set_option linter.unusedVariables false
open Classical in
/-- Where the variables are behind the closing of the thread's cells from at_ on. -/
noncomputable def rhoC (ρ : Nat → Option Plc) (m : VM) (th : Nat) (at_ : Int) : Nat → Option Plc := fun i => match ρ i with
  | some (.stk u a) => if u = th ∧ at_ ≤ (a : Int) then (if h : ∃ j : Nat, ∃ e, m.vs.cells[j]? = some e ∧ e.th = (th : Int) ∧ e.at_ = (a : Int) then some (.cel h.choose) else none) else some (.stk u a)
  | x => x
section
variable {ρ : Nat → Option Plc} {m : VM} {th : Nat} {at_ : Int} {t : Th} {cs : List Ce}
theorem rhoC_keep {i : Nat} {u a : Nat} (h : ρ i = some (.stk u a)) (hk : u ≠ th ∨ (a : Int) < at_) : rhoC ρ m th at_ i = some (.stk u a) := by
  unfold rhoC
  rw [h]
  dsimp only
  rw [if_neg (by omega)]
theorem rhoC_cel {i j : Nat} (h : ρ i = some (.cel j)) : rhoC ρ m th at_ i = some (.cel j) := by
  unfold rhoC
  rw [h]
theorem rhoC_none {i : Nat} (h : ρ i = none) : rhoC ρ m th at_ i = none := by
  unfold rhoC
  rw [h]
theorem rhoC_cls (hC : Clsd m th t at_ cs) {i a j : Nat} {e : Ce} (h : ρ i = some (.stk th a)) (ha : at_ ≤ (a : Int)) (he : m.vs.cells[j]? = some e) (h1 : e.th = (th : Int)) (h2 : e.at_ = (a : Int)) : rhoC ρ m th at_ i = some (.cel j) := by
  unfold rhoC
  rw [h]
  dsimp only
  have hx : ∃ j : Nat, ∃ e, m.vs.cells[j]? = some e ∧ e.th = (th : Int) ∧ e.at_ = (a : Int) := ⟨j, e, he, h1, h2⟩
  rw [if_pos ⟨rfl, ha⟩, dif_pos hx]
  obtain ⟨e', q1, q2, q3⟩ := hx.choose_spec
  rw [hC.unq _ _ _ _ q1 he q2 h1 (by omega)]
theorem rhoC_inv {i : Nat} {pl : Plc} (h : rhoC ρ m th at_ i = some pl) : (ρ i = some pl ∧ ∀ u a, pl = .stk u a → u ≠ th ∨ (a : Int) < at_) ∨ ∃ a j e, ρ i = some (.stk th a) ∧ at_ ≤ (a : Int) ∧ pl = .cel j ∧ m.vs.cells[j]? = some e ∧ e.th = (th : Int) ∧ e.at_ = (a : Int) := by
  unfold rhoC at h
  cases hr : ρ i with
  | none => rw [hr] at h; cases h
  | some p =>
    rw [hr] at h
    cases p with
    | cel j =>
      injection h with h
      subst h
      exact .inl ⟨rfl, (fun u a q => by cases q)⟩
    | stk u a =>
      dsimp only at h
      by_cases c : u = th ∧ at_ ≤ (a : Int)
      · rw [if_pos c] at h
        split at h
        · rename_i hx
          injection h with h
          obtain ⟨e', q1, q2, q3⟩ := hx.choose_spec
          exact .inr ⟨a, _, e', by rw [c.1], c.2, h.symm, q1, q2, q3⟩
        · cases h
      · rw [if_neg c] at h
        injection h with h
        subst h
        refine .inl ⟨rfl, fun u' a' q => ?_⟩
        injection q with q1 q2
        subst q1 q2
        omega
abbrev KeepC (th : Nat) (at_ : Int) : Nat → Nat → Prop := fun u a => u ≠ th ∨ (a : Int) < at_
theorem Chg.close (hC : Clsd m th t at_ cs) {es : List EvM} {m' : VM} (h1 : m'.vs.upix = m.vs.upix) (h2 : m'.vs.cells = cs) (hnn : ∀ i pl, ρ i = some pl → ∀ j, pl = .cel j → ∃ e, m.vs.cells[j]? = some e ∧ e.th < 0) (h3 : ∀ t k, NxOk m.vs.tabs t k → NxOk m'.vs.tabs t k := by exact fun _ _ h => h) : Chg (KeepC th at_) es ρ m es (rhoC ρ m th at_) m' := by
  refine ⟨.refl _, Nat.le_refl _, fun i pl idx _ hp hu => ?_, fun i u a _ h hk => rhoC_keep h hk, h3⟩
  obtain ⟨j, ce, q1, q2, q3⟩ := hu
  have hcl := hC.cls j ce q2
  rcases q3 with ⟨q3, rfl⟩ | ⟨q3, rfl⟩
  · by_cases c : ce.th = (th : Int) ∧ at_ ≤ ce.at_
    · obtain ⟨v, w1, w2⟩ := hcl.1 c
      have hnn := hC.nn j ce q2 c.1
      refine ⟨.cel j, rhoC_cls hC (a := ce.at_.toNat) (by rw [hp, c.1]; simp) (by omega) q2 c.1 (by omega), j, _, by rw [h1]; exact q1, by rw [h2]; exact w2, .inr ⟨by dsimp only; omega, rfl⟩⟩
    · refine ⟨_, rhoC_keep hp ?_, j, ce, by rw [h1]; exact q1, by rw [h2]; exact hcl.2 c, .inl ⟨q3, rfl⟩⟩
      by_cases d : ce.th = (th : Int)
      · have := hC.nn j ce q2 d
        omega
      · omega
  · exact ⟨_, rhoC_cel hp, j, ce, by rw [h1]; exact q1, by rw [h2]; exact hcl.2 (by omega), .inr ⟨q3, rfl⟩⟩
end
section
variable {K : Cn} {s : RnM} {m : VM} {th : Nat} {S : List Nat} {cn : Int} {ρ : Nat → Option Plc} {fi : Nat → List FI}
theorem Rl.celOk (R : Rl K s m th S cn ρ fi) : ∀ i pl, ρ i = some pl → ∀ j, pl = .cel j → ∃ e, m.vs.cells[j]? = some e ∧ e.th < 0 := fun i pl hi j hj => by
  subst hj
  obtain ⟨ev, _, e, q1, q2, _⟩ := R.vl i _ hi
  exact ⟨e, q1, q2⟩
theorem rset_at {s : RnM} {th : Nat} (hc : s.cur = (th : Int)) (h : th < s.ths.length) (q : ThM) : (rset s q).ths[th]? = some q := by
  unfold rset
  dsimp only
  rw [hc, Int.toNat_natCast, List.getElem?_set_self h]
theorem rset_ne {s : RnM} {th : Nat} (hc : s.cur = (th : Int)) (q : ThM) {u : Nat} (h : u ≠ th) : (rset s q).ths[u]? = s.ths[u]? := by
  unfold rset
  dsimp only
  rw [hc, Int.toNat_natCast, List.getElem?_set_ne (fun w => h w.symm)]
/-- The thread at hand is another; its variables stay. -/
theorem Rl.setT (R : Rl K s m th S cn ρ fi) {t t' : Th} {q' : ThM} {l' : List FI} (ht : m.vs.threads[th]? = some t) (hl : ∀ a : Nat, Live (fi th) a → Live l' a ∧ t'.stack[a]? = t.stack[a]?) (hth : ThOk K s.envs ρ (setTh m th t') th t' q' l') : Rl K (rset s q') (setTh m th t') th S cn ρ (fiUp fi th l') := by
  have hc : Chg AllK s.envs ρ m s.envs ρ (setTh m th t') := Chg.same rfl rfl
  have hln := R.ln
  refine ⟨R.nd, R.dn, R.cr, ?_, R.sp, R.st, ⟨R.sn.1, fun u hu => ?_⟩, R.fu, R.ou, R.fr, R.ts, R.wf, fun i pl hi => ?_, R.ij, fun i u a hi => ?_, ⟨R.cl.1, fun j mc cl g1 g2 => (R.cl.2 j mc cl g1 g2).chg hc⟩, fun u t2 ht2 => ?_⟩
  · rw [setTh_len]
    unfold rset
    simpa using hln
  · obtain ⟨t2, q1, q2⟩ := R.sn.2 u hu
    have hne : u ≠ th := fun e => by
      have := R.sn.1
      rw [List.nodup_cons] at this
      exact this.1 (e ▸ hu)
    exact ⟨t2, by rw [setTh_ne hne]; exact q1, q2⟩
  · obtain ⟨ev, w1, w2⟩ := R.vl i pl hi
    refine ⟨ev, w1, ?_⟩
    cases pl with
    | cel j => exact w2
    | stk u a =>
      obtain ⟨t2, x1, x2⟩ := w2
      by_cases e : u = th
      · subst e
        rw [ht] at x1
        injection x1 with x1
        subst x1
        exact ⟨t', setTh_at ht, by rw [(hl a (R.lv i u a hi)).2]; exact x2⟩
      · exact ⟨t2, by rw [setTh_ne e]; exact x1, x2⟩
  · by_cases e : u = th
    · subst e
      rw [fiUp_at]
      exact (hl a (R.lv i u a hi)).1
    · rw [fiUp_ne _ _ e]
      exact R.lv i u a hi
  · by_cases e : u = th
    · subst e
      rw [setTh_at ht] at ht2
      injection ht2 with ht2
      subst ht2
      rw [fiUp_at]
      exact ⟨q', rset_at R.cr (by omega) _, hth⟩
    · rw [setTh_ne e] at ht2
      obtain ⟨q, q1, q2⟩ := R.th u t2 ht2
      refine ⟨q, by rw [rset_ne R.cr _ e]; exact q1, q2.st, q2.fn, ?_, q2.bt, ?_⟩
      · rw [fiUp_ne _ _ e]; exact q2.dp
      · rw [fiUp_ne _ _ e]
        exact q2.tr.chg hc (fun _ _ h => h) fun _ _ => trivial
/-- The thread's variables from at_ on have ended. -/
theorem Rl.closed (R : Rl K s m th S cn ρ fi) {t t1 t' : Th} {at_ : Int} {cs : List Ce} {q' : ThM} {l' : List FI} (ht : m.vs.threads[th]? = some t) (hC : Clsd m th t1 at_ cs) (hs1 : ∀ a, Live (fi th) a → t1.stack[a]? = t.stack[a]?) (hl : ∀ a : Nat, (a : Int) < at_ → Live (fi th) a → Live l' a ∧ t'.stack[a]? = t.stack[a]?)
    (hth : ThOk K s.envs (rhoC ρ m th at_) (setTh { m with vs := { m.vs with cells := cs } } th t') th t' q' l') :
    Rl K (rset s q') (setTh { m with vs := { m.vs with cells := cs } } th t') th S cn (rhoC ρ m th at_) (fiUp fi th l') := by
  have hc : Chg (KeepC th at_) s.envs ρ m s.envs (rhoC ρ m th at_) (setTh { m with vs := { m.vs with cells := cs } } th t') := Chg.close hC rfl rfl R.celOk
  have ht0 : ({ m with vs := { m.vs with cells := cs } } : VM).vs.threads[th]? = some t := ht
  have hln := R.ln
  refine ⟨R.nd, R.dn, R.cr, ?_, R.sp, R.st, ⟨R.sn.1, fun u hu => ?_⟩, R.fu, R.ou, R.fr, R.ts, R.wf, fun i pl hi => ?_, fun i j pl hi hj => ?_, fun i u a hi => ?_, ⟨R.cl.1, fun j mc cl g1 g2 => (R.cl.2 j mc cl g1 g2).chg hc⟩, fun u t2 ht2 => ?_⟩
  · rw [setTh_len]
    unfold rset
    simpa using hln
  · obtain ⟨t2, q1, q2⟩ := R.sn.2 u hu
    have hne : u ≠ th := fun e => by
      have := R.sn.1
      rw [List.nodup_cons] at this
      exact this.1 (e ▸ hu)
    exact ⟨t2, by rw [setTh_ne hne]; exact q1, q2⟩
  · rcases rhoC_inv hi with ⟨q1, q2⟩ | ⟨a, j, e, q1, q2, rfl, q4, q5, q6⟩
    · obtain ⟨ev, w1, w2⟩ := R.vl i pl q1
      refine ⟨ev, w1, ?_⟩
      cases pl with
      | cel j =>
        obtain ⟨e, x1, x2, x3⟩ := w2
        exact ⟨e, (hC.cls j e x1).2 (by omega), x2, x3⟩
      | stk u a =>
        obtain ⟨t2, x1, x2⟩ := w2
        by_cases e : u = th
        · subst e
          rw [ht] at x1
          injection x1 with x1
          subst x1
          have hk := q2 u a rfl
          have hla := hl a (by omega) (R.lv i u a q1)
          exact ⟨t', setTh_at ht0, by rw [hla.2]; exact x2⟩
        · exact ⟨t2, by rw [setTh_ne e]; exact x1, x2⟩
    · obtain ⟨ev, w1, t2, x1, x2⟩ := R.vl i _ q1
      rw [ht] at x1
      injection x1 with x1
      subst x1
      obtain ⟨v, y1, y2⟩ := (hC.cls j e q4).1 ⟨q5, by omega⟩
      rw [show e.at_.toNat = a from by omega, hs1 a (R.lv i th a q1), x2] at y1
      injection y1 with y1
      exact ⟨ev, w1, _, y2, by dsimp only; omega, by rw [y1]⟩
  · rcases rhoC_inv hi with ⟨q1, q2⟩ | ⟨a, k, e, q1, q2, rfl, q4, q5, q6⟩
    · rcases rhoC_inv hj with ⟨w1, w2⟩ | ⟨a', k', e', w1, w2, rfl, w4, w5, w6⟩
      · exact R.ij i j pl q1 w1
      · obtain ⟨e2, x1, x2⟩ := R.celOk i _ q1 k' rfl
        rw [w4] at x1
        injection x1 with x1
        subst x1
        omega
    · rcases rhoC_inv hj with ⟨w1, w2⟩ | ⟨a', k', e', w1, w2, hw, w4, w5, w6⟩
      · obtain ⟨e2, x1, x2⟩ := R.celOk j _ w1 k rfl
        rw [q4] at x1
        injection x1 with x1
        subst x1
        omega
      · injection hw with hw
        subst hw
        rw [q4] at w4
        injection w4 with w4
        subst w4
        have : a = a' := by omega
        subst this
        exact R.ij i j _ q1 w1
  · rcases rhoC_inv hi with ⟨q1, q2⟩ | ⟨a', j, e, q1, q2, hq, _⟩
    · have hk := q2 u a rfl
      by_cases e : u = th
      · subst e
        rw [fiUp_at]
        exact (hl a (by omega) (R.lv i u a q1)).1
      · rw [fiUp_ne _ _ e]
        exact R.lv i u a q1
    · cases hq
  · by_cases e : u = th
    · subst e
      rw [setTh_at ht0] at ht2
      injection ht2 with ht2
      subst ht2
      rw [fiUp_at]
      exact ⟨q', rset_at R.cr (by omega) _, hth⟩
    · rw [setTh_ne e] at ht2
      obtain ⟨q, q1, q2⟩ := R.th u t2 ht2
      refine ⟨q, by rw [rset_ne R.cr _ e]; exact q1, q2.st, q2.fn, ?_, q2.bt, ?_⟩
      · rw [fiUp_ne _ _ e]; exact q2.dp
      · rw [fiUp_ne _ _ e]
        exact q2.tr.chg hc (fun _ _ h => h) fun a _ => .inl e
end
end Go.Sm
