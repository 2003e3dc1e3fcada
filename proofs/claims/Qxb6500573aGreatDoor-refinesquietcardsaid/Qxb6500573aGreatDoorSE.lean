/- Plain: the program as it is laid; one step of the machine, exactly. -/
import Derived.Test.Qxb6500573aGreatDoorSD
import Derived.Test.Qxb6500573aGreatDoorQS
namespace Go.Wl
open Go Go.Sl Go.Proofs
set_option linter.unusedVariables false
structure LnkF (g : Pg) (f : Fs) (p : Pr) : Prop where
  np : p.nparams = f.nparams
  ns : p.nslots = f.nslots
  nu : p.nup = f.ups.length
  nc : p.ncode = f.code.length
  ds : (g.descs.drop p.up.toNat).take p.nup.toNat = f.ups
  cd : ∀ (pc : Nat) (i : In), f.code[pc]? = some i → g.code[p.code.toNat + pc]? = some i
  ks : ∀ (j : Nat) (v : V), f.consts[j]? = some v → (j : Int) < p.nk ∧ g.consts[(p.k + (j : Int)).toNat]? = some v
theorem pg_lnk {P : List Fs} {x : Nat} {f : Fs} (hf : P[x]? = some f) : ∃ p, (pgOf P).protos[x]? = some p ∧ LnkF (pgOf P) f p := by
  obtain ⟨ps, e1, e2, e3⟩ := pg_fold P ⟨[], [], [], []⟩
  have hg : pgOf P = ⟨ps, P.flatMap (·.ups), P.flatMap (·.consts), P.flatMap (·.code)⟩ := by
    unfold pgOf
    rw [e1]
    simp
  simp only [List.length_nil, Nat.zero_add] at e3
  have h3 := e3 x f hf
  refine ⟨_, by rw [hg]; exact h3, ⟨rfl, rfl, rfl, rfl, ?_, fun pc i hi => ?_, fun j v hj => ⟨by dsimp only; have := lt_of hj; omega, ?_⟩⟩⟩
  · rw [hg]
    dsimp only
    rw [Int.toNat_natCast, Int.toNat_natCast, flatm_at (·.ups) hf, List.drop_left, List.take_left]
  · rw [hg]
    dsimp only
    rw [Int.toNat_natCast, flatm_at (·.code) hf, List.getElem?_append_right (by omega), Nat.add_sub_cancel_left, List.getElem?_append_left (lt_of hi)]
    exact hi
  · rw [hg]
    dsimp only
    rw [flatm_at (·.consts) hf, show (((P.take x).flatMap (·.consts)).length + (j : Int)).toNat = ((P.take x).flatMap (·.consts)).length + j from by omega, List.getElem?_append_right (by omega), Nat.add_sub_cancel_left, List.getElem?_append_left (lt_of hj)]
    exact hj
/-- The running thread stands at pc; t: what it is. -/
structure Now (c : Cx) (m : VM) (t : Th) (pc : Nat) : Prop where
  run : RunT c m (c.PT c.cl.p.toNat pc)
  hpc : c.f.pc = (pc : Nat) ∧ (pc : Int) < c.p.ncode
  ht : m.vs.threads[c.th]? = some t
def InsAt (c : Cx) (pc : Nat) (op x : Int) : Prop := c.g.code[c.p.code.toNat + pc]? = some (op, x)
theorem Run.now {c : Cx} {m : VM} (h : Run c m) : ∃ t pc, Now c m t pc := by
  obtain ⟨pc, h1, h2, hR⟩ := h
  obtain ⟨t, ht, _⟩ := hR.run
  exact ⟨t, pc, hR, ⟨h1, h2⟩, ht⟩
section
variable {c : Cx} {m : VM} {t : Th} {pc : Nat} {op x : Int}
theorem Now.thr (N : Now c m t pc) : ThR c m t (c.PT c.cl.p.toNat pc) := by
  obtain ⟨t', ht', hR⟩ := N.run.run
  rw [N.ht] at ht'
  injection ht' with ht'
  subst ht'
  exact hR
theorem Now.fr (N : Now c m t pc) : t.frames = c.fs ++ [c.f] := N.thr.fr
theorem Now.small (N : Now c m t pc) : t.stack.length ≤ 2300 ∧ c.B ≤ 1300 ∧ c.O ≤ 1312 ∧ c.B ≤ c.O ∧ c.O ≤ t.stack.length ∧ c.p.nslots ≤ 12 ∧ 0 ≤ c.p.nslots := N.run.small N.ht
theorem Now.pcb (N : Now c m t pc) : pc < 65535 := by
  have := N.run.prOk.cd
  have := N.hpc.2
  omega
/-- One step: what is done. -/
theorem Now.step (N : Now c m t pc) (hi : InsAt c pc op x) : vstepL c.th m = stepE c.th c.fs.length c.p op x m ∧ (0 ≤ x ∧ x ≤ 65535) ∧ InsOk c.g c.p (c.PT c.cl.p.toNat) pc op x := by
  have h := N.run
  have ht := N.ht
  have hR := N.thr
  have hpc := N.hpc
  have hp := h.prOk
  have hsm := h.small ht
  obtain ⟨i, hi', hx, hI⟩ := hp.ins pc hpc.2
  rw [hi] at hi'
  injection hi' with hi'
  subst hi'
  dsimp only at hx hI
  have hcd := hp.cd
  have hsz := h.mi.ok.sz
  have hE := eff_ok hp hpc.2 hI
  have hfl := hR.fl
  have hsl := hR.sl
  refine ⟨?_, hx, hI⟩
  have hfr : t.frames.length - 1 = c.fs.length := by rw [hR.fr]; simp
  have hfr2 : t.frames.length = c.fs.length + 1 := by rw [hR.fr]; simp
  obtain ⟨p0, p1, p2⟩ := getI_lt' hR.pr
  have hn := h.mi.ok.n
  unfold vstepL getT
  rw [ht, bind1_some, if_pos (by omega), hfr, h.frame, bind1_some, hR.cl, bind1_some, if_pos (by omega), h.mi.pg, p2, bind1_some, hpc.1, if_pos (by omega), if_neg (by omega)]
  rw [getI_mk (l := c.g.code) (j := c.p.code + (pc : Int)) (x := (op, x)) (by omega) (by rw [show (c.p.code + (pc : Int)).toNat = c.p.code.toNat + pc from by omega]; exact hi), bind1_some, if_pos hx, sound_ok h rfl hx hI, bind1_some, if_pos rfl]
  dsimp only
  unfold stepS
  have hb := hR.b
  have hnp := hp.np
  have hx26 : op = 26 → x ≤ 100 := fun q => by
    rw [q] at hI
    cases hI with
    | call ht hk hl hn => omega
    | lit ho _ _ => omega
    | una ho _ _ => omega
    | jk ho _ _ _ => omega
  have e : (t.stack.length : Int) - c.f.base - c.p.nslots = ((c.PT c.cl.p.toNat pc).st.length : Int) := by rw [hb]; unfold Cx.O at hsl; omega
  rw [if_pos ⟨hx26, by omega, by omega, by omega⟩, e, if_neg (by omega), if_neg (by omega)]
theorem push_x {th : Nat} (ht : m.vs.threads[th]? = some t) {l : List V} (hl : t.stack.length + l.length ≤ 1000000) : pushM th l m = some (setTh m th { t with stack := t.stack ++ l }) := by
  unfold pushM getT
  rw [ht, bind1_some, if_pos hl]
theorem pop_x {th : Nat} (ht : m.vs.threads[th]? = some t) {S : List V} {v : V} (hs : t.stack = S ++ [v]) (hl : t.stack.length ≤ 1000000) : popM th m = some (v, setTh m th { t with stack := S }) := by
  have e : t.stack.length - 1 = S.length := by rw [hs]; simp
  unfold popM getT
  rw [ht, bind1_some, if_pos hl, e, hs, List.getElem?_append_right (Nat.le_refl _), Nat.sub_self, List.take_left]
  rfl
theorem set_last {α : Type} (l : List α) (a b : α) : (l ++ [a]).set l.length b = l ++ [b] := by
  rw [List.set_append_right _ _ (Nat.le_refl _), Nat.sub_self]; rfl
theorem goto_x {th : Nat} {fs : List Fr} {f : Fr} (ht : m.vs.threads[th]? = some t) (hf : t.frames = fs ++ [f]) (q : Int) : pcM th fs.length q m = some (setTh m th { t with frames := fs ++ [{ f with pc := q }] }) := by
  unfold pcM getF getT
  rw [ht, bind1_some, hf, List.getElem?_append_right (Nat.le_refl _), Nat.sub_self]
  show setF _ _ _ _ = _
  unfold setF getT
  rw [ht, bind1_some, if_pos (by rw [hf]; simp), hf, set_last]
theorem next_x {th : Nat} {fs : List Fr} {f : Fr} (ht : m.vs.threads[th]? = some t) (hf : t.frames = fs ++ [f]) (hpc : f.pc = (pc : Nat)) (hl : pc ≤ 65535) : nextPc th fs.length m = some (setTh m th { t with frames := fs ++ [{ f with pc := (pc : Int) + 1 }] }) := by
  have h1 := goto_x ht hf ((pc : Int) + 1)
  unfold nextPc getF getT
  rw [ht, bind1_some, hf, List.getElem?_append_right (Nat.le_refl _), Nat.sub_self]
  show (if 0 ≤ f.pc ∧ f.pc ≤ 1000000000 then pcM th fs.length (f.pc + 1) m else none) = _
  rw [if_pos (by omega), hpc]
  exact h1
theorem setTh_same (ht : m.vs.threads[c.th]? = some t) : setTh m c.th t = m := by
  unfold setTh
  have e : m.vs.threads.set c.th t = m.vs.threads := by
    apply List.ext_getElem?
    intro i
    by_cases hi : c.th = i
    · subst hi
      rw [List.getElem?_set_self (lt_of ht), ht]
    · rw [List.getElem?_set_ne hi]
  rw [e]
/-- A plain instruction. -/
theorem Now.plain (N : Now c m t pc) (hi : InsAt c pc op x) (hc : ¬ (21 ≤ op ∧ op ≤ 24) ∧ op ≠ 26 ∧ op ≠ 27) : vstepL c.th m = bindO (plainM c.th c.fs.length c.p op x m) fun _ m => outE (nextPc c.th c.fs.length m) := by
  rw [(N.step hi).1]
  unfold stepE
  rw [if_neg (by omega), if_neg (by omega), if_neg (by omega), if_neg (by omega), if_neg (by omega), if_neg (by omega)]
theorem Now.plainO (N : Now c m t pc) (hi : InsAt c pc op x) (hc : ¬ (21 ≤ op ∧ op ≤ 24) ∧ op ≠ 26 ∧ op ≠ 27) {m1 : VM} {t1 : Th} (hp : plainM c.th c.fs.length c.p op x m = some (.ok () m1)) (ht1 : m1.vs.threads[c.th]? = some t1) (hf1 : t1.frames = c.fs ++ [c.f]) :
    vstepL c.th m = some (.ok ev0 (setTh m1 c.th { t1 with frames := c.fs ++ [{ c.f with pc := (pc : Int) + 1 }] })) := by
  rw [N.plain hi hc, hp]
  show outE (nextPc c.th c.fs.length m1) = _
  unfold outE
  rw [next_x ht1 hf1 N.hpc.1 (by have := N.pcb; omega)]
  rfl
/-- The thread with another stack, at another place. -/
def upd (c : Cx) (m : VM) (t : Th) (S : List V) (q : Nat) : VM := setTh m c.th { t with stack := S, frames := c.fs ++ [{ c.f with pc := (q : Nat) }] }
theorem setTh_2 {th : Nat} {t t' : Th} : setTh (setTh m th t) th t' = setTh m th t' := setTh_set m th t t'
/-- A plain instruction that only turns the stack. -/
theorem Now.plainS (N : Now c m t pc) (hi : InsAt c pc op x) (hc : ¬ (21 ≤ op ∧ op ≤ 24) ∧ op ≠ 26 ∧ op ≠ 27) {S : List V} (hp : plainM c.th c.fs.length c.p op x m = some (.ok () (setTh m c.th { t with stack := S }))) : vstepL c.th m = some (.ok ev0 (upd c m t S (pc + 1))) := by
  rw [N.plainO hi hc hp (setTh_at N.ht) N.fr, setTh_2]
  rfl
theorem Now.pushP (N : Now c m t pc) (v : V) : okU () (pushM c.th [v] m) = some (.ok () (setTh m c.th { t with stack := t.stack ++ [v] })) := by
  have := N.small
  rw [push_x N.ht (by simp; omega)]
  rfl
theorem Now.xkon (N : Now c m t pc) (hi : InsAt c pc 1 x) {v : V} (hv : constM c.p x m = some v) : vstepL c.th m = some (.ok ev0 (upd c m t (t.stack ++ [v]) (pc + 1))) := by
  obtain ⟨_, hx, _⟩ := N.step hi
  refine N.plainS hi (by omega) ?_
  rw [plain_in N.run hx, if_pos rfl, hv]
  exact N.pushP v
theorem Now.xlit (N : Now c m t pc) {v : V} (ho : (op = 2 ∧ v = V.nil) ∨ (op = 3 ∧ v = ⟨1, 1, []⟩) ∨ (op = 4 ∧ v = ⟨1, 0, []⟩)) (hi : InsAt c pc op x) : vstepL c.th m = some (.ok ev0 (upd c m t (t.stack ++ [v]) (pc + 1))) := by
  obtain ⟨_, hx, _⟩ := N.step hi
  refine N.plainS hi (by omega) ?_
  rw [plain_in N.run hx]
  rcases ho with ⟨rfl, rfl⟩ | ⟨rfl, rfl⟩ | ⟨rfl, rfl⟩
  · rw [if_neg (by decide), if_pos rfl]; exact N.pushP _
  · rw [if_neg (by decide), if_neg (by decide), if_pos rfl]; exact N.pushP _
  · rw [if_neg (by decide), if_neg (by decide), if_neg (by decide), if_pos rfl]; exact N.pushP _
theorem Now.slotE (N : Now c m t pc) (hx : 0 ≤ x) : slotI c.f x = c.B + x.toNat := by
  have := N.thr.b
  unfold slotI
  omega
theorem Now.xgetL (N : Now c m t pc) (hi : InsAt c pc 5 x) {v : V} (hv : t.stack[c.B + x.toNat]? = some v) : vstepL c.th m = some (.ok ev0 (upd c m t (t.stack ++ [v]) (pc + 1))) := by
  obtain ⟨_, hx, hI⟩ := N.step hi
  have hs : x < c.p.nslots := by
    cases hI with
    | getL _ h _ _ => exact h.2
    | lit ho _ _ => omega
    | una ho _ _ => omega
    | jk ho _ _ _ => omega
  have := N.small
  refine N.plainS hi (by omega) ?_
  rw [plain_in N.run hx, if_neg (by decide), if_neg (by decide), if_neg (by decide), if_neg (by decide), if_pos rfl, if_pos hs]
  unfold pGetL getS getT
  rw [N.ht, bind1_some, N.slotE hx.1, getI_mk (x := v) (by omega) (by rw [Int.toNat_natCast]; exact hv), bind1_some]
  exact N.pushP _
theorem Now.xsetL (N : Now c m t pc) (hi : InsAt c pc 6 x) {S : List V} {v : V} (hs : t.stack = S ++ [v]) : vstepL c.th m = some (.ok ev0 (upd c m t (S.set (c.B + x.toNat) v) (pc + 1))) ∧ 0 ≤ x ∧ x < c.p.nslots ∧ c.O ≤ S.length := by
  obtain ⟨_, hx, hI⟩ := N.step hi
  have hsm := N.small
  have hsl := N.thr.sl
  have hlt : x < c.p.nslots ∧ 1 ≤ (c.PT c.cl.p.toNat pc).st.length := by
    cases hI with
    | setL ht h _ _ => exact ⟨h.2, by rw [ht]; simp⟩
    | lit ho _ _ => omega
    | una ho _ _ => omega
    | jk ho _ _ _ => omega
  have hSl : c.O ≤ S.length := by rw [hs, List.length_append, List.length_singleton] at hsl; omega
  refine ⟨?_, hx.1, hlt.1, hSl⟩
  refine N.plainS hi (by omega) ?_
  rw [plain_in N.run hx, if_neg (by decide), if_neg (by decide), if_neg (by decide), if_neg (by decide), if_neg (by decide), if_pos rfl, if_pos hlt.1]
  unfold pSetL
  rw [pop_x N.ht hs (by omega), bind2_some, N.slotE hx.1]
  unfold setS getT
  rw [setTh_at N.ht, bind1_some, if_pos (by unfold Cx.O at hSl; dsimp only; omega), setTh_2]
  rfl
theorem Now.xpop (N : Now c m t pc) (hi : InsAt c pc 25 x) {S : List V} {v : V} (hs : t.stack = S ++ [v]) : vstepL c.th m = some (.ok ev0 (upd c m t S (pc + 1))) := by
  obtain ⟨_, hx, _⟩ := N.step hi
  have hsm := N.small
  refine N.plainS hi (by omega) ?_
  rw [plain_in N.run hx]
  rw [if_neg (by decide), if_neg (by decide), if_neg (by decide), if_neg (by decide), if_neg (by decide), if_neg (by decide), if_neg (by decide), if_neg (by decide), if_neg (by decide), if_neg (by decide), if_neg (by decide), if_neg (by decide), if_neg (by decide), if_neg (by decide), if_pos rfl]
  rw [pop_x N.ht hs (by omega), bind2_some]
/-- Operands that an instruction needs are there. -/
theorem Now.ops (N : Now c m t pc) {n : Nat} (hn : n ≤ (c.PT c.cl.p.toNat pc).st.length) : c.O + n ≤ t.stack.length := by
  have := N.thr.sl
  omega
theorem Now.needs (N : Now c m t pc) (hi : InsAt c pc op x) : (effX op x).1 ≤ (t.stack.length : Int) - c.O := by
  obtain ⟨_, hx, hI⟩ := N.step hi
  have h1 := (eff_ok N.run.prOk N.hpc.2 hI).1
  have := N.thr.sl
  omega
/-- Jumps. -/
theorem jump_x {th : Nat} {fs : List Fr} {f : Fr} (ht : m.vs.threads[th]? = some t) (hf : t.frames = fs ++ [f]) {q : Int} (hq : f.pc < q) : jumpV th fs.length q m = some (.ok () (setTh m th { t with frames := fs ++ [{ f with pc := q }] })) := by
  unfold jumpV getF getT
  rw [ht, bind1_some, hf, List.getElem?_append_right (Nat.le_refl _), Nat.sub_self]
  show (if q ≤ f.pc then _ else _) = _
  rw [if_neg (by omega), goto_x ht hf]
  rfl
theorem Now.xjmp (N : Now c m t pc) {q : Nat} (hi : InsAt c pc 21 q) (hq : pc < q) : vstepL c.th m = some (.ok ev0 (upd c m t t.stack q)) := by
  rw [(N.step hi).1]
  unfold stepE
  rw [if_pos rfl, jump_x N.ht N.fr (by rw [N.hpc.1]; omega)]
  rfl
/-- A jump back: it burns. -/
theorem Now.xback (N : Now c m t pc) {q : Nat} (hi : InsAt c pc 21 q) (hq : q ≤ pc) : (m.vs.fuel = 0 ∧ vstepL c.th m = some (.trp 9 m)) ∨ (0 < m.vs.fuel ∧ vstepL c.th m = some (.ok ev0 (upd c { m with vs := { m.vs with fuel := m.vs.fuel - 1 } } t t.stack q))) := by
  rw [(N.step hi).1]
  unfold stepE
  rw [if_pos rfl]
  have e : jumpV c.th c.fs.length (q : Int) m = bindO (burnM m) fun _ m => bind1 (pcM c.th c.fs.length q m) fun m => some (.ok () m) := by
    unfold jumpV getF getT
    rw [N.ht, bind1_some, N.fr, List.getElem?_append_right (Nat.le_refl _), Nat.sub_self]
    show (if (q : Int) ≤ c.f.pc then _ else _) = _
    rw [if_pos (by rw [N.hpc.1]; omega)]
  rw [e]
  rcases burn_ok N.run with ⟨h1, h2⟩ | ⟨h1, h2, _⟩
  · exact .inl ⟨h1, by rw [h2]; rfl⟩
  · refine .inr ⟨h1, ?_⟩
    rw [h2]
    show bindO (bind1 (pcM c.th c.fs.length q { m with vs := { m.vs with fuel := m.vs.fuel - 1 } }) _) _ = _
    rw [goto_x (m := { m with vs := { m.vs with fuel := m.vs.fuel - 1 } }) (t := t) N.ht N.fr]
    rfl
theorem Now.xjf (N : Now c m t pc) {q : Nat} (hi : InsAt c pc 22 q) (hq : pc < q) {S : List V} {v : V} (hs : t.stack = S ++ [v]) : vstepL c.th m = some (.ok ev0 (upd c m t S (if truthy v = true then pc + 1 else q))) := by
  have hsm := N.small
  rw [(N.step hi).1]
  unfold stepE
  rw [if_neg (by decide), if_pos rfl, pop_x N.ht hs (by omega), bind2_some]
  by_cases hv : truthy v = true
  · rw [if_pos hv, if_pos hv]
    unfold outE
    rw [next_x (t := { t with stack := S }) (setTh_at N.ht) N.fr N.hpc.1 (by have := N.pcb; omega), bind1_some, setTh_2]
    rfl
  · rw [if_neg hv, if_neg hv, jump_x (t := { t with stack := S }) (setTh_at N.ht) N.fr (by rw [N.hpc.1]; omega), setTh_2]
    rfl
theorem Now.xjk (N : Now c m t pc) {q : Nat} {fl : Bool} (ho : (op = 23 ∧ fl = false) ∨ (op = 24 ∧ fl = true)) (hi : InsAt c pc op q) (hq : pc < q) {S : List V} {v : V} (hs : t.stack = S ++ [v]) : vstepL c.th m = some (.ok ev0 (if truthy v = fl then upd c m t t.stack q else upd c m t S (pc + 1))) := by
  have hsm := N.small
  have hj : sJmp c.th c.fs.length q fl m = some (.ok ev0 (if truthy v = fl then upd c m t t.stack q else upd c m t S (pc + 1))) := by
    unfold sJmp getT
    have e : t.stack.length - 1 = S.length := by rw [hs]; simp
    have e2 : t.stack[t.stack.length - 1]? = some v := by rw [e, hs]; simp
    rw [N.ht, bind1_some, if_pos (by omega), e2, bind1_some]
    by_cases hv : truthy v = fl
    · rw [if_pos hv, if_pos hv, jump_x N.ht N.fr (by rw [N.hpc.1]; omega)]
      rfl
    · rw [if_neg hv, if_neg hv, pop_x N.ht hs (by omega), bind2_some]
      unfold outE
      rw [next_x (t := { t with stack := S }) (setTh_at N.ht) N.fr N.hpc.1 (by have := N.pcb; omega), bind1_some, setTh_2]
      rfl
  rw [(N.step hi).1]
  unfold stepE
  rcases ho with ⟨rfl, rfl⟩ | ⟨rfl, rfl⟩
  · rw [if_neg (by decide), if_neg (by decide), if_pos rfl]; exact hj
  · rw [if_neg (by decide), if_neg (by decide), if_neg (by decide), if_pos rfl]; exact hj
end
end Go.Wl
