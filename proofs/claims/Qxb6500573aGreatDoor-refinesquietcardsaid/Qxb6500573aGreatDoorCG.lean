/- Plain: the machine's checks say yes. -/
import Derived.Test.Qxb6500573aGreatDoorCF
namespace Go.Wl
open Go Go.Sl Go.Proofs
set_option linter.unusedVariables false
section
variable {c : Cx} {m : VM} {pc : Nat}
theorem descs_ok {p : Pr} {z : List Nat} {ns nup : Int} (hz : (z.length : Int) ≤ ns) (hn : nup = p.nup) : ∀ (ds : List (Int × Int)), (∀ d, d ∈ ds → descOk p z d) → descsOk ns nup ds = true
  | [], _ => rfl
  | d :: ds, h => by
    unfold descsOk
    have hd := h d List.mem_cons_self
    rcases hd with ⟨e1, e2, e3⟩ | ⟨e1, e2, e3⟩
    · have := (List.getElem?_eq_some_iff.1 e3).1
      rw [if_neg (by omega), if_neg (by omega)]
      exact descs_ok hz hn ds fun d hd => h d (List.mem_cons_of_mem _ hd)
    · rw [if_neg (by omega), if_neg (by omega)]
      exact descs_ok hz hn ds fun d hd => h d (List.mem_cons_of_mem _ hd)
theorem sound_in {ty : Ty} (h : RunT c m ty) {op x : Int} (hx : 0 ≤ x ∧ x ≤ 65535) : soundM c.th c.fs.length c.p op x m =
  (if op = 1 then some (decide (x < c.p.nk)) else
  if op = 9 then sndG c.p x m else
  if op = 10 then sndG c.p x m else
  if op = 5 then some (decide (x < c.p.nslots)) else
  if op = 6 then some (decide (x < c.p.nslots)) else
  if op = 7 then some (decide (x < c.cl.nup)) else
  if op = 8 then some (decide (x < c.cl.nup)) else
  if op = 15 then some (if 1 ≤ x then decide (x ≤ 6) else false) else
  if op = 16 then some (if 1 ≤ x then decide (x ≤ 6) else false) else
  if op = 21 then some (decide (x < c.p.ncode)) else
  if op = 22 then some (decide (x < c.p.ncode)) else
  if op = 23 then some (decide (x < c.p.ncode)) else
  if op = 24 then some (decide (x < c.p.ncode)) else
  if op = 26 then some (decide (x ≤ 3)) else
  if op = 29 then some (decide (x ≤ c.p.nslots)) else
  if op = 30 then some (decide (x + 3 < c.p.nslots)) else
  if op = 32 then some (decide (x + 3 < c.p.nslots)) else
  if op = 31 then sndT c.th c.f c.p x m else
  if op = 28 then sndC c.p c.cl x m else
  some (if 1 ≤ op then decide (op ≤ 32) else false)) := by
  obtain ⟨t, ht, hR⟩ := h.run
  unfold soundM
  rw [h.frame, bind1_some, hR.cl, bind1_some, if_pos (by omega)]
theorem sndG_ok {ty : Ty} (h : RunT c m ty) {x : Int} {v : V} (hx : 0 ≤ x ∧ x < c.p.nk) (hv : c.g.consts[(c.p.k + x).toNat]? = some v ∧ v.t = 3) : sndG c.p x m = some true := by
  have hk := h.prOk.ks
  have hs := h.mi.ok.sz
  unfold sndG
  rw [if_pos hx.2, if_pos (by omega), h.mi.pg, getI_mk (by omega) hv.1, bind1_some, decide_eq_true hv.2]
theorem sndT_ok {st : List Bool} {z : List Nat} (h : RunT c m ⟨st, z⟩) {x : Int} (hx : 0 ≤ x ∧ x + 3 < c.p.nslots) (h0 : z[x.toNat]? = some 2) (h1 : z[x.toNat + 1]? = some 2) (h2 : z[x.toNat + 2]? = some 2) : sndT c.th c.f c.p x m = some true := by
  obtain ⟨t, ht, hR⟩ := h.run
  have hsm := h.small ht
  obtain ⟨v0, a1, a2⟩ := hR.ns _ h0
  obtain ⟨v1, b1, b2⟩ := hR.ns _ h1
  obtain ⟨v2, d1, d2⟩ := hR.ns _ h2
  unfold sndT getT
  unfold Cx.O at hsm
  rw [if_neg (by omega), ht, bind1_some, hR.b, if_pos (by omega)]
  rw [getI_mk (j := (c.B : Int) + x) (by omega) (by rw [show ((c.B : Int) + x).toNat = c.B + x.toNat from by omega]; exact a1), bind1_some, if_pos a2]
  rw [getI_mk (j := (c.B : Int) + x + 1) (by omega) (by rw [show ((c.B : Int) + x + 1).toNat = c.B + (x.toNat + 1) from by omega]; exact b1), bind1_some, if_pos b2]
  rw [getI_mk (j := (c.B : Int) + x + 2) (by omega) (by rw [show ((c.B : Int) + x + 2).toNat = c.B + (x.toNat + 2) from by omega]; exact d1), bind1_some, decide_eq_true d2]
theorem sndC_ok {st : List Bool} {z : List Nat} (h : RunT c m ⟨st, z⟩) {x : Int} {q : Pr} (hx : 0 ≤ x ∧ x < c.g.protos.length) (hq : c.g.protos[x.toNat]? = some q) (hd : ∀ d, d ∈ (c.g.descs.drop q.up.toNat).take q.nup.toNat → descOk c.p z d) (hcn : c.cl.nup = c.p.nup) : sndC c.p c.cl x m = some true := by
  obtain ⟨t, ht, hR⟩ := h.run
  have hqo := h.mi.ok.pr _ _ hq
  have hn := h.mi.ok.n
  have hup := hqo.up
  have hsz := h.mi.ok.sz
  have hzl := hR.zl
  have hnp := h.prOk.np
  have hw : window c.g.descs q.up q.nup = some ((c.g.descs.drop q.up.toNat).take q.nup.toNat) := by
    unfold window
    rw [if_pos (by omega)]
  unfold sndC
  rw [h.mi.pg, if_neg (by omega), getI_mk (by omega) hq, bind1_some, hw, bind1_some, if_pos (List.all_eq_true.2 fun d hd => decide_eq_true (h.mi.ok.ds d (List.mem_of_mem_drop (List.mem_of_mem_take hd))).2)]
  rw [descs_ok (p := c.p) (z := z) (by dsimp only at hzl; omega) hcn _ hd]
theorem RunT.nup {ty : Ty} (h : RunT c m ty) : c.cl.nup = c.p.nup := by
  obtain ⟨t, ht, hR⟩ := h.run
  obtain ⟨_, _, hcl⟩ := getI_lt' hR.cl
  obtain ⟨p, p1, p2, p3, p4⟩ := h.mi.cl _ _ hcl
  rw [hR.pr] at p1
  injection p1 with p1
  rw [p2, p1]
theorem sound_ok {ty : Ty} (h : RunT c m ty) (hT : c.PT c.cl.p.toNat pc = ty) {op x : Int} (hx : 0 ≤ x ∧ x ≤ 65535) (hi : InsOk c.g c.p (c.PT c.cl.p.toNat) pc op x) : soundM c.th c.fs.length c.p op x m = some true := by
  have hnu := h.nup
  rw [sound_in h hx]
  cases hi with
  | kon ht hk hn => rw [if_pos rfl, decide_eq_true hk.2]
  | lit ho ht hn => rcases ho with rfl | rfl | rfl <;> rfl
  | getL ht hk hb hn => show some (decide (x < c.p.nslots)) = _; rw [decide_eq_true hk.2]
  | setL ht hk hb hn => show some (decide (x < c.p.nslots)) = _; rw [decide_eq_true hk.2]
  | getU ht hk hn => show some (decide (x < c.cl.nup)) = _; rw [hnu, decide_eq_true hk.2]
  | setU ht hk hn => show some (decide (x < c.cl.nup)) = _; rw [hnu, decide_eq_true hk.2]
  | getG ht hk hv hn => exact sndG_ok h hk hv
  | setG ht hk hv hn => exact sndG_ok h hk hv
  | getT ht hn => rfl
  | setT ht hn => rfl
  | setI ht hn => rfl
  | newT ht hn => rfl
  | arith ht hk hn => show some (if 1 ≤ x then decide (x ≤ 6) else false) = _; rw [if_pos hk.1, decide_eq_true hk.2]
  | cmp ht hk hn => show some (if 1 ≤ x then decide (x ≤ 6) else false) = _; rw [if_pos hk.1, decide_eq_true hk.2]
  | cat ht hn => rfl
  | una ho ht hn => rcases ho with rfl | rfl | rfl <;> rfl
  | jmp hj => show some (decide (x < c.p.ncode)) = _; rw [decide_eq_true hj.1.2]
  | jf ht hj hn => show some (decide (x < c.p.ncode)) = _; rw [decide_eq_true hj.1.2]
  | jk ho ht hj hn => rcases ho with rfl | rfl <;> (show some (decide (x < c.p.ncode)) = _; rw [decide_eq_true hj.1.2])
  | pop ht hn => rfl
  | call ht hk hl hn => show some (decide (x ≤ 3)) = _; rw [decide_eq_true hk.2]
  | ret ht => rfl
  | clo ht hk hq hd hn =>
    rw [hT] at ht
    subst ht
    exact sndC_ok h hk hq hd hnu
  | close ht hk hn => show some (decide (x ≤ c.p.nslots)) = _; rw [decide_eq_true hk.2]
  | forC ht hk h0 h2 hz hn => show some (decide (x + 3 < c.p.nslots)) = _; rw [decide_eq_true hk.2]
  | forT ht hk h0 h1 h2 hn =>
    rw [hT] at ht
    subst ht
    exact sndT_ok h hk h0 h1 h2
  | forN ht hk h1 h2 h3 hn => show some (decide (x + 3 < c.p.nslots)) = _; rw [decide_eq_true hk.2]
theorem eff_ok {g : Pg} {p : Pr} {T : Nat → Ty} (hp : PrOk g p T) (hpc : (pc : Int) < p.ncode) {op x : Int} (hi : InsOk g p T pc op x) : (effX op x).1 ≤ ((T pc).st.length : Int) ∧ ((T pc).st.length : Int) + (effX op x).2 ≤ 128 := by
  have hb := (hp.st pc hpc).1
  have hf : ∀ {st : List Bool} {z : List Nat}, fall p T pc ⟨st, z⟩ → st.length ≤ 128 := fun {st z} hn => by
    have h1 := (hp.st (pc + 1) (by have := hn.1; omega)).1
    have h2 := hn.2.1.1
    dsimp only at h2
    omega
  cases hi with
  | kon ht hk hn => have := hf hn; rw [ht] at hb ⊢; simp only [List.length_append, List.length_cons, List.length_nil] at this hb ⊢; show (0 : Int) ≤ _ ∧ _ + (1 : Int) ≤ 128; omega
  | lit ho ht hn => have := hf hn; rw [ht] at hb ⊢; simp only [List.length_append, List.length_cons, List.length_nil] at this hb ⊢; rcases ho with rfl | rfl | rfl <;> (show (0 : Int) ≤ _ ∧ _ + (1 : Int) ≤ 128; omega)
  | getL ht hk hb' hn => have := hf hn; rw [ht] at hb ⊢; simp only [List.length_append, List.length_cons, List.length_nil] at this hb ⊢; show (0 : Int) ≤ _ ∧ _ + (1 : Int) ≤ 128; omega
  | setL ht hk hb' hn => rw [ht] at hb ⊢; simp only [List.length_append, List.length_cons, List.length_nil] at hb ⊢; show (1 : Int) ≤ _ ∧ _ + (-1 : Int) ≤ 128; omega
  | getU ht hk hn => have := hf hn; rw [ht] at hb ⊢; simp only [List.length_append, List.length_cons, List.length_nil] at this hb ⊢; show (0 : Int) ≤ _ ∧ _ + (1 : Int) ≤ 128; omega
  | setU ht hk hn => rw [ht] at hb ⊢; simp only [List.length_append, List.length_cons, List.length_nil] at hb ⊢; show (1 : Int) ≤ _ ∧ _ + (-1 : Int) ≤ 128; omega
  | getG ht hk hv hn => have := hf hn; rw [ht] at hb ⊢; simp only [List.length_append, List.length_cons, List.length_nil] at this hb ⊢; show (0 : Int) ≤ _ ∧ _ + (1 : Int) ≤ 128; omega
  | setG ht hk hv hn => rw [ht] at hb ⊢; simp only [List.length_append, List.length_cons, List.length_nil] at hb ⊢; show (1 : Int) ≤ _ ∧ _ + (-1 : Int) ≤ 128; omega
  | getT ht hn => rw [ht] at hb ⊢; simp only [List.length_append, List.length_cons, List.length_nil] at hb ⊢; show (2 : Int) ≤ _ ∧ _ + (-1 : Int) ≤ 128; omega
  | setT ht hn => rw [ht] at hb ⊢; simp only [List.length_append, List.length_cons, List.length_nil] at hb ⊢; show (3 : Int) ≤ _ ∧ _ + (-3 : Int) ≤ 128; omega
  | setI ht hn => rw [ht] at hb ⊢; simp only [List.length_append, List.length_cons, List.length_nil] at hb ⊢; show (2 : Int) ≤ _ ∧ _ + (-1 : Int) ≤ 128; omega
  | newT ht hn => have := hf hn; rw [ht] at hb ⊢; simp only [List.length_append, List.length_cons, List.length_nil] at this hb ⊢; show (0 : Int) ≤ _ ∧ _ + (1 : Int) ≤ 128; omega
  | arith ht hk hn => rw [ht] at hb ⊢; simp only [List.length_append, List.length_cons, List.length_nil] at hb ⊢; show (2 : Int) ≤ _ ∧ _ + (-1 : Int) ≤ 128; omega
  | cmp ht hk hn => rw [ht] at hb ⊢; simp only [List.length_append, List.length_cons, List.length_nil] at hb ⊢; show (2 : Int) ≤ _ ∧ _ + (-1 : Int) ≤ 128; omega
  | cat ht hn => rw [ht] at hb ⊢; simp only [List.length_append, List.length_cons, List.length_nil] at hb ⊢; show (2 : Int) ≤ _ ∧ _ + (-1 : Int) ≤ 128; omega
  | una ho ht hn => rw [ht] at hb ⊢; simp only [List.length_append, List.length_cons, List.length_nil] at hb ⊢; rcases ho with rfl | rfl | rfl <;> (show (1 : Int) ≤ _ ∧ _ + (0 : Int) ≤ 128; omega)
  | jmp hj => show (0 : Int) ≤ _ ∧ _ + (0 : Int) ≤ 128; omega
  | jf ht hj hn => rw [ht] at hb ⊢; simp only [List.length_append, List.length_cons, List.length_nil] at hb ⊢; show (1 : Int) ≤ _ ∧ _ + (-1 : Int) ≤ 128; omega
  | jk ho ht hj hn => rw [ht] at hb ⊢; simp only [List.length_append, List.length_cons, List.length_nil] at hb ⊢; rcases ho with rfl | rfl <;> (show (1 : Int) ≤ _ ∧ _ + (0 : Int) ≤ 128; omega)
  | pop ht hn => rw [ht] at hb ⊢; simp only [List.length_append, List.length_cons, List.length_nil] at hb ⊢; show (1 : Int) ≤ _ ∧ _ + (-1 : Int) ≤ 128; omega
  | call ht hk hl hn => have := hf hn; rw [ht] at hb ⊢; simp only [List.length_append, List.length_cons, List.length_nil] at this hb ⊢; show x + 1 ≤ _ ∧ _ + (1 - x) ≤ 128; omega
  | ret ht => rw [ht] at hb ⊢; simp only [List.length_append, List.length_cons, List.length_nil] at hb ⊢; show (2 : Int) ≤ _ ∧ _ + (-2 : Int) ≤ 128; omega
  | clo ht hk hq hd hn => have := hf hn; rw [ht] at hb ⊢; simp only [List.length_append, List.length_cons, List.length_nil] at this hb ⊢; show (0 : Int) ≤ _ ∧ _ + (1 : Int) ≤ 128; omega
  | close ht hk hn => rw [ht] at hb ⊢; dsimp only at hb ⊢; show (0 : Int) ≤ _ ∧ _ + (0 : Int) ≤ 128; omega
  | forC ht hk h0 h2 hz hn => rw [ht] at hb ⊢; dsimp only at hb ⊢; show (0 : Int) ≤ _ ∧ _ + (0 : Int) ≤ 128; omega
  | forT ht hk h0 h1 h2 hn => have := hf hn; rw [ht] at hb ⊢; simp only [List.length_append, List.length_cons, List.length_nil] at this hb ⊢; show (0 : Int) ≤ _ ∧ _ + (1 : Int) ≤ 128; omega
  | forN ht hk h1 h2 h3 hn => have := hf hn; rw [ht] at hb ⊢; simp only [List.length_append, List.length_cons, List.length_nil] at this hb ⊢; show (0 : Int) ≤ _ ∧ _ + (1 : Int) ≤ 128; omega
/-- One step: what is done. -/
theorem step_in {ty : Ty} (h : RunT c m ty) (hT : c.PT c.cl.p.toNat pc = ty) (hpc : c.f.pc = (pc : Nat) ∧ (pc : Int) < c.p.ncode) : ∃ op x, vstepL c.th m = stepE c.th c.fs.length c.p op x m ∧ (0 ≤ x ∧ x ≤ 65535) ∧ InsOk c.g c.p (c.PT c.cl.p.toNat) pc op x := by
  obtain ⟨t, ht, hR⟩ := h.run
  have hp := h.prOk
  have hsm := h.small ht
  obtain ⟨i, hi, hx, hI⟩ := hp.ins pc hpc.2
  have hcd := hp.cd
  have hsz := h.mi.ok.sz
  have hE := eff_ok hp hpc.2 hI
  have hfl := hR.fl
  have hsl := hR.sl
  rw [hT] at hE
  refine ⟨i.1, i.2, ?_, hx, hI⟩
  have hfr : t.frames.length - 1 = c.fs.length := by rw [hR.fr]; simp
  have hfr2 : t.frames.length = c.fs.length + 1 := by rw [hR.fr]; simp
  obtain ⟨p0, p1, p2⟩ := getI_lt' hR.pr
  have hn := h.mi.ok.n
  unfold vstepL getT
  rw [ht, bind1_some, if_pos (by omega), hfr, h.frame, bind1_some, hR.cl, bind1_some, if_pos (by omega), h.mi.pg, p2, bind1_some, hpc.1, if_pos (by omega), if_neg (by omega)]
  rw [getI_mk (l := c.g.code) (j := c.p.code + (pc : Int)) (by omega) (by rw [show (c.p.code + (pc : Int)).toNat = c.p.code.toNat + pc from by omega]; exact hi), bind1_some, if_pos hx, sound_ok h hT hx hI, bind1_some, if_pos rfl]
  unfold stepS
  have hb := hR.b
  have hnp := hp.np
  have hx26 : i.1 = 26 → i.2 ≤ 100 := fun q => by
    rw [q] at hI
    cases hI with
    | call ht hk hl hn => omega
    | lit ho _ _ => omega
    | una ho _ _ => omega
    | jk ho _ _ _ => omega
  have e : (t.stack.length : Int) - c.f.base - c.p.nslots = (ty.st.length : Int) := by rw [hb]; unfold Cx.O at hsl; omega
  rw [if_pos ⟨hx26, by omega, by omega, by omega⟩, e, if_neg (by omega), if_neg (by omega)]
end
end Go.Wl
