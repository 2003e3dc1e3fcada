/- Plain: capturing, closures, upvalues. -/
import Derived.Test.Qxb6500573aGreatDoorCC
namespace Go.Wl
open Go Go.Sl Go.Proofs
set_option linter.unusedVariables false
/-- Where a new cell goes. -/
theorem capI_ok {cells : List Ce} {o : List Int} {at_ : Int} (ha : ∀ j, j ∈ o → ∃ e, getI cells j = some e) : ∀ n, n ≤ o.length → ∃ i, i ≤ n ∧ capI cells o at_ n = some i ∧ (∀ j, i ≤ j → j < n → ∀ x e, o[j]? = some x → getI cells x = some e → at_ < e.at_) ∧ (∀ j, j + 1 = i → ∀ x e, o[j]? = some x → getI cells x = some e → e.at_ ≤ at_)
  | 0, _ => ⟨0, Nat.le_refl _, rfl, fun j _ h => by omega, fun j h => by omega⟩
  | n + 1, hn => by
    have hl : n < o.length := by omega
    obtain ⟨e, he⟩ := ha o[n] (List.getElem_mem hl)
    unfold capI
    rw [List.getElem?_eq_getElem hl, bind1_some, he, bind1_some]
    by_cases h : at_ < e.at_
    · rw [if_pos h]
      obtain ⟨i, h1, h2, h3, h4⟩ := capI_ok ha n (by omega)
      refine ⟨i, by omega, h2, fun j hj hj2 x a hx hxa => ?_, h4⟩
      by_cases hjn : j = n
      · subst hjn
        rw [List.getElem?_eq_getElem hl] at hx
        injection hx with hx
        subst hx
        rw [he] at hxa
        injection hxa with hxa
        subst hxa
        exact h
      · exact h3 j hj (by omega) x a hx hxa
    · rw [if_neg h]
      refine ⟨n + 1, Nat.le_refl _, rfl, fun j hj hj2 => by omega, fun j hj x a hx hxa => ?_⟩
      have : j = n := by omega
      subst this
      rw [List.getElem?_eq_getElem hl] at hx
      injection hx with hx
      subst hx
      rw [he] at hxa
      injection hxa with hxa
      subst hxa
      omega
section
variable {c : Cx} {m : VM} {ty : Ty} {k : Nat}
theorem RunX.frame (h : RunX c k m ty) : getF m c.th c.fs.length = some c.f := by
  obtain ⟨t, ht, hR⟩ := h.run
  unfold getF getT
  rw [ht, bind1_some, hR.fr, List.getElem?_append_right (Nat.le_refl _)]
  simp
theorem RunX.upAdd (h : RunX c k m ty) {j : Int} (hj : 0 ≤ j ∧ j < m.vs.cells.length) : RunX c (k + 1) { m with vs := { m.vs with upix := m.vs.upix ++ [j] } } ty := by
  obtain ⟨t, ht, hR⟩ := h.run
  refine ⟨⟨h.mi.ok, h.mi.pg, h.mi.tb, h.mi.tn, h.mi.cn, fun i cl hc => ?_, fun u hu => ?_, ?_, h.mi.ce, h.mi.hn, h.mi.fu, h.mi.ou, h.mi.en, h.mi.cx, ?_, h.mi.fn⟩, ⟨t, ht, ⟨hR.st, hR.fr, hR.fl, hR.sl, hR.ch, hR.cl, hR.pr, hR.b, hR.rt, hR.sz, hR.zl, hR.ns, hR.no, hR.op, hR.vv⟩⟩, fun u t2 hu h2 => h.oth u t2 hu h2⟩
  · obtain ⟨p, h1, h2, h3, h4⟩ := h.mi.cl i cl hc
    exact ⟨p, h1, h2, h3, by simp; omega⟩
  · rcases List.mem_append.1 hu with hu | hu
    · exact h.mi.ux u hu
    · rw [List.mem_singleton] at hu; subst hu; exact hj
  · have := h.mi.ul
    simp
    omega
  · obtain ⟨W, w1, w2, w3⟩ := h.mi.ct
    exact ⟨W, w1, by simp; omega, w3⟩
theorem RunX.capNew (h : RunX c k m ty) (hk : k ≤ 255) {t : Th} (ht : m.vs.threads[c.th]? = some t) {s : Nat} (hs : ty.z[s]? = some 0) {i : Nat} (hi : i ≤ t.opn.length)
    (hlo : ∀ j, j < i → ∀ x e, t.opn[j]? = some x → getI m.vs.cells x = some e → e.at_ < ((c.B + s : Nat) : Int)) (hhi : ∀ j, i ≤ j → ∀ x e, t.opn[j]? = some x → getI m.vs.cells x = some e → ((c.B + s : Nat) : Int) < e.at_) :
    RunX c (k + 1) (setTh { m with vs := { m.vs with cells := m.vs.cells ++ [⟨c.th, ((c.B + s : Nat) : Int), V.nil⟩], upix := m.vs.upix ++ [(m.vs.cells.length : Int)] } } c.th { t with opn := t.opn.take i ++ [(m.vs.cells.length : Int)] ++ t.opn.drop i }) ty := by
  obtain ⟨t', ht', hR⟩ := h.run
  rw [ht] at ht'
  injection ht' with ht'
  subst ht'
  have hul := h.mi.ul
  have hcn := h.mi.cn
  obtain ⟨o1, o2, o3⟩ := hR.op
  have hbig : m.vs.cells.length < 1000000000 := by omega
  have ht0 : ({ m with vs := { m.vs with cells := m.vs.cells ++ [⟨c.th, ((c.B + s : Nat) : Int), V.nil⟩], upix := m.vs.upix ++ [(m.vs.cells.length : Int)] } } : VM).vs.threads[c.th]? = some t := ht
  have hnew : getI (m.vs.cells ++ [⟨c.th, ((c.B + s : Nat) : Int), V.nil⟩]) (m.vs.cells.length : Int) = some ⟨c.th, ((c.B + s : Nat) : Int), V.nil⟩ := getI_nat (by rw [List.getElem?_append_right (Nat.le_refl _)]; simp) hbig
  have hE : ∀ v, VVm m v → VVm (setTh { m with vs := { m.vs with cells := m.vs.cells ++ [⟨c.th, ((c.B + s : Nat) : Int), V.nil⟩], upix := m.vs.upix ++ [(m.vs.cells.length : Int)] } } c.th { t with opn := t.opn.take i ++ [(m.vs.cells.length : Int)] ++ t.opn.drop i }) v := fun v hv => by
    unfold VVm; rw [setTh_len]; exact hv
  have hsub : ∀ j, j ∈ t.opn → j ∈ t.opn.take i ++ [(m.vs.cells.length : Int)] ++ t.opn.drop i := fun j hj => by
    rw [← List.take_append_drop i t.opn] at hj
    rcases List.mem_append.1 hj with q | q
    · simp [q]
    · simp [q]
  have hsl := (List.getElem?_eq_some_iff.1 hs).1
  have hzl := hR.zl
  have hnp := (h.mi.ok.pr _ _ (by
    obtain ⟨_, _, _, hi, hx⟩ := getI_some hR.pr
    exact List.getElem?_eq_some_iff.2 ⟨hi, hx⟩)).np
  refine ⟨⟨h.mi.ok, h.mi.pg, by rw [setTh_len]; exact h.mi.tb, h.mi.tn, h.mi.cn, fun i cl hc => ?_, fun u hu => ?_, ?_, fun j e he => ?_, by rw [setTh_len]; exact h.mi.hn, h.mi.fu, h.mi.ou, h.mi.en, fun j e he => ?_, ?_, fun u t2 h2 => ?_⟩, ⟨_, setTh_at ht0, ?_⟩, fun u t2 hu h2 => ?_⟩
  · obtain ⟨p, h1, h2, h3, h4⟩ := h.mi.cl i cl hc
    refine ⟨p, h1, h2, h3, ?_⟩
    show _ ≤ ((m.vs.upix ++ [(m.vs.cells.length : Int)]).length : Int)
    simp
    omega
  · show 0 ≤ u ∧ u < ((m.vs.cells ++ [_]).length : Int)
    have hu' : u ∈ m.vs.upix ++ [(m.vs.cells.length : Int)] := hu
    rw [List.length_append, List.length_singleton]
    rcases List.mem_append.1 hu' with hu | hu
    · have := h.mi.ux u hu
      omega
    · rw [List.mem_singleton] at hu
      omega
  · show (m.vs.upix ++ [_]).length ≤ 255 * m.vs.clos.length + (k + 1) ∧ (m.vs.cells ++ [_]).length ≤ (m.vs.upix ++ [_]).length
    simp
    omega
  · have he' : (m.vs.cells ++ [⟨c.th, ((c.B + s : Nat) : Int), V.nil⟩])[j]? = some e := he
    by_cases hj : j < m.vs.cells.length
    · rw [List.getElem?_append_left hj] at he'
      obtain ⟨q1, q2⟩ := h.mi.ce j e he'
      refine ⟨fun h0 => ?_, fun h0 => hE _ (q2 h0)⟩
      obtain ⟨t1, p1, p2⟩ := q1 h0
      by_cases hq : e.th.toNat = c.th
      · rw [hq] at p1 ⊢
        rw [ht] at p1
        injection p1 with p1
        subst p1
        exact ⟨_, setTh_at ht0, hsub _ p2⟩
      · exact ⟨t1, by rw [setTh_ne hq]; exact p1, p2⟩
    · have hjl := (List.getElem?_eq_some_iff.1 he').1
      rw [List.length_append, List.length_singleton] at hjl
      have : j = m.vs.cells.length := by omega
      subst this
      rw [List.getElem?_append_right (Nat.le_refl _), Nat.sub_self] at he'
      injection he' with he'
      subst he'
      refine ⟨fun _ => ?_, fun q => by dsimp only at q; omega⟩
      dsimp only
      rw [Int.toNat_natCast]
      exact ⟨_, setTh_at ht0, by simp⟩
  · have he' : (m.vs.cells ++ [⟨c.th, ((c.B + s : Nat) : Int), V.nil⟩])[j]? = some e := he
    by_cases hj : j < m.vs.cells.length
    · rw [List.getElem?_append_left hj] at he'
      exact h.mi.cx j e he'
    · have hjl := (List.getElem?_eq_some_iff.1 he').1
      rw [List.length_append, List.length_singleton] at hjl
      have : j = m.vs.cells.length := by omega
      subst this
      rw [List.getElem?_append_right (Nat.le_refl _), Nat.sub_self] at he'
      injection he' with he'
      subst he'
      exact ⟨fun _ => rfl, fun q => by dsimp only at q; omega⟩
  · obtain ⟨W, w1, w2, w3⟩ := h.mi.ct
    refine ⟨W, w1, ?_, w3⟩
    show W m.vs.clos.length + ((k + 1 : Nat) : Int) = ((m.vs.upix ++ [(m.vs.cells.length : Int)]).length : Int)
    simp
    omega
  · by_cases hu : u = c.th
    · subst hu
      rw [setTh_at ht0] at h2
      injection h2 with h2
      subst h2
      exact h.mi.fn c.th t ht
    · rw [setTh_ne hu] at h2
      exact h.mi.fn _ _ h2
  · refine ⟨hR.st, hR.fr, hR.fl, hR.sl, hR.ch, hR.cl, hR.pr, hR.b, hR.rt, hR.sz, hR.zl, hR.ns, hR.no, ⟨fun j hj => ?_, ?_, ?_⟩, fun v hv => hE v (hR.vv v hv)⟩
    · have hj' : j ∈ t.opn.take i ++ [(m.vs.cells.length : Int)] ++ t.opn.drop i := hj
      by_cases hjo : j ∈ t.opn
      · obtain ⟨e, q1, q2, q3⟩ := o1 j hjo
        exact ⟨e, getI_app q1 _, q2, q3⟩
      · have : j = (m.vs.cells.length : Int) := by
          rcases List.mem_append.1 hj' with q | q
          · rcases List.mem_append.1 q with q | q
            · exact absurd (List.mem_of_mem_take q) hjo
            · simpa using q
          · exact absurd (List.mem_of_mem_drop q) hjo
        subst this
        exact ⟨_, hnew, rfl, .inl ⟨s, hs, by omega, rfl⟩⟩
    · show (t.opn.take i ++ [(m.vs.cells.length : Int)] ++ t.opn.drop i).Pairwise _
      have hold : t.opn.Pairwise fun i j => ∀ a b, getI (m.vs.cells ++ [⟨c.th, ((c.B + s : Nat) : Int), V.nil⟩]) i = some a → getI (m.vs.cells ++ [⟨c.th, ((c.B + s : Nat) : Int), V.nil⟩]) j = some b → a.at_ < b.at_ := by
        refine o2.imp_of_mem fun {x y} hx hy hxy a b ha hb => ?_
        obtain ⟨e1, q1, _⟩ := o1 x hx
        obtain ⟨e2, q2, _⟩ := o1 y hy
        have p1 := getI_app q1 [⟨c.th, ((c.B + s : Nat) : Int), V.nil⟩]
        have p2 := getI_app q2 [⟨c.th, ((c.B + s : Nat) : Int), V.nil⟩]
        rw [ha] at p1
        rw [hb] at p2
        injection p1 with p1
        injection p2 with p2
        subst p1 p2
        exact hxy _ _ q1 q2
      have hlo' : ∀ x, x ∈ t.opn.take i → ∀ a, getI (m.vs.cells ++ [⟨c.th, ((c.B + s : Nat) : Int), V.nil⟩]) x = some a → a.at_ < ((c.B + s : Nat) : Int) := fun x hx a ha => by
        obtain ⟨j, hj, hxj⟩ := List.getElem_of_mem hx
        have hj2 : j < i ∧ j < t.opn.length := by rw [List.length_take] at hj; omega
        obtain ⟨e1, q1, _⟩ := o1 x (List.mem_of_mem_take hx)
        have p1 := getI_app q1 [⟨c.th, ((c.B + s : Nat) : Int), V.nil⟩]
        rw [ha] at p1
        injection p1 with p1
        subst p1
        refine hlo j hj2.1 x a ?_ q1
        rw [List.getElem?_eq_getElem hj2.2]
        rw [List.getElem_take] at hxj
        rw [hxj]
      have hhi' : ∀ x, x ∈ t.opn.drop i → ∀ a, getI (m.vs.cells ++ [⟨c.th, ((c.B + s : Nat) : Int), V.nil⟩]) x = some a → ((c.B + s : Nat) : Int) < a.at_ := fun x hx a ha => by
        obtain ⟨j, hj, hxj⟩ := List.getElem_of_mem hx
        have hj2 : i + j < t.opn.length := by rw [List.length_drop] at hj; omega
        obtain ⟨e1, q1, _⟩ := o1 x (List.mem_of_mem_drop hx)
        have p1 := getI_app q1 [⟨c.th, ((c.B + s : Nat) : Int), V.nil⟩]
        rw [ha] at p1
        injection p1 with p1
        subst p1
        refine hhi (i + j) (by omega) x a ?_ q1
        rw [List.getElem?_eq_getElem hj2]
        rw [List.getElem_drop] at hxj
        rw [hxj]
      have hsp : (t.opn.take i ++ t.opn.drop i).Pairwise fun i j => ∀ a b, getI (m.vs.cells ++ [⟨c.th, ((c.B + s : Nat) : Int), V.nil⟩]) i = some a → getI (m.vs.cells ++ [⟨c.th, ((c.B + s : Nat) : Int), V.nil⟩]) j = some b → a.at_ < b.at_ := by rw [List.take_append_drop]; exact hold
      rw [List.pairwise_append] at hsp
      obtain ⟨s1, s2, s3⟩ := hsp
      rw [List.append_assoc, List.pairwise_append]
      refine ⟨s1, ?_, fun x hx y hy a b ha hb => ?_⟩
      · rw [List.singleton_append, List.pairwise_cons]
        refine ⟨fun y hy a b ha hb => ?_, s2⟩
        have ha' : getI (m.vs.cells ++ [⟨c.th, ((c.B + s : Nat) : Int), V.nil⟩]) (m.vs.cells.length : Int) = some a := ha
        rw [hnew] at ha'
        injection ha' with ha'
        subst ha'
        exact hhi' y hy b hb
      · rcases List.mem_append.1 hy with hy | hy
        · rw [List.mem_singleton] at hy
          subst hy
          have hb' : getI (m.vs.cells ++ [⟨c.th, ((c.B + s : Nat) : Int), V.nil⟩]) (m.vs.cells.length : Int) = some b := hb
          rw [hnew] at hb'
          injection hb' with hb'
          subst hb'
          exact hlo' x hx a ha
        · exact s3 x hx y hy a b ha hb
    · show (t.opn.take i ++ [(m.vs.cells.length : Int)] ++ t.opn.drop i).length ≤ (m.vs.cells ++ [_]).length
      simp only [List.length_append, List.length_take, List.length_drop, List.length_singleton]
      omega
  · rw [setTh_ne hu] at h2
    exact (h.oth u t2 hu h2).mono h.mi.ok (Nat.le_refl _) (Nat.le_refl _) (by rw [setTh_len]; exact Nat.le_refl _) (fun _ _ h => h) (fun j e _ he => getI_app he _) (by show _ ≤ (m.vs.cells ++ [_]).length; simp)
/-- A variable's cell, and its number behind the upvalues' list. -/
theorem RunX.capUp (h : RunX c k m ty) (hk : k ≤ 255) {s : Nat} (hs : ty.z[s]? = some 0) : ∃ j m', captureM c.th ((c.B + s : Nat) : Int) m = some (j, m') ∧ RunX c (k + 1) { m' with vs := { m'.vs with upix := m'.vs.upix ++ [j] } } ty ∧ m'.vs.upix = m.vs.upix ∧ m'.vs.clos = m.vs.clos ∧ m'.vs.fuel = m.vs.fuel ∧ m'.vs.out = m.vs.out := by
  obtain ⟨t, ht, hR⟩ := h.run
  have hb := h.stkB ht
  obtain ⟨o1, o2, o3⟩ := hR.op
  have hcl : m.vs.cells.length < 1000000 := by
    have h1 := h.mi.ul
    have h2 := h.mi.cn
    omega
  obtain ⟨i, h1, h2, h3, h4⟩ := capI_ok (cells := m.vs.cells) (o := t.opn) (at_ := ((c.B + s : Nat) : Int)) (fun j hj => (o1 j hj).imp fun e he => he.1) t.opn.length (Nat.le_refl _)
  have hnew : ∀ i, i ≤ t.opn.length → Go.Wl.capNew c.th ((c.B + s : Nat) : Int) i t m = some ((m.vs.cells.length : Int), setTh { m with vs := { m.vs with cells := m.vs.cells ++ [⟨c.th, ((c.B + s : Nat) : Int), V.nil⟩] } } c.th { t with opn := t.opn.take i ++ [(m.vs.cells.length : Int)] ++ t.opn.drop i }) := fun i _ => by
    unfold Go.Wl.capNew
    rw [if_pos hcl]
  unfold captureM getT
  rw [ht, bind1_some, if_pos (by omega), h2, bind1_some]
  have hhi : ∀ j, i ≤ j → ∀ x e, t.opn[j]? = some x → getI m.vs.cells x = some e → ((c.B + s : Nat) : Int) < e.at_ := fun j hj x e hx => h3 j hj (List.getElem?_eq_some_iff.1 hx).1 x e hx
  cases i with
  | zero =>
    dsimp only
    rw [hnew 0 (Nat.zero_le _)]
    exact ⟨_, _, rfl, h.capNew hk ht hs (Nat.zero_le _) (fun j hj => by omega) hhi, rfl, rfl, rfl, rfl⟩
  | succ n =>
    dsimp only
    have hl : n < t.opn.length := by omega
    obtain ⟨e, he, hth, hz⟩ := o1 t.opn[n] (List.getElem_mem hl)
    have hle := h4 n rfl t.opn[n] e (List.getElem?_eq_getElem hl) he
    rw [List.getElem?_eq_getElem hl, bind1_some, he, bind1_some]
    by_cases heq : e.at_ = ((c.B + s : Nat) : Int)
    · rw [if_pos heq]
      obtain ⟨q1, q2, q3⟩ := getI_lt' he
      exact ⟨_, _, rfl, h.upAdd ⟨q1, q2⟩, rfl, rfl, rfl, rfl⟩
    · rw [if_neg heq, hnew (n + 1) (by omega)]
      refine ⟨_, _, rfl, h.capNew hk ht hs (by omega) (fun j hj x a hx hxa => ?_) hhi, rfl, rfl, rfl, rfl⟩
      by_cases hjn : j = n
      · subst hjn
        rw [List.getElem?_eq_getElem hl] at hx
        injection hx with hx
        subst hx
        rw [he] at hxa
        injection hxa with hxa
        subst hxa
        omega
      · obtain ⟨hjl, hje⟩ := List.getElem?_eq_some_iff.1 hx
        have := List.pairwise_iff_getElem.1 o2 j n hjl hl (by omega) a e (by rw [hje]; exact hxa) he
        omega
theorem RunX.ups : ∀ (ds : List (Int × Int)) {k : Nat} {m : VM}, RunX c k m ty → (∀ d, d ∈ ds → descOk c.p ty.z d ∧ d.2 ≤ 255) → k + ds.length ≤ 255 →
    ∃ m', upsM c.th c.fs.length ds m = some m' ∧ RunX c (k + ds.length) m' ty ∧ m'.vs.upix.length = m.vs.upix.length + ds.length ∧ m'.vs.clos = m.vs.clos ∧ m'.vs.fuel = m.vs.fuel ∧ m'.vs.out = m.vs.out
  | [], k, m, h, _, _ => ⟨m, rfl, h, rfl, rfl, rfl, rfl⟩
  | d :: ds, k, m, h, hd, hk => by
    obtain ⟨t, ht, hR⟩ := h.run
    have hb := h.stkB ht
    have hsl := hR.sl
    have hul := h.mi.ul
    have hcn := h.mi.cn
    obtain ⟨hd1, hd2⟩ := hd d List.mem_cons_self
    rw [List.length_cons] at hk
    unfold upsM
    rw [h.frame, bind1_some]
    rcases hd1 with ⟨e1, e2, e3⟩ | ⟨e1, e2, e3⟩
    · rw [if_pos e1, if_pos (by rw [hR.b]; unfold Cx.O at hsl; omega)]
      have e : c.f.base + d.2 = ((c.B + d.2.toNat : Nat) : Int) := by rw [hR.b]; omega
      obtain ⟨j, m1, g1, g2, g3, g4, g5, g6⟩ := h.capUp (by omega) e3
      rw [e, g1, bind2_some, if_pos (by rw [g3]; omega)]
      obtain ⟨m2, q1, q2, q3, q4, q5, q6⟩ := RunX.ups ds g2 (fun d hd' => hd d (List.mem_cons_of_mem _ hd')) (by omega)
      refine ⟨m2, q1, by rw [List.length_cons, show k + (ds.length + 1) = k + 1 + ds.length from by omega]; exact q2, ?_, q4.trans g4, q5.trans g5, q6.trans g6⟩
      rw [q3]
      simp [g3]
      omega
    · rw [if_neg (by omega), hR.cl, bind1_some]
      obtain ⟨_, _, hcl⟩ := getI_lt' hR.cl
      obtain ⟨p, p1, p2, p3, p4⟩ := h.mi.cl _ _ hcl
      rw [hR.pr] at p1
      injection p1 with p1
      subst p1
      have hnp := (h.mi.ok.pr _ _ (getI_lt' hR.pr).2.2).up
      have hi : (c.cl.up + d.2).toNat < m.vs.upix.length := by omega
      rw [if_pos (by omega), getI_mk (by omega) (List.getElem?_eq_getElem hi), bind1_some, if_pos (by omega)]
      have hu := h.mi.ux _ (List.getElem_mem hi)
      obtain ⟨m2, q1, q2, q3, q4, q5, q6⟩ := RunX.ups ds (h.upAdd hu) (fun d hd' => hd d (List.mem_cons_of_mem _ hd')) (by omega)
      refine ⟨m2, q1, by rw [List.length_cons, show k + (ds.length + 1) = k + 1 + ds.length from by omega]; exact q2, ?_, q4, q5, q6⟩
      rw [q3]
      simp
      omega
/-- One closure more. -/
theorem RunX.cloAdd (h : RunX c k m ty) (hk : k ≤ 255) {cl : Cl} (hl : m.vs.clos.length < 24) {p : Pr} (hp : getI c.g.protos cl.p = some p) (hn : cl.nup = p.nup) (hu : 0 ≤ cl.up ∧ cl.up + cl.nup ≤ m.vs.upix.length) (hk2 : cl.nup = k) (hu2 : cl.up + k = m.vs.upix.length) : RunT c { m with vs := { m.vs with clos := m.vs.clos ++ [cl] } } ty := by
  obtain ⟨t, ht, hR⟩ := h.run
  have hl2 : m.vs.clos.length ≤ (m.vs.clos ++ [cl]).length := by simp
  have hm : ∀ i x, getI m.vs.clos i = some x → getI (m.vs.clos ++ [cl]) i = some x := fun i x hx => getI_app hx _
  have hE : ∀ v, VVm m v → VVm { m with vs := { m.vs with clos := m.vs.clos ++ [cl] } } v := fun v hv => hv.mono (Nat.le_refl _) hl2 (Nat.le_refl _)
  refine ⟨⟨h.mi.ok, h.mi.pg, fun t ht => (h.mi.tb t ht).mono (Nat.le_refl _) hl2 (Nat.le_refl _), h.mi.tn, by simp; omega, fun i cl' hc => ?_, h.mi.ux, ?_, fun j e he => ⟨(h.mi.ce j e he).1, fun h0 => hE _ ((h.mi.ce j e he).2 h0)⟩, h.mi.hn, h.mi.fu, h.mi.ou, h.mi.en, h.mi.cx, ?_, fun u t2 h2 => ⟨(h.mi.fn u t2 h2).1, by have := (h.mi.fn u t2 h2).2; show t2.fn < ((m.vs.clos ++ [cl]).length : Int); simp; omega⟩⟩, ⟨t, ht, ?_⟩, fun u t2 hu h2 => ?_⟩
  · by_cases hi : i < m.vs.clos.length
    · have hc' : (m.vs.clos ++ [cl])[i]? = some cl' := hc
      rw [List.getElem?_append_left hi] at hc'
      exact h.mi.cl i cl' hc'
    · have hc' : (m.vs.clos ++ [cl])[i]? = some cl' := hc
      have hil := (List.getElem?_eq_some_iff.1 hc').1
      rw [List.length_append, List.length_singleton] at hil
      have : i = m.vs.clos.length := by omega
      subst this
      rw [List.getElem?_append_right (Nat.le_refl _), Nat.sub_self] at hc'
      injection hc' with hc'
      subst hc'
      exact ⟨p, hp, hn, hu.1, hu.2⟩
  · have := h.mi.ul
    simp
    omega
  · obtain ⟨W, w1, w2, w3⟩ := h.mi.ct
    refine ⟨fun j => if j ≤ m.vs.clos.length then W j else (m.vs.upix.length : Int), by dsimp only; rw [if_pos (Nat.zero_le _)]; exact w1, ?_, fun j c' hc => ?_⟩
    · show (if (m.vs.clos ++ [cl]).length ≤ m.vs.clos.length then W (m.vs.clos ++ [cl]).length else (m.vs.upix.length : Int)) + ((0 : Nat) : Int) = m.vs.upix.length
      rw [if_neg (by simp)]
      simp
    · dsimp only
      have hc' : (m.vs.clos ++ [cl])[j]? = some c' := hc
      by_cases hi : j < m.vs.clos.length
      · rw [List.getElem?_append_left hi] at hc'
        rw [if_pos (by omega), if_pos (by omega)]
        exact w3 j c' hc'
      · have hil := (List.getElem?_eq_some_iff.1 hc').1
        rw [List.length_append, List.length_singleton] at hil
        have : j = m.vs.clos.length := by omega
        subst this
        rw [List.getElem?_append_right (Nat.le_refl _), Nat.sub_self] at hc'
        injection hc' with hc'
        subst hc'
        rw [if_pos (Nat.le_refl _), if_neg (by omega)]
        omega
  · exact ⟨hR.st, hR.fr, hR.fl, hR.sl, hR.ch.congr h.mi.ok rfl hm hR.ch.len, hm _ _ hR.cl, hR.pr, hR.b, ⟨hR.rt.1, hR.rt.2.1, hR.rt.2.2.1, hR.rt.2.2.2.mono hm⟩, hR.sz, hR.zl, hR.ns, hR.no, hR.op.mono (fun _ _ _ h => h) (Nat.le_refl _) (fun q hq => hq.imp id fun hq => hq.mono hm), fun v hv => hE v (hR.vv v hv)⟩
  · exact (h.oth u t2 hu h2).mono h.mi.ok (Nat.le_refl _) hl2 (Nat.le_refl _) hm (fun _ _ _ h => h) (Nat.le_refl _)
theorem RunT.closure (h : RunT c m ty) {x : Int} {q : Pr} (hx : 0 ≤ x ∧ x < c.g.protos.length) (hq : c.g.protos[x.toNat]? = some q) (hd : ∀ d, d ∈ (c.g.descs.drop q.up.toNat).take q.nup.toNat → descOk c.p ty.z d) :
    Tot c (closureM c.th c.fs.length x m) (fun j m' => RunT c m' ty ∧ (0 ≤ j ∧ j < m'.vs.clos.length) ∧ m'.vs.fuel = m.vs.fuel ∧ m'.vs.out = m.vs.out) := by
  unfold closureM
  by_cases h24 : 24 ≤ m.vs.clos.length
  · rw [if_pos h24]
    exact Tot.trp h (.inl rfl)
  rw [if_neg h24]
  have hqo := h.mi.ok.pr _ _ hq
  have hn := h.mi.ok.n
  have hgx : getI c.g.protos x = some q := getI_mk (by omega) hq
  have hup := hqo.up
  have hsz := h.mi.ok.sz
  rw [h.mi.pg, hgx, bind1_some]
  have hw : window c.g.descs q.up q.nup = some ((c.g.descs.drop q.up.toNat).take q.nup.toNat) := by
    unfold window
    rw [if_pos (by omega)]
  have hdl : ((c.g.descs.drop q.up.toNat).take q.nup.toNat).length = q.nup.toNat := by
    rw [List.length_take, List.length_drop]; omega
  rw [hw, bind1_some]
  obtain ⟨m', g1, g2, g3, g4, g5, g6⟩ := RunX.ups ((c.g.descs.drop q.up.toNat).take q.nup.toNat) h (fun d hd' => ⟨hd d hd', ((h.mi.ok.ds d (List.mem_of_mem_drop (List.mem_of_mem_take hd'))).2).2⟩) (by rw [hdl]; omega)
  rw [g1, bind1_some, if_pos (by rw [g4]; omega)]
  have hul := h.mi.ul
  refine Tot.ok ⟨g2.cloAdd (by rw [hdl]; omega) (by rw [g4]; omega) (cl := ⟨x, m.vs.upix.length, q.nup⟩) hgx rfl ⟨by simp, by rw [g3, hdl]; dsimp only; omega⟩ (by rw [hdl]; dsimp only; omega) (by rw [g3, hdl]; dsimp only; omega), ?_, g5, g6⟩
  show 0 ≤ (m'.vs.clos.length : Int) ∧ (m'.vs.clos.length : Int) < ((m'.vs.clos ++ [_]).length : Int)
  simp
  omega
theorem RunT.cell (h : RunT c m ty) {x : Int} (hx : 0 ≤ x ∧ x < c.p.nup) : ∃ j e, cellOf c.th c.fs.length x m = some (j, e) ∧ getI m.vs.cells j = some e := by
  obtain ⟨t, ht, hR⟩ := h.run
  have hul := h.mi.ul
  have hcn := h.mi.cn
  obtain ⟨_, _, hcl⟩ := getI_lt' hR.cl
  obtain ⟨p, p1, p2, p3, p4⟩ := h.mi.cl _ _ hcl
  rw [hR.pr] at p1
  injection p1 with p1
  subst p1
  have hi : (c.cl.up + x).toNat < m.vs.upix.length := by omega
  have hu := h.mi.ux _ (List.getElem_mem hi)
  have hj : m.vs.upix[(c.cl.up + x).toNat].toNat < m.vs.cells.length := by omega
  have he : getI m.vs.cells m.vs.upix[(c.cl.up + x).toNat] = some m.vs.cells[m.vs.upix[(c.cl.up + x).toNat].toNat] := getI_mk (by omega) (List.getElem?_eq_getElem hj)
  refine ⟨_, _, ?_, he⟩
  unfold cellOf
  rw [h.frame, bind1_some, hR.cl, bind1_some, getI_mk (by omega) (List.getElem?_eq_getElem hi), bind1_some, if_pos (by omega), he, bind1_some]
/-- The stack's place of an open cell. -/
theorem RunT.openAt (h : RunT c m ty) {j : Int} {e : Ce} (he : getI m.vs.cells j = some e) (h0 : 0 ≤ e.th) : ∃ t, m.vs.threads[e.th.toNat]? = some t ∧ e.th < 5 ∧ (0 ≤ e.at_ ∧ e.at_ < t.stack.length) ∧ t.stack.length ≤ 2300 ∧ (∀ v, v ∈ t.stack → VVm m v) ∧
    ((e.th = c.th ∧ c.Z m.vs.clos ty.z e.at_) ∨ (e.th ≠ c.th ∧ ThW c.g c.PT m e.th.toNat t ∧ (t.st = 2 ∨ t.st = 3) ∧ (1 ≤ t.frames.length ∧ t.frames.length ≤ 8) ∧ Chain c.g c.PT m.vs.clos t.stack t.frames t.stack.length ∧ OpnOk m.vs.cells e.th.toNat t.opn (ZeroAt c.g c.PT m.vs.clos t.frames) ∧ ZeroAt c.g c.PT m.vs.clos t.frames e.at_)) := by
  obtain ⟨j0, j1, je⟩ := getI_lt' he
  obtain ⟨t, ht, hj⟩ := (h.mi.ce _ _ je).1 h0
  rw [Int.toNat_of_nonneg j0] at hj
  have hth := (List.getElem?_eq_some_iff.1 ht).1
  have hhn := h.mi.hn
  obtain ⟨tr, htr, hR⟩ := h.run
  by_cases hq : e.th.toNat = c.th
  · rw [hq] at ht
    rw [htr] at ht
    injection ht with ht
    subst ht
    obtain ⟨e', q1, q2, q3⟩ := hR.op.at_ j hj
    rw [he] at q1
    injection q1 with q1
    subst q1
    exact ⟨tr, by rw [hq]; exact htr, by omega, RunX.zlt h htr q3, (RunX.stkB h htr).1, hR.vv, .inl ⟨by omega, q3⟩⟩
  · have hW := h.oth _ t hq ht
    have hW0 := hW
    rcases hW with ⟨_, _, _, q, _⟩ | ⟨a1, a2, a3, a4, a5⟩ | ⟨_, _, _, q⟩
    · rw [q] at hj; cases hj
    · obtain ⟨e', q1, q2, q3⟩ := a4.at_ j hj
      rw [he] at q1
      injection q1 with q1
      subst q1
      have hz := a3.zero_lt h.mi.ok q3
      have hb := a3.bound h.mi.ok
      exact ⟨t, ht, by omega, hz, by omega, a5, .inr ⟨by omega, hW0, a1, a2, a3, a4, q3⟩⟩
    · rw [q] at hj; cases hj
theorem RunT.getUp (h : RunT c m ty) {x : Int} (hx : 0 ≤ x ∧ x < c.p.nup) : ∃ v, getUpM c.th c.fs.length x m = some v ∧ VVm m v := by
  obtain ⟨j, e, h1, h2⟩ := h.cell hx
  unfold getUpM
  rw [h1, bind2_some]
  by_cases h0 : 0 ≤ e.th
  · rw [if_pos h0]
    obtain ⟨t, g1, g2, g3, g4, g5, _⟩ := h.openAt h2 h0
    have hi : e.at_.toNat < t.stack.length := by omega
    rw [getI_mk (by omega) g1, bind1_some]
    exact ⟨_, getI_mk (by omega) (List.getElem?_eq_getElem hi), g5 _ (List.getElem_mem hi)⟩
  · rw [if_neg h0]
    obtain ⟨j0, j1, je⟩ := getI_lt' h2
    exact ⟨_, rfl, (h.mi.ce _ _ je).2 (by omega)⟩
theorem RunT.setUp (h : RunT c m ty) {x : Int} (hx : 0 ≤ x ∧ x < c.p.nup) {v : V} (hv : VVm m v) : ∃ m', setUpM c.th c.fs.length x v m = some m' ∧ RunT c m' ty ∧ m'.vs.fuel = m.vs.fuel ∧ m'.vs.out = m.vs.out := by
  obtain ⟨j, e, h1, h2⟩ := h.cell hx
  unfold setUpM
  rw [h1, bind2_some]
  by_cases h0 : 0 ≤ e.th
  · rw [if_pos h0]
    obtain ⟨t, g1, g2, g3, g4, g5, g6⟩ := h.openAt h2 h0
    have hi : e.at_.toNat < t.stack.length := by omega
    rw [getI_mk (by omega) g1, bind1_some, getI_mk (by omega) (List.getElem?_eq_getElem hi), bind1_some]
    refine ⟨_, rfl, ?_, rfl, rfl⟩
    have hvs : ∀ w, w ∈ t.stack.set e.at_.toNat v → VVm m w := fun w hw => by
      rcases List.mem_or_eq_of_mem_set hw with hw | hw
      · exact g5 w hw
      · subst hw; exact hv
    rcases g6 with ⟨q1, q2⟩ | ⟨q1, q2, q3, q4, q5, q6, q7⟩
    · obtain ⟨tr, htr, hR⟩ := h.run
      have hth : e.th.toNat = c.th := by omega
      rw [hth] at g1 ⊢
      rw [htr] at g1
      injection g1 with g1
      subst g1
      have hE := Eqs.set m c.th { tr with stack := tr.stack.set e.at_.toNat v }
      have hsl := hR.sl
      have hzl := hR.zl
      unfold Cx.O at hsl
      rcases q2 with ⟨s, p1, p2, p3⟩ | p
      · have hs := (List.getElem?_eq_some_iff.1 p1).1
        have hae : e.at_.toNat = c.B + s := by omega
        rw [hae]
        refine h.stk htr (by simp; unfold Cx.O; omega) (by rw [List.take_set_of_le (by omega)]) (by rw [← hae]; exact hvs) (fun s2 hs2 => ?_) (fun j hj => ?_) (fun s hs => hs) hR.sz hR.zl
        · have : s2 ≠ s := fun q => by subst q; rw [p1] at hs2; cases hs2
          rw [List.getElem?_set_ne (by omega)]; exact hR.ns s2 hs2
        · unfold Cx.O
          rw [List.getElem?_set_ne (by omega)]
          exact hR.no j hj
      · have hlt := hR.ch.zero_lt h.mi.ok p
        have hrt := hR.rt
        refine ⟨h.mi.set htr rfl rfl, ⟨_, setTh_at htr, ?_⟩, fun u t2 hu h2' => ?_⟩
        · refine ⟨hR.st, hR.fr, hR.fl, by simpa using hR.sl, hR.ch.poke h.mi.ok (by rw [Int.toNat_of_nonneg (by omega)]; exact p) v, hR.cl, hR.pr, hR.b, hR.rt, hR.sz, hR.zl, fun s hs => ?_, fun j hj => ?_, hR.op, fun w hw => hE.vv (hvs w hw)⟩
          · dsimp only
            rw [List.getElem?_set_ne (by omega)]; exact hR.ns s hs
          · dsimp only
            have hO : c.O = c.B + c.p.nslots.toNat := rfl
            rw [List.getElem?_set_ne (by omega)]; exact hR.no j hj
        · rw [setTh_ne hu] at h2'
          exact (h.oth u t2 hu h2').eqs h.mi.ok hE
    · have hth : e.th.toNat ≠ c.th := by omega
      obtain ⟨tr, htr, hR⟩ := h.run
      have hE := Eqs.set m e.th.toNat { t with stack := t.stack.set e.at_.toNat v }
      refine ⟨h.mi.set g1 rfl rfl, ⟨tr, by rw [setTh_ne (Ne.symm hth)]; exact htr, ?_⟩, fun u t2 hu h2' => ?_⟩
      · exact ⟨hR.st, hR.fr, hR.fl, hR.sl, hR.ch, hR.cl, hR.pr, hR.b, hR.rt, hR.sz, hR.zl, hR.ns, hR.no, hR.op, fun w hw => hE.vv (hR.vv w hw)⟩
      · by_cases hue : u = e.th.toNat
        · subst hue
          rw [setTh_at g1] at h2'
          injection h2' with h2'
          subst h2'
          have hch := q5.poke h.mi.ok (q := e.at_.toNat) (by rw [Int.toNat_of_nonneg (by omega)]; exact q7) v
          exact .inr (.inl ⟨q3, q4, by dsimp only; rw [List.length_set]; exact hch, q6, fun w hw => hE.vv (hvs w hw)⟩)
        · rw [setTh_ne hue] at h2'
          exact (h.oth u t2 hu h2').eqs h.mi.ok hE
  · rw [if_neg h0]
    refine ⟨_, rfl, ?_, rfl, rfl⟩
    obtain ⟨j0, j1, je⟩ := getI_lt' h2
    obtain ⟨tr, htr, hR⟩ := h.run
    have hkeep : ∀ (u : Nat) (i : Int) (a : Ce), getI m.vs.cells i = some a → a.th = (u : Int) → getI (m.vs.cells.set j.toNat { e with v := v }) i = some a := fun u i a ha hau => by
      rw [← ha]
      obtain ⟨i0, _, _⟩ := getI_lt' ha
      have hne : i ≠ j := fun q => by
        subst q
        rw [h2] at ha
        injection ha with ha
        subst ha
        omega
      exact getI_congr fun _ => by rw [List.getElem?_set_ne (by omega)]
    refine ⟨⟨h.mi.ok, h.mi.pg, h.mi.tb, h.mi.tn, h.mi.cn, h.mi.cl, ?_, ?_, fun i a ha => ?_, h.mi.hn, h.mi.fu, h.mi.ou, h.mi.en, fun i a ha => ?_, h.mi.ct, h.mi.fn⟩, ⟨tr, htr, ⟨hR.st, hR.fr, hR.fl, hR.sl, hR.ch, hR.cl, hR.pr, hR.b, hR.rt, hR.sz, hR.zl, hR.ns, hR.no, ?_, hR.vv⟩⟩, fun u t2 hu h2' => ?_⟩
    · show ∀ u, u ∈ m.vs.upix → 0 ≤ u ∧ u < ((m.vs.cells.set j.toNat { e with v := v }).length : Int)
      rw [List.length_set]; exact h.mi.ux
    · show _ ∧ (m.vs.cells.set j.toNat { e with v := v }).length ≤ _
      rw [List.length_set]; exact h.mi.ul
    · have ha' : (m.vs.cells.set j.toNat { e with v := v })[i]? = some a := ha
      by_cases hi : i = j.toNat
      · subst hi
        rw [List.getElem?_set_self (by omega)] at ha'
        injection ha' with ha'
        subst ha'
        exact ⟨fun q => absurd q h0, fun _ => hv⟩
      · rw [List.getElem?_set_ne (Ne.symm hi)] at ha'
        exact h.mi.ce i a ha'
    · have ha' : (m.vs.cells.set j.toNat { e with v := v })[i]? = some a := ha
      by_cases hi : i = j.toNat
      · subst hi
        rw [List.getElem?_set_self (by omega)] at ha'
        injection ha' with ha'
        subst ha'
        exact ⟨fun q => absurd q h0, (h.mi.cx _ _ je).2⟩
      · rw [List.getElem?_set_ne (Ne.symm hi)] at ha'
        exact h.mi.cx i a ha'
    · refine hR.op.mono (fun i a hi ha => ?_) (by simp) fun q hq => hq
      obtain ⟨a', q1, q2, _⟩ := hR.op.at_ i hi
      rw [ha] at q1
      injection q1 with q1
      subst q1
      exact hkeep c.th i a ha q2
    · refine (h.oth u t2 hu h2').mono h.mi.ok (Nat.le_refl _) (Nat.le_refl _) (Nat.le_refl _) (fun _ _ h => h) (fun i a hi ha => ?_) (by simp)
      rcases h.oth u t2 hu h2' with ⟨_, _, _, q, _⟩ | ⟨_, _, _, q, _⟩ | ⟨_, _, _, q⟩
      · rw [q] at hi; cases hi
      · obtain ⟨a', q1, q2, _⟩ := q.at_ i hi
        rw [ha] at q1
        injection q1 with q1
        subst q1
        exact hkeep u i a ha q2
      · rw [q] at hi; cases hi
end
end Go.Wl
