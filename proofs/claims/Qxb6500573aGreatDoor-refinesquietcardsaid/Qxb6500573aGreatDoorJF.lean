/- Plain: the compiler's object is at rest behind a compile. -/
import Derived.Test.Qxb6500573aGreatDoorJE
namespace Go.Wl
open Go Go.Sl Go.Proofs
set_option linter.unusedVariables false
def cOf (d : Nd) : V := if d.k = 15 then ⟨2, d.n, []⟩ else ⟨3, 0, d.s⟩
theorem consts_len {ns : List Nd} (h0 : ns[0]? = some nd0) (hn : ns.length ≤ 301) {f : Fs} (hk : KOk f) (hq : ∀ v, v ∈ f.consts → KS ns v) : f.consts.length ≤ 301 := by
  have hnd : f.consts.Nodup := by
    rw [List.nodup_iff_pairwise_ne, List.pairwise_iff_getElem]
    intro i j hi hj hij e
    obtain ⟨a1, a2⟩ := hk.kn i _ (List.getElem?_eq_getElem hi)
    obtain ⟨b1, b2⟩ := hk.kn j _ (List.getElem?_eq_getElem hj)
    rw [e] at a1 a2
    by_cases ht : (f.consts[j]).t = 2
    · have q1 := a1 ht
      have q2 := b1 ht
      rw [q1] at q2
      injection q2 with q2
      omega
    · have q1 := a2 ht
      have q2 := b2 ht
      rw [q1] at q2
      injection q2 with q2
      omega
  have hs := sub_len ((⟨2, 4607182418800017408, []⟩ : V) :: (ns.drop 1).map cOf) f.consts hnd (fun v hv => by
    rcases hq v hv with rfl | ⟨i, d, h1, h2, rfl⟩
    · exact List.mem_cons_self
    · refine List.mem_cons_of_mem _ (List.mem_map.2 ⟨d, ?_, rfl⟩)
      have hi : i ≠ 0 := fun q => by
        subst q
        rw [h0] at h1
        injection h1 with h1
        subst h1
        have : nd0.k = 0 := rfl
        omega
      obtain ⟨j, rfl⟩ : ∃ j, i = 1 + j := ⟨i - 1, by omega⟩
      exact List.mem_of_getElem? (by rw [List.getElem?_drop]; exact h1))
  have hl := lt_of h0
  simp only [List.length_cons, List.length_map, List.length_drop] at hs
  omega
section
variable {ns : List Nd} {L : List Fs} {s : CS}
theorem fn_c (h0 : ns[0]? = some nd0) (hn : ns.length ≤ 301) (hd : DN L 0 L.length) (hR : Rep s L) (hm : ∀ f, L[0]? = some f → f.nparams = 0 ∧ f.ups = []) {x : Nat} {f : Fs} (hf : L[x]? = some f) {E : Sco} (hE : x = 0 ↔ E = []) (hC : CovE ns L x E) : FnC s x f := by
  obtain ⟨p1, f', c1, c2, c3, c4, c5, c6, c7⟩ := hC
  rw [hf] at c1
  injection c1 with c1
  subst c1
  have hok := hd x f (Nat.zero_le _) (lt_of hf) hf
  have hnp := hok.np
  have hko := hok.ko
  have hxl := lt_of hf
  have hle := hR.le
  have hln := c2.ln
  obtain ⟨g, p, a1, a2, a3, a4, a5, a6, a7, hin⟩ := fn_ins hd hf
  -- each instruction as the compiler lays it
  have hip : ∀ (pc : Nat) i, f.code[pc]? = some i → IP L x i := fun pc i hi => by
    have hpc := lt_of hi
    by_cases h1 : pc < p1
    · obtain ⟨i', q1, q2⟩ := c3.2 pc (Nat.zero_le _) h1
      rw [insP_code hf, hi] at q1
      injection q1 with q1
      subst q1
      exact q2
    · have hc : pc = p1 ∨ pc = p1 + 1 ∨ pc = p1 + 2 := by omega
      rcases hc with rfl | rfl | rfl
      · rw [insP_code hf, hi] at c5
        injection c5 with c5
        subst c5
        exact .inl ⟨rfl, by decide⟩
      · rw [insP_code hf, hi] at c6
        injection c6 with c6
        subst c6
        exact .inl ⟨rfl, by decide⟩
      · rw [insP_code hf, hi] at c7
        injection c7 with c7
        subst c7
        exact .inl ⟨rfl, by decide⟩
  have hat : ∀ (y : Nat) g, L[y]? = some g → s.fs[y]? = some g ∧ g.live = true := fun y g hg => ⟨by rw [hR.tk y (lt_of hg)]; exact hg, hR.lv g (List.mem_of_getElem? hg)⟩
  refine ⟨hR.lv f (List.mem_of_getElem? hf), ⟨by omega, c2.lo.1.symm, by have := c2.lo.1; omega, by omega⟩, ⟨c2.nd.2, consts_len h0 hn hko c2.kq, by omega, by rw [c2.lo.2]; rfl⟩, ⟨fun q => ?_, fun q => ?_⟩, c2.nd.1, hko.kl, fun i v hv => ?_, fun pc i hi => ?_, fun pc i hi h28 => ?_, by omega, fun v hv => ?_, fun v hv => ?_, fun v hv => ?_⟩
  · subst q
    exact ⟨c2.pz (hE.1 rfl), (hm f hf).2⟩
  · cases E with
    | nil => exact absurd (hE.2 rfl) q
    | cons xL E' =>
      obtain ⟨b1, b2, g', b3, b4⟩ := c2.pa xL E' rfl
      obtain ⟨b5, b6⟩ := hat _ _ b3
      refine ⟨xL.1, g', b2, b5, b6, by omega, fun d hd' => ?_⟩
      obtain ⟨u1, u2, u3⟩ := hok.us d hd'
      obtain ⟨v1, v2⟩ := b4 d hd'
      exact ⟨u1, ⟨u2, u3⟩, v1, v2⟩
  · obtain ⟨k1, k2⟩ := hko.kn i v hv
    have hc := hko.cs v (List.mem_of_getElem? hv)
    refine ⟨k1, k2, ?_, ?_⟩
    · rcases hc with ⟨_, h2, _⟩ | ⟨_, _, h3⟩
      · rw [h2]; simp
      · exact h3
    · rcases hc with ⟨h1, _⟩ | ⟨h1, _⟩
      · exact .inl h1
      · exact .inr h1
  · obtain ⟨r1, r2⟩ := hin pc i hi
    have hI := hip pc i hi
    have hx0 : (0 : Int) ≤ (x : Int) := Int.natCast_nonneg _
    have hsl : i.1 = 29 → i.2 < f.nslots := fun q => by
      rcases hI with q1 | q1 | q1 | ⟨_, f2, w1, w2⟩ | ⟨q1, _⟩
      · omega
      · omega
      · omega
      · rw [hf] at w1
        injection w1 with w1
        subst w1
        exact w2
      · omega
    have h13 : i.1 = 13 → 1 ≤ i.2 ∧ i.2 ≤ 300 := fun q => by
      rcases hI with q1 | q1 | q1 | ⟨q1, _⟩ | ⟨q1, _⟩
      · omega
      · omega
      · omega
      · omega
      · omega
    have h28 : i.1 = 28 → (x : Int) < i.2 := fun q => by
      rcases hI with q1 | q1 | q1 | ⟨q1, _⟩ | ⟨_, q1, _⟩
      · omega
      · omega
      · omega
      · omega
      · exact q1
    have hz : ¬ i.2 = 0 → (i.1 = 1 ∨ i.1 = 5 ∨ i.1 = 6 ∨ i.1 = 7 ∨ i.1 = 8 ∨ i.1 = 9 ∨ i.1 = 10 ∨ i.1 = 15 ∨ i.1 = 16 ∨ i.1 = 21 ∨ i.1 = 22 ∨ i.1 = 23 ∨ i.1 = 24 ∨ i.1 = 26 ∨ i.1 = 30 ∨ i.1 = 31 ∨ i.1 = 32 ∨ i.1 = 13 ∨ i.1 = 29 ∨ i.1 = 28) := fun q => by
      rcases hI with q1 | q1 | q1 | ⟨q1, _⟩ | ⟨q1, _⟩
      · omega
      · omega
      · omega
      · omega
      · omega
    have k := r2.k
    have l := r2.l
    have t := r2.t
    have u := r2.u
    have j := r2.j
    have fc := r2.fc
    rw [a6] at k
    rw [a3] at l t
    rw [a4] at u
    rw [a7] at j
    rw [a2] at fc
    refine ⟨⟨r2.r, r1.1, r1.2⟩, k, fun q => ?_, fun q => ?_, u, r2.a, j, r2.c, h13, fun q => ?_, fun n1 n2 n3 n4 n5 n6 n7 n8 n9 n10 n11 n12 n13 n14 n15 n16 n17 n18 n19 n20 => ?_, t⟩
    · obtain ⟨v, w1, w2⟩ := r2.gg q
      rw [a1, a5, Int.zero_add] at w1
      exact ⟨v, w1, w2⟩
    · rcases q with q | q | q | q | q | q
      · exact l (.inl q)
      · exact l (.inr q)
      · have := t (.inl q); omega
      · have := t (.inr (.inl q)); omega
      · have := t (.inr (.inr q)); omega
      · exact hsl q
    · have := h28 q
      have := fc q
      rw [hR.np]
      omega
    · refine Decidable.byContradiction fun q => ?_
      have := hz q
      omega
  · rcases hip pc i hi with q1 | q1 | q1 | ⟨q1, _⟩ | ⟨_, q1, f2, w1, w2⟩
    · omega
    · omega
    · omega
    · omega
    · obtain ⟨b5, b6⟩ := hat _ _ w1
      exact ⟨q1, f2, b5, b6, w2⟩
  · rw [show f.code.length - 3 = p1 from by omega, ← insP_code hf, c5] at hv
    injection hv with hv
    subst hv
    rfl
  · rw [show f.code.length - 2 = p1 + 1 from by omega, ← insP_code hf, c6] at hv
    injection hv with hv
    subst hv
    rfl
  · rw [show f.code.length - 1 = p1 + 2 from by omega, ← insP_code hf, c7] at hv
    injection hv with hv
    subst hv
    rfl
theorem Mz_take : ∀ (L : List Fs) (x : Nat) (f : Fs), L[x]? = some f → Mz (L.take (x + 1)) = Mz (L.take x) + cost f
  | [], x, f, h => by cases h
  | g :: L, 0, f, h => by
    injection h with h
    subst h
    simp [Mz]
  | g :: L, x + 1, f, h => by
    have := Mz_take L x f h
    rw [List.take_succ_cons, List.take_succ_cons]
    unfold Mz
    omega
theorem Mz_le : ∀ (L : List Fs) (x : Nat), Mz (L.take x) ≤ Mz L
  | [], x => by simp
  | g :: L, 0 => by simp [Mz]
  | g :: L, x + 1 => by
    have := Mz_le L x
    rw [List.take_succ_cons]
    unfold Mz
    omega
theorem cbs_take : ∀ (l : List V) (i : Nat) (v : V), l[i]? = some v → cbs (l.take (i + 1)) = cbs (l.take i) + cb v
  | [], i, v, h => by cases h
  | g :: l, 0, v, h => by
    injection h with h
    subst h
    simp [cbs]
  | g :: l, i + 1, v, h => by
    have := cbs_take l i v h
    rw [List.take_succ_cons, List.take_succ_cons]
    unfold cbs
    omega
theorem cbs_le : ∀ (l : List V) (i : Nat), cbs (l.take i) ≤ cbs l
  | [], i => by simp
  | g :: l, 0 => by simp [cbs]
  | g :: l, i + 1 => by
    have := cbs_le l i
    rw [List.take_succ_cons]
    unfold cbs
    omega
def KKz (L : List Fs) (x i : Nat) : Int := match L[x]? with
  | some f => ((1 + Mz (L.take x) + (7 + 2 * f.ups.length + 3 * f.code.length + cbs (f.consts.take i)) : Nat) : Int)
  | none => 0
theorem KKz_eq {x : Nat} {f : Fs} (hf : L[x]? = some f) (i : Nat) : KKz L x i = ((1 + Mz (L.take x) + (7 + 2 * f.ups.length + 3 * f.code.length + cbs (f.consts.take i)) : Nat) : Int) := by
  unfold KKz
  rw [hf]
/-- The compiler's object behind a compile. -/
theorem crc_ok (h0 : ns[0]? = some nd0) {hi n al : Nat} {root : Int} (hl : ns.length = hi + 1) (hhi : hi ≤ 300) (h : Nn ns (.bl 0 false al) 0 hi root 0 n) (hd : DN L 0 L.length) (hln : L.length = n + 1) (hp : progS ns L root) (hM : Mz L ≤ 31000) (hm : ∀ f, L[0]? = some f → f.nparams = 0 ∧ f.ups = []) (hR : Rep s L) {toks : List Tok} {nodes : List Nd} : CrC ⟨toks, nodes, s, layM s⟩ := by
  have hcov := cov_each h0 hl hhi h hd hln hp
  have hle := hR.le
  have hnp := hR.np
  have htk : s.fs.take s.np.toNat = L := by
    rw [hR.np, Int.toNat_natCast]
    apply List.ext_getElem?
    intro i
    by_cases hi : i < L.length
    · rw [List.getElem?_take_of_lt hi]; exact hR.tk i hi
    · rw [List.getElem?_eq_none (by simp; omega), List.getElem?_eq_none (by omega)]
  have hoc : ∀ f, f ∈ L → ∀ v, v ∈ f.consts → okC v := fun f hf v hv => by
    obtain ⟨i, hi, e⟩ := List.mem_iff_getElem.1 hf
    exact (hd i f (Nat.zero_le _) hi (by rw [List.getElem?_eq_getElem hi, e])).ko.cs v hv
  have hlay : (layM s).length = 1 + Mz L := by
    unfold layM
    rw [htk, List.length_append, lays_len hoc]
    rfl
  have hget : ∀ (x : Nat) f, (x : Int) < s.np → s.fs[x]? = some f → L[x]? = some f := fun x f hx hf => by
    rw [← hR.tk x (by omega)]
    exact hf
  refine ⟨by dsimp only; omega, hR.len, by dsimp only; omega, fun x f hx hf => ?_, fun x => 1 + (Mz (L.take x) : Int), KKz L, ?_, ?_, fun x f hx hf => ?_⟩
  · have hf' := hget x f hx hf
    obtain ⟨E, e1, e2⟩ := hcov x (lt_of hf')
    exact fn_c h0 (by omega) hd hR hm hf' e1 e2
  · dsimp only
    rw [List.take_zero]
    show 1 + ((0 : Nat) : Int) = _
    split <;> omega
  · dsimp only
    rw [hnp, Int.toNat_natCast, List.take_length, hlay]
    omega
  · have hf' := hget x f hx hf
    dsimp only
    have w1 := Mz_take L x f hf'
    have w2 := Mz_le L x
    have w3 := Mz_ge hf'
    have w4 : cost f = 7 + 2 * f.ups.length + cbs f.consts + 3 * f.code.length := rfl
    refine ⟨?_, fun i v hv => ?_, ?_, by omega, by omega⟩
    · rw [KKz_eq hf', List.take_zero, show cbs ([] : List V) = 0 from rfl]
      omega
    · have w5 := cbs_take f.consts i v hv
      have w6 := cbs_le f.consts i
      rw [KKz_eq hf', KKz_eq hf']
      refine ⟨?_, by omega, by omega⟩
      have hc := hoc f (List.mem_of_getElem? hf') v (List.mem_of_getElem? hv)
      unfold cb at w5
      rcases hc with ⟨q1, q2, _⟩ | ⟨q1, _, _⟩
      · rw [if_pos q1] at w5
        rw [if_pos q1, q2]
        simp only [List.length_nil]
        omega
      · rw [if_neg (by omega)] at w5
        rw [if_neg (by omega)]
        omega
    · rw [KKz_eq hf', w1, List.take_length]
      omega
end
end Go.Wl
