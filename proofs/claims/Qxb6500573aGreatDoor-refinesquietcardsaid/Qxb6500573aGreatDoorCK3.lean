/- Plain: package table: what a check wants. -/
import Derived.Test.Qxb6500573aGreatDoorWChkE
namespace Go.Sl
open Go
theorem ResB {P : Program} {ρ : Env} {H : Hp} {fn : Func} {t : Nat} {T : TypeId} {b : Nat} {y : Value} (h : fn.results = #[.cell t T]) (hv : look ρ t = some (.pointer (some ⟨b, 0, none⟩))) (ha : ∀ w, (isAgg T).run P w = .ok false w) (hc : Cell H b 0 y) : Res P fn ρ H y := fun _ _ a _ _ w hf ho hs => by
  have h7 := hc.at ho hs
  have h2 := hf.getD hv
  simp only [Array.getD_eq_getD_getElem?] at h2
  simp [results, h, h2, asAddr, loadVar, ha, h7]
end Go.Sl
namespace Go.Nm
open Go Go.Sl Go.Wl Go.Proofs
set_option linter.unusedVariables false
/-- The places that are marked bear keys of D. -/
def Sn (t : Tb) (D : V → Prop) (s : List Bool) : Prop := s.length = 32 ∧ ∀ (p : Nat) k, (ky t)[p]? = some k → s.getD p false = true → D k
theorem Sn.free {t : Tb} {D : V → Prop} {s : List Bool} (h : Sn t D s) {p : Nat} {k : V} (hk : (ky t)[p]? = some k) (hD : ¬ D k) : s.getD p false = false := by
  cases hs : s.getD p false with
  | false => rfl
  | true => exact absurd (h.2 p k hk hs) hD
theorem Sn.put {t : Tb} {D D' : V → Prop} {s : List Bool} (h : Sn t D s) {p : Nat} {k : V} (hk : (ky t)[p]? = some k) (hD : ∀ k, D k → D' k) (hk' : D' k) : Sn t D' (s.set p true) := by
  refine ⟨by rw [List.length_set]; exact h.1, fun p' k' hp' hs => ?_⟩
  by_cases e : p' = p
  · subst e
    rw [hk] at hp'
    injection hp' with hp'
    subst hp'
    exact hk'
  · refine hD k' (h.2 p' k' hp' ?_)
    rw [List.getD_eq_getElem?_getD] at hs ⊢
    rw [List.getElem?_set_ne (fun q => e q.symm)] at hs
    exact hs
theorem Sn.mono {t : Tb} {D D' : V → Prop} {s : List Bool} (h : Sn t D s) (hD : ∀ k, D k → D' k) : Sn t D' s := ⟨h.1, fun p k h1 h2 => hD k (h.2 p k h1 h2)⟩
def D1 (i : Nat) (k : V) : Prop := ∃ i', i' < i ∧ k = numK (i' + 1)
def D2 (n : Nat) (d : List (Int × Int)) (k : V) : Prop := D1 n k ∨ ∃ e, e ∈ d ∧ k = ⟨2, e.1, []⟩
def D3 (d : List (List UInt8 × Int)) (k : V) : Prop := k.t = 2 ∨ ∃ e, e ∈ d ∧ k = ⟨3, 0, e.1⟩
def D4 (d : List (Int × Int)) (k : V) : Prop := k.t = 2 ∨ k.t = 3 ∨ ∃ e, e ∈ d ∧ packM k = e.1
def nilN (t : Tb) (i : Nat) : Int := (((t.order.take i).filter fun e => isNilV e.2).length : Nat)
theorem nilN_step {t : Tb} {i : Nat} {e : V × V} (h : t.order[i]? = some e) : nilN t (i + 1) = nilN t i + (if isNilV e.2 = true then 1 else 0) := by
  unfold nilN
  rw [List.take_add_one, h, List.filter_append, List.length_append]
  cases hn : isNilV e.2 <;> simp [hn]
theorem nilN_bd (t : Tb) (i : Nat) : 0 ≤ nilN t i ∧ nilN t i ≤ t.order.length := by
  unfold nilN
  have h1 := List.length_filter_le (fun e : V × V => isNilV e.2) (t.order.take i)
  have h2 := List.length_take_le i t.order
  have h3 : (t.order.take i).length ≤ t.order.length := by rw [List.length_take]; omega
  omega
theorem nilN_all (t : Tb) : nilN t t.order.length = ((t.order.filter fun e => isNilV e.2).length : Nat) := by
  unfold nilN
  rw [List.take_of_length_le (Nat.le_refl _)]
section
variable {t : Tb} (hX : TbX t)
include hX
theorem TbX.le : t.order.length ≤ 32 ∧ t.arr.length ≤ 32 ∧ t.nums.length ≤ 32 ∧ t.strs.length ≤ 32 ∧ t.refs.length ≤ 32 ∧ (t.arr.length : Int) + t.nums.length + t.strs.length + t.refs.length = t.order.length := by
  have h1 := hX.ix.le
  have h2 := hX.ix.ln
  unfold ky at h1 h2
  rw [List.length_map] at h1 h2
  omega
theorem TbX.arr1 {i : Nat} {q : Int} (h : t.arr[i]? = some q) : ∃ p : Nat, q = p ∧ (ky t)[p]? = some (numK (i + 1)) ∧ ¬ D1 i (numK (i + 1)) := by
  obtain ⟨p, h1, h2⟩ := hX.ix.aa i q h
  refine ⟨p, h1, h2, fun ⟨i', h3, h4⟩ => ?_⟩
  have hl := (List.getElem?_eq_some_iff.1 h).1
  have := hX.le
  have e1 := toInt_numN (n := i + 1) (by omega)
  have e2 := toInt_numN (n := i' + 1) (by omega)
  rw [h4, e2] at e1
  injection e1 with e1
  injection e1 with e1 _
  omega
theorem TbX.num1 (hN : NNr t.order) {d rest : List (Int × Int)} {j : Nat} (hp : (d ++ rest).Perm t.nums) (hj : j < rest.length) : ∃ p : Nat, rest[j].2 = p ∧ (ky t)[p]? = some ⟨2, rest[j].1, []⟩ ∧ ¬ D2 t.arr.length d ⟨2, rest[j].1, []⟩ ∧ (∃ x : Nat, rest[j].1 = x ∧ x ≠ 9223372036854775808 ∧ cmpM 2 x x = false ∧ ∃ i w, toIntM x = some (i, w) ∧ (w = true → ¬ (1 ≤ i ∧ i ≤ t.arr.length))) := by
  have hm : rest[j] ∈ t.nums := hp.mem_iff.1 (List.mem_append_right _ (List.getElem_mem hj))
  obtain ⟨⟨p, e1, e2⟩, e3⟩ := hX.ix.nn rest[j].1 rest[j].2 hm
  have hk := hX.ix.kk _ (List.mem_of_getElem? e2)
  have hnu := hk.nu rfl
  dsimp only at hnu
  refine ⟨p, e1, e2, ?_, rest[j].1.toNat, by omega, by omega, ?_, ?_⟩
  · rintro (⟨i', h1, h2⟩ | ⟨e, h1, h2⟩)
    · have := hX.le
      have e4 := toInt_numN (n := i' + 1) (by omega)
      rw [← h2] at e4
      exact e3 _ e4 ⟨by omega, by omega⟩
    · injection h2 with _ h2 _
      have hn : ((d ++ rest).map (·.1)).Nodup := (hp.map _).nodup_iff.2 hX.ix.n1
      rw [List.map_append, List.nodup_append] at hn
      exact hn.2.2 _ (List.mem_map.2 ⟨e, h1, rfl⟩) _ (List.mem_map.2 ⟨rest[j], List.getElem_mem hj, rfl⟩) h2.symm
  · have h9 : (t.order.map (·.1))[p]? = some ⟨2, rest[j].1, []⟩ := e2
    rw [List.getElem?_map] at h9
    obtain ⟨e, w1, w2⟩ := Option.map_eq_some_iff.1 h9
    have := hN e (List.mem_of_getElem? w1) (by rw [w2])
    rw [w2] at this
    exact this
  · obtain ⟨⟨i, w⟩, hr⟩ := toInt_all (x := rest[j].1.toNat) (by omega)
    refine ⟨i, w, hr, fun hw => ?_⟩
    subst hw
    exact e3 i hr
theorem TbX.str1 {d rest : List (List UInt8 × Int)} {j : Nat} (hp : (d ++ rest).Perm t.strs) (hj : j < rest.length) : ∃ p : Nat, rest[j].2 = p ∧ (ky t)[p]? = some ⟨3, 0, rest[j].1⟩ ∧ ¬ D3 d ⟨3, 0, rest[j].1⟩ := by
  have hm : rest[j] ∈ t.strs := hp.mem_iff.1 (List.mem_append_right _ (List.getElem_mem hj))
  obtain ⟨p, e1, e2⟩ := hX.ix.ss rest[j].1 rest[j].2 hm
  refine ⟨p, e1, e2, ?_⟩
  rintro (h | ⟨e, h1, h2⟩)
  · exact absurd (show (3 : Int) = 2 from h) (by decide)
  · injection h2 with _ _ h2
    have hn : ((d ++ rest).map (·.1)).Nodup := (hp.map _).nodup_iff.2 hX.ix.n2
    rw [List.map_append, List.nodup_append] at hn
    exact hn.2.2 _ (List.mem_map.2 ⟨e, h1, rfl⟩) _ (List.mem_map.2 ⟨rest[j], List.getElem_mem hj, rfl⟩) h2.symm
theorem TbX.ref1 {d rest : List (Int × Int)} {j : Nat} (hp : (d ++ rest).Perm t.refs) (hj : j < rest.length) : ∃ p u : Nat, rest[j].2 = p ∧ rest[j].1 = u ∧ u < 18446744073709551616 ∧ (ky t)[p]? = some ⟨((u / 4294967296 : Nat) : Int), ((u % 4294967296 : Nat) : Int), []⟩ ∧ ¬ D4 d ⟨((u / 4294967296 : Nat) : Int), ((u % 4294967296 : Nat) : Int), []⟩ ∧ (u / 4294967296 ≠ 0 ∧ u / 4294967296 ≠ 2 ∧ u / 4294967296 ≠ 3) ∧ packM ⟨((u / 4294967296 : Nat) : Int), ((u % 4294967296 : Nat) : Int), []⟩ = rest[j].1 := by
  have hm : rest[j] ∈ t.refs := hp.mem_iff.1 (List.mem_append_right _ (List.getElem_mem hj))
  obtain ⟨p, k, e1, e2, e3, e4, e5⟩ := hX.ix.rr rest[j].1 rest[j].2 hm
  have hk := hX.ix.kk _ (List.mem_of_getElem? e2)
  obtain ⟨r1, r2, r3⟩ := ref_rng hk e3 e4
  have hnn := hk.nn
  obtain ⟨kt, hkt⟩ : ∃ kt : Nat, k.t = kt := ⟨k.t.toNat, by omega⟩
  obtain ⟨kn, hkn⟩ : ∃ kn : Nat, k.n = kn := ⟨k.n.toNat, by omega⟩
  have hkk : k = ⟨(kt : Int), (kn : Int), []⟩ := by
    obtain ⟨a, b, c⟩ := k
    dsimp only at hkt hkn r2
    rw [hkt, hkn, r2]
  have hpv : packM k = ((kt * 4294967296 + kn : Nat) : Int) := by
    rw [hkk]
    exact pack_val (by omega) (by omega)
  rw [hpv] at e5
  have d1 : (kt * 4294967296 + kn) / 4294967296 = kt := by omega
  have d2 : (kt * 4294967296 + kn) % 4294967296 = kn := by omega
  refine ⟨p, kt * 4294967296 + kn, e1, e5.symm, by omega, ?_, ?_, ?_, ?_⟩
  · rw [d1, d2, ← hkk]; exact e2
  · rw [d1, d2, ← hkk]
    rintro (h | h | ⟨e, h1, h2⟩)
    · exact e3 h
    · exact e4 h
    · have hn : ((d ++ rest).map (·.1)).Nodup := (hp.map _).nodup_iff.2 hX.ix.n3
      rw [List.map_append, List.nodup_append] at hn
      exact hn.2.2 _ (List.mem_map.2 ⟨e, h1, rfl⟩) _ (List.mem_map.2 ⟨rest[j], List.getElem_mem hj, rfl⟩) (by rw [← h2, hpv, e5])
  · rw [d1]
    omega
  · rw [d1, d2, ← hkk, hpv, e5]
end
end Go.Nm
