/- Loading is sound; the plain facts together. -/
import Derived.Test.Qxb6500572aGreatDoorPValL
import Derived.Test.Qxb6500572aGreatDoorPSafeI
import Derived.Test.Qxb6500572aGreatDoorWLawF
namespace Go.Wl
open Go Go.Sl
set_option linter.unusedVariables false
def SR (a b : List Fun) : Prop := ∀ (k : Nat) (f : Fun), a[k]? = some f → ∃ f', b[k]? = some f' ∧ f'.params = f.params ∧ f'.results = f.results ∧ f'.locals = f.locals
theorem SR.refl (a : List Fun) : SR a a := fun k f h => ⟨f, h, rfl, rfl, rfl⟩
theorem SR.trans {a b c : List Fun} (h : SR a b) (g : SR b c) : SR a c := fun k f hf => by
  obtain ⟨f1, h1, h2, h3, h4⟩ := h k f hf
  obtain ⟨f2, g1, g2, g3, g4⟩ := g k f1 h1
  exact ⟨f2, g1, g2.trans h2, g3.trans h3, g4.trans h4⟩
theorem SR.set {fs : List Fun} {f : Nat} {u : Fun} (hu : fs[f]? = some u) (code : List Flat) : SR fs (fs.set f { u with code := code }) ∧ SR (fs.set f { u with code := code }) fs := by
  have hl := (List.getElem?_eq_some_iff.1 hu).1
  constructor
  · intro k x hx
    by_cases e : f = k
    · subst e; rw [hu] at hx; cases hx
      exact ⟨_, List.getElem?_set_self hl, rfl, rfl, rfl⟩
    · exact ⟨x, by rw [List.getElem?_set_ne e]; exact hx, rfl, rfl, rfl⟩
  · intro k x hx
    by_cases e : f = k
    · subst e; rw [List.getElem?_set_self hl] at hx; cases hx
      exact ⟨u, hu, rfl, rfl, rfl⟩
    · rw [List.getElem?_set_ne e] at hx; exact ⟨x, hx, rfl, rfl, rfl⟩
theorem bodies_len (m : Mod) : ∀ (n : Nat) (fs : List Fun) (f : Nat), (bodies m n fs f).1.length = fs.length
  | 0, fs, f => rfl
  | n + 1, fs, f => by
    unfold bodies
    split
    · split
      · rfl
      · rw [bodies_len m n]; simp
    · rfl
theorem bodies_sr (m : Mod) : ∀ (n : Nat) (fs : List Fun) (f : Nat), SR fs (bodies m n fs f).1 ∧ SR (bodies m n fs f).1 fs
  | 0, fs, f => ⟨SR.refl _, SR.refl _⟩
  | n + 1, fs, f => by
    unfold bodies
    split
    · rename_i u hu
      split
      · exact ⟨SR.refl _, SR.refl _⟩
      · have h1 := SR.set hu (runOne fs u (codeOf m f) (Chk.start u) 0).1.code
        have h2 := bodies_sr m n (fs.set f { u with code := (runOne fs u (codeOf m f) (Chk.start u) 0).1.code }) (f + 1)
        exact ⟨h1.1.trans h2.1, h2.2.trans h1.2⟩
    · exact ⟨SR.refl _, SR.refl _⟩
theorem bodies_low (m : Mod) : ∀ (n : Nat) (fs : List Fun) (f k : Nat), k < f → (bodies m n fs f).1[k]? = fs[k]?
  | 0, fs, f, k, _ => rfl
  | n + 1, fs, f, k, h => by
    unfold bodies
    split
    · split
      · rfl
      · rw [bodies_low m n _ _ k (by omega), List.getElem?_set_ne (by omega)]
    · rfl
/-- What a body must meet. -/
structure BodyOk (cs : List Ins) : Prop where
  n : nest cs [] = 0
  l : cs.length ≤ 24
  i : ∀ c, c ∈ cs → i64ok c.op ∧ i64ok c.imm
theorem bodies_flow (m : Mod) (P : Prog) : ∀ (n : Nat) (fs : List Fun) (f : Nat), (bodies m n fs f).2.2.2 = 0 → SR fs P.funs → (∀ u, u ∈ fs → ty2 u.params ∧ ty2 u.results ∧ ty2 u.locals ∧ u.results.length ≤ 1) → (∀ k, f ≤ k → k < f + n → BodyOk (codeOf m k)) → f + n ≤ fs.length →
    ∀ (k : Nat) (u' : Fun), f ≤ k → k < f + n → (bodies m n fs f).1[k]? = some u' → (∃ T', Flow P u' T') ∧ u'.code.length ≤ 1000 ∧ ∀ x, x ∈ u'.code → fok x
  | 0, fs, f, _, _, _, _, _, k, u', h1, h2, _ => by omega
  | n + 1, fs, f, he, hs, ht, hb, hl, k, u', h1, h2, hk => by
    unfold bodies at he hk
    have hg : fs[f]? = some fs[f] := List.getElem?_eq_getElem (by omega)
    rw [hg] at he hk
    dsimp only at he hk
    obtain ⟨t1, t2, t3, t4⟩ := ht _ (List.getElem_mem (show f < fs.length by omega))
    split at he
    · rename_i hne; exact absurd he hne
    · rename_i hne
      rw [if_neg hne] at hk
      have hne' : (runOne fs fs[f] (codeOf m f) (Chk.start fs[f]) 0).2.2 = 0 := by simpa using hne
      have hsr := SR.set hg (runOne fs fs[f] (codeOf m f) (Chk.start fs[f]) 0).1.code
      by_cases e : k = f
      · subst e
        rw [bodies_low m n _ _ k (by omega), List.getElem?_set_self (by omega)] at hk
        cases hk
        have hbk := hb k (Nat.le_refl _) (by omega)
        have hE : Env1 P fs fs[k] := ⟨fun j x hx => by obtain ⟨x', q1, q2, q3, _⟩ := hs j x hx; exact ⟨x', q1, q2, q3⟩, fun x hx => ⟨(ht x hx).1, (ht x hx).2.1, (ht x hx).2.2.2⟩, t1, t3, t2, t4⟩
        obtain ⟨⟨T', q, _⟩, r⟩ := run_flow (i := 0) (VI.start ⟨t4, t2⟩) (CI.start _ t4) (FB.start _ t4) hE hbk.n (by have := hbk.l; omega) hbk.i hne'
        exact ⟨⟨T', q⟩, r⟩
      · refine bodies_flow m P n _ (f + 1) he (hsr.2.trans hs) (fun u hu => ?_) (fun j hj1 hj2 => hb j (by omega) (by omega)) (by rw [List.length_set]; omega) k u' (by omega) (by omega) hk
        rcases List.mem_or_eq_of_mem_set hu with hu | rfl
        · exact ht u hu
        · exact ⟨t1, t2, t3, t4⟩
theorem reads_all (m : Mod) : ∀ (n : Nat) (acc : List Fun) (f : Nat), (reads m n acc f).2 = none → (reads m n acc f).1.length = acc.length + n ∧ (∀ u, u ∈ (reads m n acc f).1 → u ∈ acc ∨ ∃ k, u = funAt m k)
  | 0, acc, f, _ => ⟨rfl, fun u hu => .inl hu⟩
  | n + 1, acc, f, h => by
    unfold reads at h ⊢
    split at h
    · cases h
    · rename_i hn
      rw [if_neg hn]
      obtain ⟨h1, h2⟩ := reads_all m n _ _ h
      refine ⟨by rw [h1]; simp; omega, fun u hu => ?_⟩
      rcases h2 u hu with hu | hu
      · rcases List.mem_append.1 hu with hu | hu
        · exact .inl hu
        · simp at hu; exact .inr ⟨f, hu⟩
      · exact .inr hu
theorem ty2_types {l : List UInt8} (h : types l = true) : ty2 l := fun t ht => by
  have := List.all_eq_true.1 h t ht
  unfold isTy at this
  simpa using this
theorem funAt_ok {m : Mod} (ok : ModOk m) (k : Nat) : (funAt m k).params.length ≤ 3 ∧ (funAt m k).results.length ≤ 1 ∧ (funAt m k).locals.length ≤ 4 ∧ ty2 (funAt m k).params ∧ ty2 (funAt m k).results ∧ ty2 (funAt m k).locals ∧ (funAt m k).code = [] := by
  have hn : ∀ {p : List UInt8}, p = [] → ty2 p := fun h t ht => by rw [h] at ht; simp at ht
  have hp : (m.type (tyAt m k)).1.length ≤ 3 ∧ ty2 (m.type (tyAt m k)).1 ∧ (m.type (tyAt m k)).2.length ≤ 1 ∧ ty2 (m.type (tyAt m k)).2 := by
    unfold Mod.type
    split
    · exact ⟨by simp, hn rfl, by simp, hn rfl⟩
    · rename_i hr
      have h1 : (tyAt m k).toNat < m.params.length := by omega
      have h2 : (tyAt m k).toNat < m.results.length := by rw [ok.rl]; exact h1
      have e1 : m.params.getD (tyAt m k).toNat [] = m.params[(tyAt m k).toNat] := by rw [List.getD_eq_getElem?_getD, List.getElem?_eq_getElem h1]; rfl
      have e2 : m.results.getD (tyAt m k).toNat [] = m.results[(tyAt m k).toNat] := by rw [List.getD_eq_getElem?_getD, List.getElem?_eq_getElem h2]; rfl
      dsimp only
      rw [e1, e2]
      have q1 := ok.ps _ (List.getElem_mem h1)
      have q2 := ok.rs _ (List.getElem_mem h2)
      exact ⟨q1.1, ty2_types q1.2, q2.1, ty2_types q2.2⟩
  have hlo : (if k < m.imports.length then [] else (m.func ((k : Int) - m.imports.length)).2.1).length ≤ 4 ∧ ty2 (if k < m.imports.length then [] else (m.func ((k : Int) - m.imports.length)).2.1) := by
    split
    · exact ⟨by simp, hn rfl⟩
    · unfold Mod.func
      split
      · exact ⟨by simp, hn rfl⟩
      · split
        · rename_i f hf
          have q := ok.fn f (List.mem_of_getElem? hf)
          exact ⟨q.2.2.1, ty2_types q.2.2.2.1⟩
        · exact ⟨by simp, hn rfl⟩
  exact ⟨hp.1, hp.2.2.1, hlo.1, hp.2.1, hp.2.2.2, hlo.2, rfl⟩
theorem load_ok (m : Mod) (ok : ModOk m) (hi : ModI m) (he : (loadM m).2.2.2 = 0) : TOk (loadM m).1 (mem0 m) := by
  have hmem := ok.mem
  refine ⟨?_, ⟨⟨?_, ?_⟩, ?_⟩⟩
  · unfold loadM at he ⊢
    dsimp only at he ⊢
    cases hr : (reads m (m.imports.length + m.funcs.length) [] 0).2 with
    | some f => rw [hr] at he; cases he
    | none =>
      rw [hr] at he
      dsimp only at he ⊢
      obtain ⟨r1, r2⟩ := reads_all m _ _ _ hr
      obtain ⟨fs, hfs⟩ : ∃ fs, (reads m (m.imports.length + m.funcs.length) [] 0).1 = fs := ⟨_, rfl⟩
      rw [hfs] at he r1 r2 ⊢
      have hni := ok.ni
      have hnf := ok.nf
      have hlen := bodies_len m m.funcs.length fs m.imports.length
      have hsr := bodies_sr m m.funcs.length fs m.imports.length
      have hlow := bodies_low m m.funcs.length fs m.imports.length
      obtain ⟨P, hP⟩ : ∃ P : Prog, (⟨m.imports.length, m.min, m.max, (bodies m m.funcs.length fs m.imports.length).1⟩ : Prog) = P := ⟨_, rfl⟩
      have hPf : P.funs = (bodies m m.funcs.length fs m.imports.length).1 := by rw [← hP]
      have hPn : P.nimp = m.imports.length := by rw [← hP]
      have hfa : ∀ u, u ∈ fs → ∃ k, u = funAt m k := fun u hu => (r2 u hu).resolve_left (by simp)
      have hok : ∀ u, u ∈ fs → u.params.length ≤ 3 ∧ u.results.length ≤ 1 ∧ u.locals.length ≤ 4 ∧ ty2 u.params ∧ ty2 u.results ∧ ty2 u.locals ∧ u.code = [] := fun u hu => by
        obtain ⟨k, rfl⟩ := hfa u hu; exact funAt_ok ok k
      have hbo : ∀ k, m.imports.length ≤ k → k < m.imports.length + m.funcs.length → BodyOk (codeOf m k) := fun k h1 h2 => by
        have hl : k - m.imports.length < m.funcs.length := by omega
        unfold codeOf
        rw [List.getElem?_eq_getElem hl]
        dsimp only
        have q := ok.fn _ (List.getElem_mem hl)
        exact ⟨q.2.2.2.2.2, q.2.2.2.2.1, hi _ (List.getElem_mem hl)⟩
      have hflow := bodies_flow m P m.funcs.length fs m.imports.length he (by rw [hPf]; exact hsr.1) (fun u hu => ⟨(hok u hu).2.2.2.1, (hok u hu).2.2.2.2.1, (hok u hu).2.2.2.2.2.1, (hok u hu).2.1⟩) hbo (by rw [r1]; simp)
      have hlP : P.funs.length = m.imports.length + m.funcs.length := by rw [hPf, hlen, r1]; simp
      have hcode : ∀ (k : Nat) (u : Fun), P.funs[k]? = some u → u.code.length ≤ 1000 ∧ ∀ x, x ∈ u.code → fok x := fun k u hu => by
        have hkl := (List.getElem?_eq_some_iff.1 hu).1
        rw [hPf] at hu
        by_cases hk : k < m.imports.length
        · rw [hlow k hk] at hu
          have := (hok u (List.mem_of_getElem? hu)).2.2.2.2.2.2
          rw [this]; exact ⟨by simp, fun x hx => by simp at hx⟩
        · exact (hflow k u (by omega) (by omega) hu).2
      have hfo : ∀ u, u ∈ P.funs → u.params.length ≤ 3 ∧ u.results.length ≤ 1 ∧ u.locals.length ≤ 4 ∧ ty2 u.params ∧ ty2 u.results ∧ ty2 u.locals := fun u hu => by
        obtain ⟨k, hk, hke⟩ := List.mem_iff_getElem.1 hu
        have hg : P.funs[k]? = some u := by rw [List.getElem?_eq_getElem hk, hke]
        obtain ⟨f', q1, q2, q3, q4⟩ := hsr.2 k u (by rw [← hPf]; exact hg)
        have := hok f' (List.mem_of_getElem? q1)
        rw [q2, q3, q4] at this
        exact ⟨this.1, this.2.1, this.2.2.1, this.2.2.2.1, this.2.2.2.2.1, this.2.2.2.2.2.1⟩
      rw [hP]
      refine ⟨by rw [hPn]; omega, ⟨?_, by rw [hlP]; omega, fun u hu => ?_⟩, by rw [hlP]; omega, hfo, fun k u hk hu => ?_⟩
      · have e1 : P.min = m.min := by rw [← hP]
        have e2 : P.max = m.max := by rw [← hP]
        rw [hPn, e1, e2]
        exact ⟨small (by omega), small (by omega), small (by omega)⟩
      · have := hfo u hu
        obtain ⟨k, hk, hke⟩ := List.mem_iff_getElem.1 hu
        have hg : P.funs[k]? = some u := by rw [List.getElem?_eq_getElem hk, hke]
        have hc := hcode k u hg
        exact ⟨by omega, by omega, by omega, hc.1, hc.2⟩
      · have hkl := (List.getElem?_eq_some_iff.1 hu).1
        rw [hPf] at hu
        exact (hflow k u (by omega) (by omega) hu).1
  · show (((List.replicate (8 * m.min.toNat) (0 : UInt8)).length : Nat) : Int) ≤ 8 * m.max
    rw [List.length_replicate]; omega
  · exact hmem.2.2
  · show 8 ∣ (List.replicate (8 * m.min.toNat) (0 : UInt8)).length
    rw [List.length_replicate]; exact Nat.dvd_mul_right _ _
theorem plain_pb (P : Prog) (mem : Mem) (h : TOk P mem) : ProgB P ∧ (showProg P).length ≤ 1000000000 ∧ (showMem mem).length ≤ 1000000000 := by
  refine ⟨h.p.b, ?_, ?_⟩
  · have h1 := flat_le (l := P.funs) (f := showFun) (k := 90000) (fun u hu => showFun_len (by have := h.p.b.f u hu; exact ⟨this.1, this.2.1, this.2.2.1, this.2.2.2.1⟩))
    have := numS_len P.nimp; have := numS_len P.min; have := numS_len P.max
    have := h.p.nf
    have hx : P.funs.length * 90000 ≤ 6 * 90000 := Nat.mul_le_mul_right _ this
    simp only [showProg, List.length_append]; omega
  · have h1 := flat_le (l := mem.bytes) (f := fun c => numS c.toNat) (k := 22) (fun x _ => numS_len _)
    have := numS_len ((mem.bytes.length / 8 : Nat) : Int); have := numS_len mem.max
    have hb := h.m.ok.len; have hx := h.m.ok.max
    have hl : mem.bytes.length ≤ 32 := by omega
    have hy : mem.bytes.length * 22 ≤ 32 * 22 := Nat.mul_le_mul_right _ hl
    simp only [showMem, List.length_append]; omega
theorem plain_sg (P : Prog) (mem : Mem) (h : TOk P mem) (f : Int) : (∀ t, t ∈ (P.sig f).1 → t = 105 ∨ t = 108) ∧ (P.sig f).1.length ≤ 100 ∧ (P.sig f).2.1.length ≤ 100 ∧ (P.sig f).2.2.1.length ≤ 100 := by
  unfold Prog.sig
  split
  · exact ⟨fun t ht => by simp at ht, by simp, by simp, by simp⟩
  · split
    · rename_i u hu
      have := h.p.f u (List.mem_of_getElem? hu)
      exact ⟨this.2.2.2.1, by dsimp only; omega, by dsimp only; omega, by dsimp only; omega⟩
    · exact ⟨fun t ht => by simp at ht, by simp, by simp, by simp⟩
end Go.Wl
