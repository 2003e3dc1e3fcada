/- A loaded function, seen from its source: the checker's state at each place. -/
import Derived.Test.Qxb6500572aGreatDoorNI
namespace Go.Wl
open Go Go.Sl
set_option linter.unusedVariables false
def Kat (fsM : List Fm) (uM : Fm) (src : List Ins) : Nat → Km × List Flat
  | 0 => (Km.start uM, [])
  | i + 1 => match src[i]? with
    | some c => ((oneM fsM uM (Kat fsM uM src i).2 (Kat fsM uM src i).1 i c).1, (oneM fsM uM (Kat fsM uM src i).2 (Kat fsM uM src i).1 i c).2.1)
    | none => Kat fsM uM src i
/-- What is known at a place. -/
def Place (P : Prog) (u : Fun) (T' : Typ) (fsM : List Fm) (uM : Fm) (src : List Ins) (j : Nat) : Prop :=
  ∃ o C T G, KR src j o C (Kat fsM uM src j).1 (Kat fsM uM src j).2 ∧ nest (src.drop j) o = 0 ∧ VI P u j C T G ∧ TLe T T' ∧ ∀ c, src[j]? = some c → (oneM fsM uM (Kat fsM uM src j).2 (Kat fsM uM src j).1 j c).2.2 = 0
variable {src : List Ins} {i : Nat} {o : List Int} {C : Chk} {fs : List Fun} {fsM : List Fm} {u : Fun} {uM : Fm} {P : Prog} {T' : Typ}
theorem trace_all (hF : FRel fs fsM) (hU : URel u uM) (hs : uM.src = src) : ∀ (n i : Nat) (o : List Int) (C : Chk), n + i = src.length → KR src i o C (Kat fsM uM src i).1 (Kat fsM uM src i).2 → nest (src.drop i) o = 0 → Tr P fs u T' (src.drop i) C i → (runOne fs u (src.drop i) C i).2.2 = 0 →
    (∀ j, i ≤ j → j < src.length → Place P u T' fsM uM src j) ∧ (runOne fs u (src.drop i) C i).1.code = (Kat fsM uM src src.length).2
  | 0, i, o, C, hn, h, hne, _, _ => by rw [List.drop_eq_nil_of_le (by omega)] at hne; simp [nest] at hne
  | n + 1, i, o, C, hn, h, hne, ht, he => by
    have hi : i < src.length := by omega
    have hg : src[i]? = some src[i] := List.getElem?_eq_getElem hi
    obtain ⟨h1, h2⟩ := h.step hi rfl hF hU hs hne
    have hK : Kat fsM uM src (i + 1) = ((oneM fsM uM (Kat fsM uM src i).2 (Kat fsM uM src i).1 i src[i]).1, (oneM fsM uM (Kat fsM uM src i).2 (Kat fsM uM src i).1 i src[i]).2.1) := by
      show (match src[i]? with | some c => _ | none => _) = _
      rw [hg]
    rw [List.drop_eq_getElem_cons hi] at ht he ⊢
    obtain ⟨⟨T, G, hv, hle⟩, ht⟩ := ht
    unfold runOne at he ⊢
    by_cases h0 : (one fs u C src[i]).2 = 0
    · rw [if_neg (by simpa using h0)] at he ⊢
      have here : Place P u T' fsM uM src i := ⟨o, C, T, G, h, hne, hv, hle, fun c hc => by rw [hg] at hc; cases hc; rw [h1]; exact h0⟩
      rcases h2 h0 with ⟨o', hn', h'⟩ | ⟨hl, hcd⟩
      · have ih := trace_all hF hU hs n (i + 1) o' (one fs u C src[i]).1 (by omega) (by rw [hK]; exact h') hn' ht he
        refine ⟨fun j hj hjl => ?_, ih.2⟩
        by_cases e : j = i
        · subst e; exact here
        · exact ih.1 j (by omega) hjl
      · rw [List.drop_eq_nil_of_le (by omega)]
        refine ⟨fun j hj hjl => ?_, ?_⟩
        · obtain rfl : j = i := by omega
          exact here
        · show (one fs u C src[i]).1.code = _
          rw [hcd, ← hl, hK]
    · rw [if_pos h0] at he; exact absurd he h0
/-- A function of a loaded program. -/
structure Pic (P : Prog) (u : Fun) (T : Typ) (fsM : List Fm) (uM : Fm) (src : List Ins) : Prop where
  fl : Flow P u T
  code : u.code = (Kat fsM uM src src.length).2
  at_ : ∀ j, j < src.length → ∃ u0 : Fun, u0.results = u.results ∧ Place P u0 T fsM uM src j
  sr : uM.src = src
  up : uM.params = u.params
  ur : uM.results = u.results
  ul : uM.locals = u.locals
  ne : nest src [] = 0
  l : src.length ≤ 24
  wl : ∀ c, c ∈ src → well c = true ∧ i64ok c.imm
  res : u.results.length ≤ 1 ∧ ty2 u.results
theorem bodies_pic (m : Mod) (P : Prog) : ∀ (n : Nat) (fs : List Fun) (f : Nat), (bodies m n fs f).2.2.2 = 0 → SR fs P.funs → (∀ u, u ∈ fs → ty2 u.params ∧ ty2 u.results ∧ ty2 u.locals ∧ u.results.length ≤ 1) → (∀ k, f ≤ k → k < f + n → BodyOk (codeOf m k)) → f + n ≤ fs.length →
    ∀ (k : Nat) (u' : Fun), f ≤ k → k < f + n → (bodies m n fs f).1[k]? = some u' → ∃ T fsM uM, Pic P u' T fsM uM (codeOf m k)
  | 0, fs, f, _, _, _, _, _, k, u', h1, h2, _ => by omega
  | n + 1, fs, f, he, hs, ht, hb, hl, k, u', h1, h2, hk => by
    unfold bodies at he hk
    have hg : fs[f]? = some fs[f] := List.getElem?_eq_getElem (by omega)
    rw [hg] at he hk
    dsimp only at he hk
    obtain ⟨t1, t2, t3, t4⟩ := ht _ (List.getElem_mem (show f < fs.length by omega))
    split at he
    · rename_i hne; exact absurd he hne
    · rename_i hne
      rw [if_neg hne] at hk
      have hne' : (runOne fs fs[f] (codeOf m f) (Chk.start fs[f]) 0).2.2 = 0 := by simpa using hne
      have hsr := SR.set hg (runOne fs fs[f] (codeOf m f) (Chk.start fs[f]) 0).1.code
      by_cases e : k = f
      · subst e
        rw [bodies_low m n _ _ k (by omega), List.getElem?_set_self (by omega)] at hk
        cases hk
        have hbk := hb k (Nat.le_refl _) (by omega)
        have hE : Env1 P fs fs[k] := ⟨fun j x hx => by obtain ⟨x', q1, q2, q3, _⟩ := hs j x hx; exact ⟨x', q1, q2, q3⟩, fun x hx => ⟨(ht x hx).1, (ht x hx).2.1, (ht x hx).2.2.2⟩, t1, t3, t2, t4⟩
        obtain ⟨⟨T', q, _, hT⟩, r⟩ := run_flow (i := 0) (VI.start ⟨t4, t2⟩) (CI.start _ t4) (FB.start _ t4) hE hbk.n (by have := hbk.l; omega) hbk.i hne'
        have hF : FRel fs (fs.map fun f => (⟨f.params, f.results, f.locals, [], []⟩ : Fm)) := ⟨by simp, fun g f m hf hm => by
          rw [List.getElem?_map, hf] at hm
          simp only [Option.map_some, Option.some.injEq] at hm
          subst hm
          exact ⟨rfl, rfl⟩⟩
        have hU : URel fs[k] (⟨fs[k].params, fs[k].results, fs[k].locals, codeOf m k, []⟩ : Fm) := ⟨rfl, rfl, rfl⟩
        obtain ⟨a1, a2⟩ := trace_all (P := P) (T' := T') (src := codeOf m k) hF hU rfl (codeOf m k).length 0 [] _ (by omega) (KR.begin hU t4 t2) hbk.n (by rw [List.drop_zero]; exact hT) (by rw [List.drop_zero]; exact hne')
        rw [List.drop_zero] at a2
        exact ⟨T', _, _, q, a2, fun j hj => ⟨fs[k], rfl, a1 j (Nat.zero_le _) hj⟩, rfl, rfl, rfl, rfl, hbk.n, hbk.l, fun c hc => ⟨nest_all_well hbk.n c hc, (hbk.i c hc).2⟩, t4, t2⟩
      · refine bodies_pic m P n _ (f + 1) he (hsr.2.trans hs) (fun u hu => ?_) (fun j hj1 hj2 => hb j (by omega) (by omega)) (by rw [List.length_set]; omega) k u' (by omega) (by omega) hk
        rcases List.mem_or_eq_of_mem_set hu with hu | rfl
        · exact ht u hu
        · exact ⟨t1, t2, t3, t4⟩
structure Loaded (m : Mod) (P : Prog) : Prop where
  nimp : P.nimp = m.imports.length
  len : P.funs.length = m.imports.length + m.funcs.length
  low : ∀ (k : Nat) u, k < m.imports.length → P.funs[k]? = some u → u.code = []
  pic : ∀ (k : Nat) u, m.imports.length ≤ k → P.funs[k]? = some u → ∃ T fsM uM, Pic P u T fsM uM (codeOf m k)
theorem load_pic (m : Mod) (ok : ModOk m) (hi : ModI m) (he : (loadM m).2.2.2 = 0) : Loaded m (loadM m).1 := by
  unfold loadM at he ⊢
  dsimp only at he ⊢
  cases hr : (reads m (m.imports.length + m.funcs.length) [] 0).2 with
  | some f => rw [hr] at he; cases he
  | none =>
    rw [hr] at he
    dsimp only at he ⊢
    obtain ⟨r1, r2⟩ := reads_all m _ _ _ hr
    obtain ⟨fs, hfs⟩ : ∃ fs, (reads m (m.imports.length + m.funcs.length) [] 0).1 = fs := ⟨_, rfl⟩
    rw [hfs] at he r1 r2 ⊢
    have hni := ok.ni
    have hnf := ok.nf
    have hlen := bodies_len m m.funcs.length fs m.imports.length
    have hsr := bodies_sr m m.funcs.length fs m.imports.length
    have hlow := bodies_low m m.funcs.length fs m.imports.length
    obtain ⟨P, hP⟩ : ∃ P : Prog, (⟨m.imports.length, m.min, m.max, (bodies m m.funcs.length fs m.imports.length).1⟩ : Prog) = P := ⟨_, rfl⟩
    have hPf : P.funs = (bodies m m.funcs.length fs m.imports.length).1 := by rw [← hP]
    have hPn : P.nimp = m.imports.length := by rw [← hP]
    have hfa : ∀ u, u ∈ fs → ∃ k, u = funAt m k := fun u hu => (r2 u hu).resolve_left (by simp)
    have hok : ∀ u, u ∈ fs → u.params.length ≤ 3 ∧ u.results.length ≤ 1 ∧ u.locals.length ≤ 4 ∧ ty2 u.params ∧ ty2 u.results ∧ ty2 u.locals ∧ u.code = [] := fun u hu => by
      obtain ⟨k, rfl⟩ := hfa u hu; exact funAt_ok ok k
    have hbo : ∀ k, m.imports.length ≤ k → k < m.imports.length + m.funcs.length → BodyOk (codeOf m k) := fun k h1 h2 => by
      have hl : k - m.imports.length < m.funcs.length := by omega
      unfold codeOf
      rw [List.getElem?_eq_getElem hl]
      dsimp only
      have q := ok.fn _ (List.getElem_mem hl)
      exact ⟨q.2.2.2.2.2, q.2.2.2.2.1, hi _ (List.getElem_mem hl)⟩
    have hpic := bodies_pic m P m.funcs.length fs m.imports.length he (by rw [hPf]; exact hsr.1) (fun u hu => ⟨(hok u hu).2.2.2.1, (hok u hu).2.2.2.2.1, (hok u hu).2.2.2.2.2.1, (hok u hu).2.1⟩) hbo (by rw [r1]; simp)
    have hlP : P.funs.length = m.imports.length + m.funcs.length := by rw [hPf, hlen, r1]; simp
    rw [hP]
    refine ⟨hPn, hlP, fun k u hk hu => ?_, fun k u hk hu => ?_⟩
    · rw [hPf, hlow k hk] at hu
      exact (hok u (List.mem_of_getElem? hu)).2.2.2.2.2.2
    · have hkl := (List.getElem?_eq_some_iff.1 hu).1
      rw [hPf] at hu
      exact hpic k u hk (by omega) hu
end Go.Wl
