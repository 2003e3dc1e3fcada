/- The two validators: a program. -/
import Derived.Test.Qxb6500572aGreatDoorNH
import Derived.Test.Qxb6500572aGreatDoorPValM
import Derived.Test.Qxb6500572aGreatDoorMF
namespace Go.Wl
open Go Go.Sl
set_option linter.unusedVariables false
theorem funAtM_flat (m : Mod) (f : Nat) : (funAtM m f).flat = funAt m f := rfl
theorem readsM_flat (m : Mod) : ∀ (n : Nat) (acc : List Fm) (f : Nat), (readsM m n acc f).1.map Fm.flat = (reads m n (acc.map Fm.flat) f).1 ∧ (readsM m n acc f).2 = (reads m n (acc.map Fm.flat) f).2
  | 0, acc, f => ⟨rfl, rfl⟩
  | n + 1, acc, f => by
    unfold readsM reads
    split
    · exact ⟨rfl, rfl⟩
    · have := readsM_flat m n (acc ++ [funAtM m f]) (f + 1)
      rw [List.map_append, List.map_singleton, funAtM_flat] at this
      exact this
theorem readsM_all (m : Mod) : ∀ (n : Nat) (acc : List Fm) (f : Nat), acc.length = f → (∀ (g : Nat) (x : Fm), acc[g]? = some x → x = funAtM m g) → (∀ (g : Nat) (x : Fm), (readsM m n acc f).1[g]? = some x → x = funAtM m g) ∧ ((readsM m n acc f).2 = none → (readsM m n acc f).1.length = f + n)
  | 0, acc, f, hl, h => ⟨h, fun _ => hl⟩
  | n + 1, acc, f, hl, h => by
    unfold readsM
    split
    · exact ⟨h, fun e => by cases e⟩
    · have := readsM_all m n (acc ++ [funAtM m f]) (f + 1) (by simp [hl]) (same_snoc hl h rfl)
      exact ⟨this.1, fun e => by rw [this.2 e]; omega⟩
theorem _root_.Go.Sl.SameM.fields {m : Mod} {fs : List Fm} (h : SameM m fs) {g : Nat} {x : Fm} (hx : fs[g]? = some x) : x.params = (funAtM m g).params ∧ x.results = (funAtM m g).results ∧ x.locals = (funAtM m g).locals ∧ x.src = (funAtM m g).src := by
  have := h g x hx
  rw [← this]
  exact ⟨rfl, rfl, rfl, rfl⟩
theorem _root_.Go.Sl.SameM.res {m : Mod} (ok : ModOk m) {fs : List Fm} (h : SameM m fs) : ∀ f, f ∈ fs.map Fm.flat → f.results.length ≤ 1 ∧ ty2 f.results := by
  intro f hf
  obtain ⟨x, hx, rfl⟩ := List.mem_map.1 hf
  obtain ⟨g, hg⟩ := List.getElem?_of_mem hx
  have := h.fields hg
  have h2 := funAt_ok ok g
  rw [← funAtM_flat] at h2
  exact ⟨by show x.results.length ≤ 1; rw [this.2.1]; exact h2.2.1, by show ty2 x.results; rw [this.2.1]; exact h2.2.2.2.2.1⟩
theorem codeOf_ok {m : Mod} (ok : ModOk m) {f : Nat} (h1 : m.imports.length ≤ f) (h2 : f < m.imports.length + m.funcs.length) : nest (codeOf m f) [] = 0 ∧ (codeOf m f).length ≤ 24 := by
  unfold codeOf
  rw [List.getElem?_eq_getElem (by omega)]
  have := ok.fn _ (List.getElem_mem (show f - m.imports.length < m.funcs.length by omega))
  exact ⟨this.2.2.2.2.2, this.2.2.2.2.1⟩
theorem bodiesM_flat {m : Mod} (ok : ModOk m) : ∀ (n : Nat) (fs : List Fm) (f : Nat), SameM m fs → m.imports.length ≤ f → f + n = m.imports.length + m.funcs.length → (bodiesM n fs f).1.map Fm.flat = (bodies m n (fs.map Fm.flat) f).1 ∧ (bodiesM n fs f).2 = (bodies m n (fs.map Fm.flat) f).2
  | 0, fs, f, _, _, _ => ⟨rfl, rfl⟩
  | n + 1, fs, f, hs, h1, h2 => by
    unfold bodiesM bodies
    rw [List.getElem?_map]
    cases hu : fs[f]? with
    | none => exact ⟨rfl, rfl⟩
    | some u =>
      simp only [Option.map_some]
      have hf := hs.fields hu
      have hsrc : u.src = codeOf m f := by rw [hf.2.2.2]; show (if _ then _ else _) = _; rw [if_neg (by omega)]
      obtain ⟨c1, c2⟩ := codeOf_ok ok h1 (by omega)
      have hr := hs.res ok u.flat (List.mem_map_of_mem (List.mem_of_getElem? hu))
      obtain ⟨k1, k2, k3⟩ := KR.run (FRel.flat fs) (URel.flat u) hsrc (codeOf m f).length 0 [] _ _ _ (by omega) (KR.begin (URel.flat u) hr.1 hr.2) c1
      rw [List.drop_zero] at k1 k2 k3
      rw [← hsrc] at k1 k2 k3 ⊢
      rw [k1, k2]
      by_cases he : (runOne (fs.map Fm.flat) u.flat u.src (Chk.start u.flat) 0).2.2 = 0
      · rw [if_neg (by simpa using he), if_neg (by simpa using he), k3 he]
        have ih := bodiesM_flat ok n (fs.set f { u with code := (runOne (fs.map Fm.flat) u.flat u.src (Chk.start u.flat) 0).1.code }) (f + 1) (hs.set hu _) (by omega) (by omega)
        rw [List.map_set] at ih
        exact ih
      · rw [if_pos he, if_pos he]
        exact ⟨rfl, rfl⟩
theorem loadMM_flat {m : Mod} (ok : ModOk m) : (loadMM m).1.flat = (loadM m).1 ∧ (loadMM m).2 = (loadM m).2 ∧ (loadMM m).1.funs.length ≤ 1000 := by
  obtain ⟨r1, r2⟩ := readsM_flat m (m.imports.length + m.funcs.length) [] 0
  obtain ⟨a1, a2⟩ := readsM_all m (m.imports.length + m.funcs.length) [] 0 rfl (fun g x hx => by simp at hx)
  have hn := ok.ni
  have hf := ok.nf
  simp only [List.map_nil] at r1 r2
  unfold loadMM loadM
  dsimp only
  rw [r2]
  cases hR : (reads m (m.imports.length + m.funcs.length) [] 0).2 with
  | some f =>
    refine ⟨by unfold Pm.flat; dsimp only; rw [r1], rfl, ?_⟩
    dsimp only
    have : ∀ (n : Nat) (acc : List Fm) (f : Nat), (readsM m n acc f).1.length ≤ acc.length + n := by
      intro n
      induction n with
      | zero => intro acc f; exact Nat.le_refl _
      | succ n ih =>
        intro acc f
        unfold readsM
        split
        · dsimp only; omega
        · have := ih (acc ++ [funAtM m f]) (f + 1)
          rw [List.length_append, List.length_singleton] at this
          omega
    have := this (m.imports.length + m.funcs.length) [] 0
    simp only [List.length_nil] at this
    omega
  | none =>
    have hs : SameM m (readsM m (m.imports.length + m.funcs.length) [] 0).1 := fun g x hx => by rw [a1 g x hx]; rfl
    obtain ⟨b1, b2⟩ := bodiesM_flat ok m.funcs.length _ m.imports.length hs (Nat.le_refl _) rfl
    rw [r1] at b1 b2
    refine ⟨by unfold Pm.flat; dsimp only; rw [b1], by dsimp only; rw [b2], ?_⟩
    have h1 := congrArg List.length b1
    rw [List.length_map, bodies_len, ← r1, List.length_map, a2 (by rw [r2, hR])] at h1
    dsimp only
    omega
theorem ref_run {m : Mod} (ok : ModOk m) (fs : List Fm) (f : Nat) (u : Fm) (hs : SameM m fs) (hu : fs[f]? = some u) (h1 : m.imports.length ≤ f) (h2 : f < m.imports.length + m.funcs.length) : RunOk fs u u.src (Km.start u) [] 0 := by
  have hf := hs.fields hu
  have hsrc : u.src = codeOf m f := by rw [hf.2.2.2]; show (if _ then _ else _) = _; rw [if_neg (by omega)]
  obtain ⟨c1, c2⟩ := codeOf_ok ok h1 h2
  rw [← hsrc] at c1 c2
  have hr := hs.res ok u.flat (List.mem_map_of_mem (List.mem_of_getElem? hu))
  exact KR.runOk (FRel.flat fs) (URel.flat u) rfl (fun f hf => (hs.res ok f hf).1) (by omega) u.src.length 0 [] [] _ _ _ rfl (KR.begin (URel.flat u) hr.1 hr.2) c1 (CI.start _ hr.1) c1
end Go.Wl
