/- Plain: the interpreter and the machine go on together: parameters. -/
import Derived.Test.Qxb6500573aGreatDoorSim27
namespace Go.Sm
open Go Go.Sl Go.Wl Go.Nm Go.Proofs
set_option linter.unusedVariables false
/-- The variables of a new call. -/
def parE (args : List V) : List Nm8 → Nat → Option Nat → Nat → List EvM
  | [], _, _, _ => []
  | nm :: ps, i, e, len => ⟨nm, args.getD i V.nil, e⟩ :: parE args ps (i + 1) (some len) (len + 1)
def parV : List Nm8 → Option Nat → Nat → Option Nat
  | [], e, _ => e
  | nm :: ps, e, len => parV ps (some len) (len + 1)
theorem parE_len (args : List V) : ∀ (ps : List Nm8) (i : Nat) (e : Option Nat) (len : Nat), (parE args ps i e len).length = ps.length
  | [], _, _, _ => rfl
  | nm :: ps, i, e, len => by simp [parE, parE_len args ps (i + 1) (some len) (len + 1)]
theorem par_x {ns : List Nd} (args : List V) : ∀ (mm : Nat) (p : Int) (ps : List Nm8) (f i : Nat) (e : Option Nat) (s : RnM), parS ns mm p ps → ps.length < f → (∀ n d, nd ns n = some d → ndG s n = some d) → parL f p i args e s = some (parV ps e s.envs.length, { s with envs := s.envs ++ parE args ps i e s.envs.length })
  | 0, p, ps, f, i, e, s, h, _, _ => h.elim
  | mm + 1, p, ps, f, i, e, s, h, hf, hn => by
    obtain ⟨f, rfl⟩ : ∃ g, f = g + 1 := ⟨f - 1, by omega⟩
    unfold parS at h
    unfold parL
    by_cases c : p = 0
    · rw [if_pos c] at h ⊢
      subst h
      simp [parE, parV]
    · rw [if_neg c] at h ⊢
      obtain ⟨d, l', h1, rfl, h3⟩ := h
      rw [hn p d h1]
      dsimp only
      rw [List.length_cons] at hf
      rw [par_x args mm d.next l' f (i + 1) (some s.envs.length) { s with envs := s.envs ++ [⟨d.s, args.getD i V.nil, e⟩] } h3 (by omega) (fun n d h => hn n d h)]
      simp [parE, parV, List.append_assoc]
theorem VOk.pars {P : List Fs} {m : VM} {u B x up : Nat} {E : Sco} {ρ : Nat → Option Plc} (args : List V) : ∀ (ps L : List Nm8) (es : List EvM) (i : Nat) (e : Option Nat), (∀ j, j < ps.length → ρ (es.length + j) = some (.stk u (B + (L.length + j)))) → VOk P es ρ m u B x E up L e → VOk P (es ++ parE args ps i e es.length) ρ m u B x E up (L ++ ps) (parV ps e es.length)
  | [], L, es, i, e, _, h => by simpa [parE, parV] using h
  | nm :: ps, L, es, i, e, hρ, h => by
    have h1 := h.snoc (ρ' := ρ) (nm := nm) (v := args.getD i V.nil) (by have := hρ 0 (by simp); simpa using this) (fun _ _ => rfl)
    have h2 := VOk.pars args ps (L ++ [nm]) (es ++ [⟨nm, args.getD i V.nil, e⟩]) (i + 1) (some es.length) (fun j hj => by
      have := hρ (j + 1) (by simp; omega)
      rw [List.length_append, List.length_append, List.length_singleton, List.length_singleton, show es.length + 1 + j = es.length + (j + 1) from by omega, show L.length + 1 + j = L.length + (j + 1) from by omega]
      exact this) h1
    simpa [parE, parV, List.append_assoc] using h2
theorem VOk.nil {P : List Fs} {es : List EvM} {m : VM} {u B x up : Nat} {E : Sco} {ρ : Nat → Option Plc} {e : Option Nat} (hr : ∀ i, e = some i → i < es.length) (h : ∀ name, name ≠ [] → VU P es ρ m x E up e name) : VOk P es ρ m u B x E up [] e := by
  refine ⟨hr, fun name hn s hs => ?_, fun name hn _ => h name hn⟩
  have : slotL [] name = -1 := rfl
  omega
theorem parE_wf {es : List EvM} (args : List V) : ∀ (ps : List Nm8) (es : List EvM) (i : Nat) (e : Option Nat), EnvWf es → (∀ j, e = some j → j < es.length) → EnvWf (es ++ parE args ps i e es.length)
  | [], es, i, e, h, _ => by simpa [parE] using h
  | nm :: ps, es, i, e, h, he => by
    have h1 := wf_snoc (nm := nm) (v := args.getD i V.nil) h he
    have h2 := parE_wf (es := es) args ps (es ++ [⟨nm, args.getD i V.nil, e⟩]) (i + 1) (some es.length) h1 (fun j hj => by injection hj with hj; subst hj; simp)
    simpa [parE, List.append_assoc] using h2
theorem parE_at (args : List V) : ∀ (ps : List Nm8) (i : Nat) (e : Option Nat) (len j : Nat) (ev : EvM), (parE args ps i e len)[j]? = some ev → ev.v = args.getD (i + j) V.nil
  | [], i, e, len, j, ev, h => by simp [parE] at h
  | nm :: ps, i, e, len, 0, ev, h => by
    simp [parE] at h
    subst h
    rfl
  | nm :: ps, i, e, len, j + 1, ev, h => by
    have h1 : (parE args ps (i + 1) (some len) (len + 1))[j]? = some ev := by simpa [parE] using h
    have := parE_at args ps (i + 1) (some len) (len + 1) j ev h1
    rw [this, show i + 1 + j = i + (j + 1) from by omega]
theorem parV_lt : ∀ (ps : List Nm8) (e : Option Nat) (len : Nat), (∀ i, e = some i → i < len) → ∀ i, parV ps e len = some i → i < len + ps.length
  | [], e, len, h, i, hi => by have := h i hi; simpa using this
  | nm :: ps, e, len, h, i, hi => by
    have := parV_lt ps (some len) (len + 1) (fun i hi => by injection hi with hi; omega) i hi
    rw [List.length_cons]
    omega
end Go.Sm
