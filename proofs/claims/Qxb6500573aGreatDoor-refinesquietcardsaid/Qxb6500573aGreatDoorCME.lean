/- compm: variables: reading, making, storing. -/
import Derived.Test.Qxb6500573aGreatDoorWCmC
namespace Go.Nm
open Go Go.Sl Go.Wl Go.Proofs
set_option linter.unusedVariables false
set_option linter.unusedSimpArgs false
def ndG (m : RnM) (n : Int) : Option Nd := if 0 ≤ n ∧ m.nodes.length ≤ 1000000 then m.nodes[n.toNat]? else none
theorem ndG_some {m : RnM} {n : Int} {d : Nd} (h : ndG m n = some d) : ∃ j : Nat, n = j ∧ ∃ hj : j < m.nodes.length, m.nodes[j] = d ∧ m.nodes.length ≤ 1000000 := by
  unfold ndG at h
  split at h
  · rename_i c
    obtain ⟨h1, h2⟩ := List.getElem?_eq_some_iff.1 h
    exact ⟨n.toNat, by omega, h1, h2, c.2⟩
  · cases h
def findE : Nat → List EvM → Option Nat → List UInt8 → Option (Option Nat)
  | 0, _, _, _ => none
  | _ + 1, _, none, _ => some none
  | f + 1, es, some i, nm => match es[i]? with
    | none => none
    | some v => if v.name = nm then some (some i) else findE f es v.up nm
def rfind (m : RnM) (e : Option Nat) (nm : List UInt8) : Option (Option Nat) := findE (m.envs.length + 1) m.envs e nm
theorem isRm_new {x : RX} {eb hb : List Nat} {m : RnM} {s : Seg} (h : isRm x eb hb m s) (b : Nat) {e : EvM} (he : eIn eb.length e.up) : ∃ s', isRm x (eb ++ [b]) hb { m with envs := m.envs ++ [e] } s' ∧ ∀ H : Hp, Part (s :: blk b 204 (evV eb e) :: H) (s' :: H) [] := by
  obtain ⟨ca, cc, ha, hc, sN, sC, sH, sT, sB, rfl, h1, h2, h3, h4, h5, h6⟩ := h
  have hev : evS (eb ++ [b]) (eb ++ [b]) (m.envs ++ [e]) = evS eb eb m.envs ++ blk b 204 (evV eb e) := by
    rw [evS_app _ b e eb m.envs h6.el, evS_mono eb b eb m.envs h6.ev, evV_app b he]
  refine ⟨_, ⟨ca, cc, ha, hc, sN, sC, sH, sT, sB, rfl, h1, by rw [flat_cl b h6.cl]; exact h2, h3, thsR_mono b h6.tk h4, h5, ?_⟩, fun H => ?_⟩
  · have hle : eb.length ≤ (eb ++ [b]).length := by simp
    refine ⟨by simp [h6.el], h6.hl, fun t ht q hq => (h6.tk t ht q hq).mono hle, fun c hc => (h6.cl c hc).mono hle, fun z hz => ?_, h6.st⟩
    rcases List.mem_append.1 hz with hz | hz
    · exact (h6.ev z hz).mono hle
    · rw [List.mem_singleton.1 hz]; exact he.mono hle
  · unfold Part
    rw [hev]
    simp only [List.flatten_cons, List.flatten_nil, List.append_nil, List.append_assoc]
    refine List.Perm.append_left _ ?_
    refine List.Perm.append_left _ ?_
    refine List.Perm.append_left _ ?_
    refine List.Perm.append_left _ ?_
    refine List.Perm.append_left _ ?_
    refine List.Perm.append_left _ ?_
    rw [← List.append_assoc sB, ← List.append_assoc (blk b 204 (evV eb e)) sB]
    exact List.Perm.append_right _ List.perm_append_comm
/-- One variable, opened. -/
theorem isRm_env {x : RX} {eb hb : List Nat} {m : RnM} {s : Seg} (h : isRm x eb hb m s) {i : Nat} (hi : i < m.envs.length) : ∃ A Z, s = List.flatten [A, blk (eb.getD i 0) 204 (evV eb m.envs[i]), Z] ∧ ∀ e', e'.up = m.envs[i].up → isRm x eb hb { m with envs := m.envs.set i e' } (List.flatten [A, blk (eb.getD i 0) 204 (evV eb e'), Z]) := by
  obtain ⟨ca, cc, ha, hc, sN, sC, sH, sT, sB, rfl, h1, h2, h3, h4, h5, h6⟩ := h
  obtain ⟨s0, s2, e1, e2⟩ := evS_split eb eb m.envs i h6.el hi
  refine ⟨List.flatten [blk x.b 142 (rnV x ca ha cc hc m), sN, sC, sH, sT, s0], List.flatten [s2, sB], ?_, fun e' he => ?_⟩
  · rw [e1]; simp
  · refine ⟨ca, cc, ha, hc, sN, sC, sH, sT, sB, ?_, h1, h2, h3, h4, h5, ⟨by rw [List.length_set]; exact h6.el, h6.hl, h6.tk, h6.cl, fun z hz => ?_, h6.st⟩⟩
    · show _ = List.flatten [blk x.b 142 (rnV x ca ha cc hc m), sN, sC, sH, sT, evS eb eb (m.envs.set i e'), sB]
      rw [e2 e']; simp
    · rcases List.mem_or_eq_of_mem_set hz with q | q
      · exact h6.ev z q
      · subst q; rw [he]; exact h6.ev _ (List.getElem_mem hi)
/-- A slice of values handed in. -/
def ArgR (v : Value) (l : List V) (sg : Seg) : Prop := ∃ a cp, v = .slice a l.length cp ∧ l.length ≤ 1000 ∧ ∀ i (hi : i < l.length), ∃ ab o, a = some ⟨ab, o, none⟩ ∧ ∀ H : Hp, Cells (sg :: H) ab (o + ((i : Nat) : Int).toNat * 3) (valV l[i])
def parL : Nat → Int → Nat → List V → Option Nat → RnM → Option (Option Nat × RnM)
  | 0, _, _, _, _, _ => none
  | f + 1, p, i, args, e, m => if p = 0 then some (e, m) else match ndG m p with
    | none => none
    | some d => parL f d.next (i + 1) args (some m.envs.length) { m with envs := m.envs ++ [⟨d.s, args.getD i V.nil, e⟩] }
def renter (c : Int) (args : List V) (prot : Int) (m : RnM) : Option RnM :=
  if ¬ (curOk m ∧ (thG m).vals.length ≤ 1000000 ∧ (-1000000000 ≤ (thG m).depth ∧ (thG m).depth ≤ 1000000000) ∧ (0 ≤ c ∧ c < m.clos.length ∧ m.clos.length ≤ 1000)) then none
  else bind1 (rdo 3 prot (thG m).vals.length none (rset m { thG m with depth := (thG m).depth + 1 })) fun m2 =>
    match m2.clos[c.toNat]? with
    | none => none
    | some (node, e) => match ndG m2 node with
      | none => none
      | some d => bind2 (parL 1000 d.a 0 args e m2) fun e' m3 => rdo 1 (if node = 0 then m.root else d.b) 0 e' m3
end Go.Nm
