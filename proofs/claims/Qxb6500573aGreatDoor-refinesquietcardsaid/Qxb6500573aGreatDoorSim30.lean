/- Plain: the interpreter and the machine go on together: a function is entered. -/
import Derived.Test.Qxb6500573aGreatDoorSim29
namespace Go.Sm
open Go Go.Sl Go.Wl Go.Nm Go.Proofs
set_option linter.unusedVariables false
theorem slots_at {args : List V} {np ns i : Nat} (h : i < np) (h2 : np ≤ ns) : (slotsL args np ns)[i]? = some (args.getD i V.nil) := by
  unfold slotsL
  rw [List.getElem?_map, List.getElem?_range (by omega)]
  show some (if i < np then args.getD i V.nil else V.nil) = _
  rw [if_pos h]
theorem slots_len (args : List V) (np ns : Nat) : (slotsL args np ns).length = ns := by
  unfold slotsL
  simp
theorem hid_named {S : List V} : ∀ {L : List Nm8} {o : Nat}, (∀ s, s ∈ L → s ≠ []) → hidV S o L = []
  | [], _, _ => rfl
  | nm :: L, o, h => by
    simp only [hidV]
    rw [if_neg (h nm List.mem_cons_self), hid_named fun s hs => h s (List.mem_cons_of_mem _ hs)]
    rfl
section
variable {K : Cn} {s : RnM} {m : VM} {S : List Nat} {cn : Int} {ρ : Nat → Option Plc} {fi : Nat → List FI} {c : Cx} {t : Th} {l : List FI} {F : FI} {Tk : List TkM} {W low ops : List V} {n : Int} {e : Option Nat} {T : List TkM} {no w : Nat} {ops' args : List V} {f : V}
/-- The interpreter enters a function. -/
theorem enter_s {K : Cn} {s1 : RnM} (hcur : curOk s1) {T : List TkM} {X A : List V} {j : Nat} {pr : Int} {mc : Int × Option Nat} {d : Nd} {ps : List Nm8} {mm : Nat} (hX : X.length ≤ 900000) (hT : T.length ≤ 900000) (hdp : -1000000000 ≤ (thG s1).depth ∧ (thG s1).depth ≤ 1000000000) (hj : s1.clos[j]? = some mc) (hcl : s1.clos.length ≤ 24) (hnd : ∀ n d, nd K.ns n = some d → ndG s1 n = some d) (hd : nd K.ns mc.1 = some d) (hp : parS K.ns mm d.a ps) (hps : ps.length ≤ 3) (hrg : ∀ i, mc.2 = some i → i < s1.envs.length) (hroot : s1.root = K.root) :
    renter (j : Int) A pr (Go.Sm.ms s1 T X) = some (rset { s1 with envs := s1.envs ++ parE A ps 0 mc.2 s1.envs.length } { thG s1 with depth := (thG s1).depth + 1, tasks := (⟨1, if mc.1 = 0 then K.root else d.b, 0, parV ps mc.2 s1.envs.length⟩ :: ⟨3, pr, (X.length : Int), none⟩ :: T).reverse, vals := X }) := by
  have hjl := lt_of hj
  unfold renter
  rw [ms_th hcur]
  rw [if_neg (fun q => q ⟨ms_cur hcur _ _, by dsimp only; omega, hdp, by omega, by show ((j : Nat) : Int) < (s1.clos.length : Int); omega, by show s1.clos.length ≤ 1000; omega⟩)]
  dsimp only
  rw [ms_set hcur]
  have e1 : rset s1 { thG s1 with tasks := T.reverse, vals := X, depth := (thG s1).depth + 1 } = Go.Sm.ms (rset s1 { thG s1 with depth := (thG s1).depth + 1 }) T X := by
    unfold Go.Sm.ms
    rw [thG_rset hcur, rset_rset hcur]
  have hc2 : curOk (rset s1 { thG s1 with depth := (thG s1).depth + 1 }) := curOk_rset hcur _
  have hD : ∀ n d, nd K.ns n = some d → ndG (Go.Sm.ms (rset s1 { thG s1 with depth := (thG s1).depth + 1 }) (⟨3, pr, (X.length : Int), none⟩ :: T) X) n = some d := fun n d h => hnd n d h
  rw [e1, ms_do hc2 _ _ _ (by omega) (fun i q => by cases q), b1]
  rw [show (Go.Sm.ms (rset s1 { thG s1 with depth := (thG s1).depth + 1 }) (⟨3, pr, (X.length : Int), none⟩ :: T) X).clos = s1.clos from rfl, Int.toNat_natCast, hj]
  dsimp only
  rw [hD _ _ hd]
  dsimp only
  rw [par_x A mm d.a ps 1000 0 mc.2 _ hp (by omega) hD, b2]
  show rdo 1 (if mc.1 = 0 then s1.root else d.b) 0 (parV ps mc.2 s1.envs.length) (Go.Sm.ms { rset s1 { thG s1 with depth := (thG s1).depth + 1 } with envs := s1.envs ++ parE A ps 0 mc.2 s1.envs.length } (⟨3, pr, (X.length : Int), none⟩ :: T) X) = _
  have hc3 : curOk { rset s1 { thG s1 with depth := (thG s1).depth + 1 } with envs := s1.envs ++ parE A ps 0 mc.2 s1.envs.length } := hc2
  rw [ms_do hc3 _ _ _ (by simp only [List.length_cons]; omega) (fun i hi => by
    have := parV_lt ps mc.2 s1.envs.length hrg i hi
    show i < (s1.envs ++ parE A ps 0 mc.2 s1.envs.length).length
    rw [List.length_append, parE_len]
    exact this)]
  have e3 : thG { rset s1 { thG s1 with depth := (thG s1).depth + 1 } with envs := s1.envs ++ parE A ps 0 mc.2 s1.envs.length } = { thG s1 with depth := (thG s1).depth + 1 } := thG_rset hcur _
  unfold Go.Sm.ms
  rw [e3]
  unfold rset
  dsimp only
  rw [List.set_set, ← hroot]
end
end Go.Sm
