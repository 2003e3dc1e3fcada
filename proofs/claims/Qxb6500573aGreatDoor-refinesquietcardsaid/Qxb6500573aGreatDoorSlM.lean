/- Maps with integer keys; functions against nil. -/
import Derived.Test.Qxb6500573aGreatDoorSlL
import Derived.MapKept
namespace Go.Sl
open Go

section
variable {P : Program} {n : Nat} {Q : Post} {D : Defs} {ρ : Env} {H : Hp} {ops : Array Oper} {ty : TypeId} {K : Kont} {d : Nat} {pos : String} {af : Array Edge} {g : Option (Nat × Bool)} {Hs : Hp}

def ents : List (Int × Value) → Nat → List MapEntry
  | [], _ => []
  | (k, v) :: l, i => { key := I k, val := v, born := i } :: ents l (i + 1)
/-- A map from integers, in the order of the inserts. -/
def mp (b : Nat) (l : List (Int × Value)) : Seg := [(b, .map (ents l 0).toArray l.length)]
theorem ents_snoc : ∀ (l : List (Int × Value)) (i : Nat) (k : Int) (v : Value), ents (l ++ [(k, v)]) i = ents l i ++ [{ key := I k, val := v, born := i + l.length }]
  | [], i, k, v => rfl
  | (k', v') :: l, i, k, v => by
    simp only [List.cons_append, ents, ents_snoc l (i + 1) k v, List.length_cons]
    congr 4; omega
def find : List (Int × Value) → Int → Option Value
  | [], _ => none
  | (k, v) :: l, x => if x = k then some v else find l x
theorem findNow_ents {kk : IntKind} (x : Int) : ∀ (l : List (Int × Value)) (i j : Nat), ∃ r, Instr.findNow (.int kk) (I x) (ents l i) j = some r ∧ r.map Prod.snd = find l x
  | [], i, j => ⟨none, rfl, rfl⟩
  | (k, v) :: l, i, j => by
    by_cases h : x = k
    · subst h; exact ⟨some (j, v), by simp [ents, Instr.findNow, Instr.sameNow], by simp [find]⟩
    · obtain ⟨r, h1, h2⟩ := findNow_ents (kk := kk) x l (i + 1) (j + 1)
      refine ⟨r, ?_, by simp [find, h, h2]⟩
      have hb : (x == k) = false := by simp [h]
      simp [ents, Instr.findNow, Instr.sameNow, h1, hb]
theorem run_checkKey {t : TypeId} {kk : IntKind} {b : Bool} {v : Value} {w : World} (ht : P.underlying t = some (.int kk)) : ∀ m : Nat, (Instr.checkKey b (m + 1) t v).run P w = .ok () w := fun m => by
  simp only [Instr.checkKey, Sem.run_bind, run_underlying ht, Result.andThen_ok]
  rfl
theorem SP1_makeMap {t : TypeId} (hd : Nat.ble (d + 1) n = true) (kk : ∀ b, K D ((d, .map (some b)) :: ρ) (mp b [] :: H)) :
    SP1 P n { dst := some d, op := .makeMap t none, type := ty, pos := pos, after := af, guard := g } Q K D ρ H :=
  SP1_new (x := .map #[] 0) (v := fun b => .map (some b)) hd (fun a w hf => by
    have : (Instr.makeMap t none).run P w = .ok (.map (some w.heap.size)) (w.alloc (.map #[] 0)) := rfl
    simp [runs, execOp, this]) kk
theorem SP1_insert {t kt et : TypeId} {kk : IntKind} {m x y : Operand} {b : Nat} {l : List (Int × Value)} {k : Int} {v : Value} {H' : Hp} (ht : P.underlying t = some (.map kt et)) (hkt : P.underlying kt = some (.int kk))
    (hm : ev ρ m = some (.map (some b))) (hx : ev ρ x = some (I k)) (hy : ev ρ y = some v) (hp : Pick (mp b l) H H') (hf : find l k = none)
    (kon : K D ρ (mp b (l ++ [(k, v)]) :: H')) : SP1 P n { dst := none, op := .insert t m x y, type := ty, pos := pos, after := af, guard := g } Q K D ρ H :=
  fun A F a w hfit ho => by
    have ho2 : Own A w ((b, Obj.map (ents l 0).toArray l.length) :: (H'.flatten ++ F)) := by
      have := ho.perm (List.Perm.append_right F hp)
      simpa [mp] using this
    have hb := ho2.has _ (List.mem_cons_self)
    simp only at hb
    obtain ⟨r, h1, h2⟩ := findNow_ents (kk := kk) k l 0 0
    rw [hf] at h2
    have hr : r = none := by cases r with
      | none => rfl
      | some z => simp at h2
    subst hr
    have hck : (Instr.checkKey false 10000 kt (I k)).run P w = .ok () w := run_checkKey hkt 9999
    have hg : (getObj b).run P w = .ok (.map (ents l 0).toArray l.length) w := by simp [getObj, Sem.run, hb]
    have hst : ∀ o, (setObj b o).run P w = .ok () { w with heap := w.heap.setIfInBounds b o } := fun o => by simp [setObj, Sem.run, hb]
    have e : (ents l 0).toArray.push { key := I k, val := v, born := l.length } = (ents (l ++ [(k, v)]) 0).toArray := by rw [ents_snoc]; simp
    have hrun : (execOp a.eval { dst := none, op := .insert t m x y, type := ty, pos := pos, after := af, guard := g }).run P w = .ok .skip { w with heap := w.heap.setIfInBounds b (.map (ents (l ++ [(k, v)]) 0).toArray (l.length + 1)) } := by
      simp only [execOp, hfit.ev hm, hfit.ev hx, hfit.ev hy, Instr.mapUpdate, Sem.run_bind, run_underlying ht, Result.andThen_ok, hg, hck, Instr.findKey, run_underlying hkt, h1, Sem.run_pure, hst, e]
    unfold Oper.wp
    rw [hrun]
    refine ⟨ρ, _, by rw [show (a.put none undef).defers = D from hfit.defers]; exact hfit, ?_, by rw [show (a.put none undef).defers = D from hfit.defers]; exact kon⟩
    have hlt : b < w.heap.size := ho2.lt (List.mem_cons_self)
    have := ho2.put (w' := { w with heap := w.heap.setIfInBounds b (.map (ents (l ++ [(k, v)]) 0).toArray (l.length + 1)) }) (y := .map (ents (l ++ [(k, v)]) 0).toArray (l.length + 1)) rfl rfl rfl (by simp [hlt]) (fun q hq => by simp [Array.getElem?_setIfInBounds_ne (Ne.symm hq)])
    simpa [mp] using this
/-- 'v, ok := m[k]'. -/
theorem y_lookup {t kt et : TypeId} {kk : IntKind} {m x : Operand} {b : Nat} {l : List (Int × Value)} {k : Int} {z : Value} (ht : P.underlying t = some (.map kt et)) (hkt : P.underlying kt = some (.int kk)) (hz : ∀ w, (zeroValue et).run P w = .ok z w)
    (hm : ev ρ m = some (.map (some b))) (hx : ev ρ x = some (I k)) (hh : ∀ p, p ∈ mp b l → p ∈ H.flatten) : Yo P n (.lookup t m x true) ty ρ H (.tuple #[(find l k).getD z, .bool (find l k).isSome]) := by
  intro D a A h w hf ho hs
  have hb : w.heap[b]? = some (.map (ents l 0).toArray l.length) := ho.has (b, Obj.map (ents l 0).toArray l.length) (hs _ (hh _ (by simp [mp])))
  obtain ⟨r, h1, h2⟩ := findNow_ents (kk := kk) k l 0 0
  have hg : (getObj b).run P w = .ok (.map (ents l 0).toArray l.length) w := by simp [getObj, Sem.run, hb]
  have hck : ∀ q, (Instr.checkKey q 10000 kt (I k)).run P w = .ok () w := fun q => run_checkKey hkt 9999
  simp only [runs, execOp, hf.ev hm, hf.ev hx, Instr.lookup, Sem.run_bind, run_underlying ht, Result.andThen_ok, hg, hck, Instr.findKey, run_underlying hkt, h1, Sem.run_pure]
  rw [← h2]
  cases r with
  | none => simp [hz]
  | some q => simp
theorem y_fne_nil {t u : TypeId} {ps rs : Array TypeId} {vr : Bool} {x y : Operand} {v : Value} {c : Bool} (ht : P.underlying t = some (.func ps rs vr)) (hx : ev ρ x = some v) (hy : ev ρ y = some .nilFunc)
    (hc : (match v with | .nilFunc => some false | .func _ _ _ => some true | _ => none) = some c) : Yo P n (.binOp .neq t x y u) ty ρ H (.bool c) :=
  .mk fun _ _ hf w => by
    have h1 : (Op.equal t v .nilFunc).run P w = .ok (!c) w := by
      have : ∀ m : Nat, (Op.equalIn (m + 1) t v .nilFunc).run P w = .ok (!c) w := fun m => by
        cases v <;> simp at hc <;> subst hc <;> simp [Op.equalIn, run_underlying ht]
      exact this 9999
    simp only [runs, execOp, hf.ev hx, hf.ev hy, eqGuard, Sem.run_bind, binOp]
    cases v <;> simp at hc <;> subst hc <;> simp [h1]
theorem Spec_openAt {f : FuncId} {args : List Value} {R : Ending → Hp → Prop} (pre : Hp) {H' : Hp} (hp : Pick pre.flatten H H') (h : Spec P f args (pre ++ H') R) : Spec P f args H R :=
  fun A F w ho => h A F w (by
    have := ho.perm (List.Perm.append_right F hp)
    simpa using this)
theorem Part.nilc {r rest : Hp} (h : Part H r rest) : Part H ([] :: r) rest := by
  unfold Part at *; simpa using h
end
end Go.Sl
