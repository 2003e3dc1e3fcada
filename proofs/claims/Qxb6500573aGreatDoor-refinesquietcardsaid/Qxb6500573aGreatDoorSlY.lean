/- Maps of any plain key; rows of rows; cells amid a block. -/
import Derived.Test.Qxb6500573aGreatDoorSlX
namespace Go.Sl
open Go
set_option linter.unusedVariables false
section
variable {P : Program} {n : Nat} {Q : Post} {D : Defs} {ρ : Env} {H : Hp} {ops : Array Oper} {ty : TypeId} {K : Kont} {d : Nat} {pos : String} {af : Array Edge} {g : Option (Nat × Bool)} {Hs : Hp}
variable {α β : Type} [DecidableEq α] {fk : α → Value} {gv : β → Value}
structure KOk (P : Program) (kt : TypeId) (fk : α → Value) : Prop where
  und : ∃ kd, P.underlying kt = some kd ∧ (∀ x y, Instr.sameNow kd (fk x) (fk y) = some (decide (x = y)))
  chk : ∀ b x w, (Instr.checkKey b 10000 kt (fk x)).run P w = .ok () w
theorem KOk.int {kt : TypeId} {kk : IntKind} (h : P.underlying kt = some (.int kk)) : KOk P kt (fun i : Int => .int kk i) := by
  refine ⟨⟨_, h, fun x y => ?_⟩, fun b x w => run_checkKey h 9999⟩
  simp [Instr.sameNow]
  by_cases e : x = y <;> simp [e]
theorem KOk.str {kt : TypeId} (h : P.underlying kt = some .string) : KOk P kt S := by
  refine ⟨⟨_, h, fun x y => ?_⟩, fun b x w => ?_⟩
  · show some ((⟨⟨x⟩⟩ : ByteArray) == ⟨⟨y⟩⟩) = _
    congr 1
    have hb : ∀ a b : ByteArray, (a == b) = (a.data == b.data) := fun a b => rfl
    rw [hb]
    by_cases e : x = y <;> simp [e]
  · have : ∀ m : Nat, (Instr.checkKey b (m + 1) kt (S x)).run P w = .ok () w := fun m => by
      simp only [Instr.checkKey, Sem.run_bind, run_underlying h, Result.andThen_ok]
      rfl
    exact this 9999
def isMap (fk : α → Value) (gv : β → Value) (b : Nat) (l : List (α × β)) (s : Seg) : Prop :=
  ∃ (es : List MapEntry) (nx : Nat), s = [(b, .map es.toArray nx)] ∧ es.map (fun e => (e.key, e.val)) = l.map (fun p => (fk p.1, gv p.2)) ∧ (es.map (·.born)).Nodup ∧ ∀ e, e ∈ es → e.born < nx
theorem born_push {es : List MapEntry} {nx : Nat} {k v : Value} (hn : (es.map (·.born)).Nodup) (hl : ∀ e, e ∈ es → e.born < nx) : ((es ++ [({ key := k, val := v, born := nx } : MapEntry)]).map (·.born)).Nodup := by
  rw [List.map_append, List.nodup_append]
  refine ⟨hn, by simp, fun x hx y hy e => ?_⟩
  obtain ⟨z, hz, rfl⟩ := List.mem_map.1 hx
  have := hl z hz
  simp at hy
  omega
theorem born_lt {es : List MapEntry} {nx : Nat} {k v : Value} (hl : ∀ e, e ∈ es → e.born < nx) : ∀ e, e ∈ es ++ [({ key := k, val := v, born := nx } : MapEntry)] → e.born < nx + 1 := by
  intro e he
  rcases List.mem_append.1 he with he | he
  · have := hl e he; omega
  · rw [List.mem_singleton] at he; subst he; exact Nat.lt_succ_self _
def mfind : List (α × β) → α → Option β
  | [], _ => none
  | (k, v) :: l, x => if x = k then some v else mfind l x
theorem findNow_map {kd : TypeDesc} (hk : ∀ x y, Instr.sameNow kd (fk x) (fk y) = some (decide (x = y))) (x : α) : ∀ (l : List (α × β)) (es : List MapEntry) (j : Nat), es.map (fun e => (e.key, e.val)) = l.map (fun p => (fk p.1, gv p.2)) →
    ∃ r, Instr.findNow kd (fk x) es j = some r ∧ r.map Prod.snd = (mfind l x).map gv
  | [], [], j, h => ⟨none, rfl, rfl⟩
  | [], _ :: _, j, h => by simp at h
  | _ :: _, [], j, h => by simp at h
  | (k, v) :: l, e :: es, j, h => by
    simp only [List.map_cons, List.cons.injEq, Prod.mk.injEq] at h
    obtain ⟨⟨h1, h2⟩, h3⟩ := h
    unfold Instr.findNow mfind
    rw [h1, hk]
    by_cases e : x = k
    · subst e; simp [h2]
    · simp [e]
      exact findNow_map hk x l es (j + 1) h3
omit [DecidableEq α] in
theorem isMap.len {b : Nat} {l : List (α × β)} {s : Seg} (h : isMap fk gv b l s) : ∃ (es : List MapEntry) (nx : Nat), s = [(b, .map es.toArray nx)] ∧ es.length = l.length := by
  obtain ⟨es, nx, rfl, h2, _⟩ := h
  exact ⟨es, nx, rfl, by have := congrArg List.length h2; simpa using this⟩
omit [DecidableEq α] in
theorem SP1_makeMapG {t : TypeId} (fk : α → Value) (gv : β → Value) (hd : Nat.ble (d + 1) n = true) (kk : ∀ b s, isMap fk gv b [] s → K D ((d, .map (some b)) :: ρ) (s :: H)) :
    SP1 P n { dst := some d, op := .makeMap t none, type := ty, pos := pos, after := af, guard := g } Q K D ρ H :=
  SP1_makeMap hd (fun b => kk b (mp b []) ⟨[], 0, rfl, rfl, List.nodup_nil, fun _ h => by cases h⟩)
theorem SP1_putG {t kt et : TypeId} {m x y : Operand} {b : Nat} {l : List (α × β)} {k : α} {v : β} {s : Seg} {H' : Hp} (ht : P.underlying t = some (.map kt et)) (hk : KOk P kt fk) (hM : isMap fk gv b l s)
    (hm : ev ρ m = some (.map (some b))) (hx : ev ρ x = some (fk k)) (hy : ev ρ y = some (gv v)) (hp : Pick s H H') (hf : mfind l k = none)
    (kon : ∀ s', isMap fk gv b (l ++ [(k, v)]) s' → K D ρ (s' :: H')) : SP1 P n { dst := none, op := .mapUpdate t m x y, type := ty, pos := pos, after := af, guard := g } Q K D ρ H :=
  fun A F a w hfit ho => by
    obtain ⟨es, nx, rfl, hes, hnd, hlt0⟩ := hM
    obtain ⟨kd, hkd, hsame⟩ := hk.und
    have ho2 : Own A w ((b, Obj.map es.toArray nx) :: (H'.flatten ++ F)) := by
      have := ho.perm (List.Perm.append_right F hp)
      simpa using this
    have hb := ho2.has _ (List.mem_cons_self)
    simp only at hb
    obtain ⟨r, h1, h2⟩ := findNow_map hsame k l es 0 hes
    rw [hf] at h2
    have hr : r = none := by cases r with
      | none => rfl
      | some z => simp at h2
    subst hr
    have hck := hk.chk false k w
    have hg : (getObj b).run P w = .ok (.map es.toArray nx) w := by simp [getObj, Sem.run, hb]
    have hst : ∀ o, (setObj b o).run P w = .ok () { w with heap := w.heap.setIfInBounds b o } := fun o => by simp [setObj, Sem.run, hb]
    have e : es.toArray.push ({ key := fk k, val := gv v, born := nx } : MapEntry) = (es ++ [({ key := fk k, val := gv v, born := nx } : MapEntry)]).toArray := by simp
    have hrun : (execOp a.eval { dst := none, op := .mapUpdate t m x y, type := ty, pos := pos, after := af, guard := g }).run P w = .ok .skip { w with heap := w.heap.setIfInBounds b (.map (es ++ [({ key := fk k, val := gv v, born := nx } : MapEntry)]).toArray (nx + 1)) } := by
      simp only [execOp, hfit.ev hm, hfit.ev hx, hfit.ev hy, Instr.mapUpdate, Sem.run_bind, run_underlying ht, Result.andThen_ok, hg, hck, Instr.findKey, run_underlying hkd, h1, Sem.run_pure, hst, e]
    unfold Oper.wp
    rw [hrun]
    refine ⟨ρ, _, by rw [show (a.put none undef).defers = D from hfit.defers]; exact hfit, ?_, by rw [show (a.put none undef).defers = D from hfit.defers]; exact kon [(b, .map (es ++ [({ key := fk k, val := gv v, born := nx } : MapEntry)]).toArray (nx + 1))] ⟨_, _, rfl, by simp [hes], born_push hnd hlt0, fun e he => born_lt hlt0 e he⟩⟩
    have hlt : b < w.heap.size := ho2.lt (List.mem_cons_self)
    have := ho2.put (w' := { w with heap := w.heap.setIfInBounds b (.map (es ++ [({ key := fk k, val := gv v, born := nx } : MapEntry)]).toArray (nx + 1)) }) (y := .map (es ++ [({ key := fk k, val := gv v, born := nx } : MapEntry)]).toArray (nx + 1)) rfl rfl rfl (by simp [hlt]) (fun q hq => by simp [Array.getElem?_setIfInBounds_ne (Ne.symm hq)])
    simpa using this
theorem y_lookupG {t kt et : TypeId} {m x : Operand} {b : Nat} {l : List (α × β)} {k : α} {z : Value} {s : Seg} (hM : isMap fk gv b l s) (ht : P.underlying t = some (.map kt et)) (hk : KOk P kt fk) (hz : ∀ w, (zeroValue et).run P w = .ok z w)
    (hm : ev ρ m = some (.map (some b))) (hx : ev ρ x = some (fk k)) (hh : ∀ p, p ∈ s → p ∈ H.flatten) : Yo P n (.lookup t m x true) ty ρ H (.tuple #[((mfind l k).map gv).getD z, .bool (mfind l k).isSome]) := by
  intro D a A h w hf ho hs
  obtain ⟨es, nx, rfl, hes, _⟩ := hM
  obtain ⟨kd, hkd, hsame⟩ := hk.und
  have hb : w.heap[b]? = some (.map es.toArray nx) := ho.has (b, Obj.map es.toArray nx) (hs _ (hh _ (by simp)))
  obtain ⟨r, h1, h2⟩ := findNow_map hsame k l es 0 hes
  have hg : (getObj b).run P w = .ok (.map es.toArray nx) w := by simp [getObj, Sem.run, hb]
  have hck : ∀ q, (Instr.checkKey q 10000 kt (fk k)).run P w = .ok () w := fun q => hk.chk q k w
  simp only [runs, execOp, hf.ev hm, hf.ev hx, Instr.lookup, Sem.run_bind, run_underlying ht, Result.andThen_ok, hg, hck, Instr.findKey, run_underlying hkd, h1, Sem.run_pure]
  rw [← h2]
  have h3 : (mfind l k).isSome = r.isSome := by
    have := congrArg Option.isSome h2
    simpa using this.symm
  cases r with
  | none => simp [hz, h3]
  | some q => simp [h3]
omit [DecidableEq α] in
theorem y_len_m {t kt et : TypeId} {x : Operand} {b : Nat} {l : List (α × β)} {s : Seg} (hM : isMap fk gv b l s) (ht : P.underlying t = some (.map kt et)) (hx : ev ρ x = some (.map (some b))) (hh : ∀ p, p ∈ s → p ∈ H.flatten) :
    Yo P n (.call { callee := .builtin .len, args := #[x], argTypes := #[t] }) ty ρ H (I l.length) := by
  intro D a A h w hf ho hs
  obtain ⟨es, nx, rfl, hl⟩ := hM.len
  have hb : w.heap[b]? = some (.map es.toArray nx) := ho.has (b, Obj.map es.toArray nx) (hs _ (hh _ (by simp)))
  have hg : (getObj b).run P w = .ok (.map es.toArray nx) w := by simp [getObj, Sem.run, hb]
  simp [runs, execOp, resolve, invoke, builtin, Builtin.len_, underlying, ht, hf.ev hx, hg, hl, goInt]
end
end Go.Sl
