/- Rws of rows; cells amid a block; structs within structs. -/
import Derived.Test.Qxb6500573aGreatDoorSlY
namespace Go.Sl
open Go
set_option linter.unusedVariables false
section
variable {α : Type} {one : α → List Value → Seg → Prop} {k : Nat}
def Rws (one : α → List Value → Seg → Prop) : List α → List Value → Seg → Prop
  | [], cs, s => cs = [] ∧ s = []
  | x :: l, cs, s => ∃ c1 s1 c2 s2, cs = c1 ++ c2 ∧ s = s1 ++ s2 ∧ one x c1 s1 ∧ Rws one l c2 s2
theorem Rws.nil : Rws one [] [] [] := ⟨rfl, rfl⟩
theorem Rws.len (hk : ∀ x c s, one x c s → c.length = k) : ∀ {l : List α} {cs : List Value} {s : Seg}, Rws one l cs s → cs.length = l.length * k
  | [], cs, s, h => by rw [h.1]; simp
  | x :: l, cs, s, h => by
    obtain ⟨c1, s1, c2, s2, rfl, rfl, h1, h2⟩ := h
    rw [List.length_append, hk _ _ _ h1, Rws.len hk h2, List.length_cons, Nat.succ_mul, Nat.add_comm]
theorem Rws.split (hk : ∀ x c s, one x c s → c.length = k) : ∀ {l : List α} {cs : List Value} {s : Seg}, Rws one l cs s → ∀ {i : Nat} (hi : i < l.length),
    ∃ c0 ci c2 s0 si s2, cs = c0 ++ ci ++ c2 ∧ s = List.flatten [s0, si, s2] ∧ c0.length = i * k ∧ ci.length = k ∧ one l[i] ci si ∧ (∀ x c' s', one x c' s' → Rws one (l.set i x) (c0 ++ c' ++ c2) (List.flatten [s0, s', s2]))
  | [], _, _, _, i, hi => by simp at hi
  | x :: l, cs, s, h, i, hi => by
    obtain ⟨c1, s1, c2, s2, rfl, rfl, h1, h2⟩ := h
    cases i with
    | zero => exact ⟨[], c1, c2, [], s1, s2, by simp, by simp, by simp, hk _ _ _ h1, h1, fun y c' s' hy => ⟨c', s', c2, s2, by simp, by simp, hy, h2⟩⟩
    | succ i =>
      obtain ⟨c0, ci, c3, s0, si, s3, rfl, rfl, h3, h4, h5, h6⟩ := Rws.split hk h2 (i := i) (by simpa using hi)
      refine ⟨c1 ++ c0, ci, c3, s1 ++ s0, si, s3, by simp, by simp, by rw [List.length_append, hk _ _ _ h1, h3, Nat.succ_mul, Nat.add_comm], h4, h5, fun y c' s' hy => ?_⟩
      rw [List.set_cons_succ]
      exact ⟨c1, s1, c0 ++ c' ++ c3, List.flatten [s0, s', s3], by simp, by simp, h1, h6 y c' s' hy⟩
theorem Rws.app : ∀ {l l' : List α} {cs cs' : List Value} {s s' : Seg}, Rws one l cs s → Rws one l' cs' s' → Rws one (l ++ l') (cs ++ cs') (s ++ s')
  | [], l', cs, cs', s, s', h, h' => by obtain ⟨rfl, rfl⟩ := h; exact h'
  | x :: l, l', cs, cs', s, s', h, h' => by
    obtain ⟨c1, s1, c2, s2, rfl, rfl, h1, h2⟩ := h
    exact ⟨c1, s1, c2 ++ cs', s2 ++ s', by simp, by simp, h1, Rws.app h2 h'⟩
theorem Rws.single {x : α} {c : List Value} {s : Seg} (h : one x c s) : Rws one [x] c s := ⟨c, s, [], [], by simp, by simp, h, rfl, rfl⟩
theorem Rws.part : ∀ {l l' : List α} {cs : List Value} {s : Seg}, Rws one (l ++ l') cs s → ∃ c1 c2 s1 s2, cs = c1 ++ c2 ∧ s = s1 ++ s2 ∧ Rws one l c1 s1 ∧ Rws one l' c2 s2
  | [], l', cs, s, h => ⟨[], cs, [], s, rfl, rfl, ⟨rfl, rfl⟩, h⟩
  | x :: l, l', cs, s, h => by
    obtain ⟨c1, s1, c2, s2, rfl, rfl, h1, h2⟩ := h
    obtain ⟨d1, d2, r1, r2, rfl, rfl, h3, h4⟩ := Rws.part h2
    exact ⟨c1 ++ d1, d2, s1 ++ r1, r2, by simp, by simp, ⟨c1, s1, d1, r1, rfl, rfl, h1, h3⟩, h4⟩
end
section
variable {b o j : Nat} {T : TypeId} {pre cs post : List Value} {H : Hp} {v : Value}
/-- Amid a block. -/
theorem Cell.amid (hp : pre.length = o) (hv : cs[j]? = some v) : Cell (blk b T (pre ++ cs ++ post) :: H) b (o + j) v := by
  refine Cell.head ?_
  have hj := (List.getElem?_eq_some_iff.1 hv).1
  rw [List.append_assoc, List.getElem?_append_right (by omega), ← hp, Nat.add_sub_cancel_left, List.getElem?_append_left hj, hv]
theorem Cell.amid0 (hp : pre.length = o) (hv : cs[0]? = some v) : Cell (blk b T (pre ++ cs ++ post) :: H) b o v := Cell.amid (j := 0) hp hv
theorem Cells.amid {vs : List Value} (hp : pre.length = o) (hv : (cs.drop j).take vs.length = vs) (hl : j + vs.length ≤ cs.length) : Cells (blk b T (pre ++ cs ++ post) :: H) b (o + j) vs := by
  refine Cells.head ?_
  have e : (pre ++ cs ++ post).drop (o + j) = cs.drop j ++ post := by
    rw [List.append_assoc, ← hp, List.drop_length_add_append, List.drop_append_of_le_length (by omega)]
  rw [e, List.take_append_of_le_length (by rw [List.length_drop]; omega), hv]
theorem Cells.amid0 {vs : List Value} (hp : pre.length = o) (hv : cs.take vs.length = vs) (hl : vs.length ≤ cs.length) : Cells (blk b T (pre ++ cs ++ post) :: H) b o vs := Cells.amid (j := 0) hp (by simpa using hv) (by simpa using hl)
theorem set_mid (hp : pre.length = o) (hj : j < cs.length) : (pre ++ cs ++ post).set (o + j) v = pre ++ cs.set j v ++ post := by
  rw [List.append_assoc, List.set_append_right _ _ (by omega), ← hp, Nat.add_sub_cancel_left, List.set_append_left _ _ hj, List.append_assoc]
theorem set_mid0 (hp : pre.length = o) (hj : 0 < cs.length) : (pre ++ cs ++ post).set o v = pre ++ cs.set 0 v ++ post := set_mid (j := 0) hp hj
theorem ble_mid (hp : pre.length = o) (hj : j < cs.length) : Nat.ble (o + j + 1) (pre ++ cs ++ post).length = true := ble_of (by simp only [List.length_append]; omega)
theorem ble_mid0 (hp : pre.length = o) (hj : 0 < cs.length) : Nat.ble (o + 1) (pre ++ cs ++ post).length = true := ble_mid (j := 0) hp hj
end
section
variable {P : Program} {n : Nat} {Q : Post} {D : Defs} {ρ : Env} {H : Hp} {ty : TypeId} {K : Kont} {d : Nat} {pos : String} {af : Array Edge} {g : Option (Nat × Bool)}
theorem SP1_storesM {t : TypeId} {x y : Operand} {b o j k : Nat} {T : TypeId} {v : Value} {vs pre cs post : List Value} {H' : Hp} (hz : ∀ w, (sizeOf t).run P w = .ok k w) (hx : ev ρ x = some (.pointer (some ⟨b, o + j, none⟩))) (hy : ev ρ y = some v)
    (hv : v.cells = vs.toArray) (hk : vs.length = k) (h1 : vs.all Value.oneCell' = true) (hp : pre.length = o) (hu : Upd H b T (pre ++ cs ++ post) (pre ++ (cs.take j ++ vs ++ cs.drop (j + k)) ++ post) H') (hj : Nat.ble (j + k) cs.length = true)
    (kk : K D ρ H') : SP1 P n { dst := none, op := .store t x y, type := ty, pos := pos, after := af, guard := g } Q K D ρ H := by
  have hj : j + k ≤ cs.length := Nat.le_of_ble_eq_true hj
  refine SP1_stores hz hx hy hv hk (fun u hu => List.all_eq_true.1 h1 u hu) hu (by simp only [List.length_append]; omega) ?_ kk
  subst hp hk
  rw [List.append_assoc pre cs post, List.take_length_add_append, Nat.add_assoc, List.drop_length_add_append, List.take_append_of_le_length (by omega), List.drop_append_of_le_length (by omega)]
  simp
theorem SP1_storeM {t : TypeId} {x y : Operand} {b o j : Nat} {T : TypeId} {v : Value} {pre cs post : List Value} {H' : Hp} (hz : ∀ w, (sizeOf t).run P w = .ok 1 w) (hx : ev ρ x = some (.pointer (some ⟨b, o + j, none⟩))) (hy : ev ρ y = some v)
    (h1 : v.oneCell' = true) (hp : pre.length = o) (hu : Upd H b T (pre ++ cs ++ post) (pre ++ cs.set j v ++ post) H') (hj : Nat.ble (j + 1) cs.length = true)
    (kk : K D ρ H') : SP1 P n { dst := none, op := .store t x y, type := ty, pos := pos, after := af, guard := g } Q K D ρ H := by
  have hj' : j < cs.length := Nat.le_of_ble_eq_true hj
  refine SP1_store (T := T) (l := pre ++ cs ++ post) hz hx hy h1 ?_ (ble_mid hp hj') kk
  rw [set_mid hp hj']; exact hu
/-- A struct type whose fields take any number of cells. -/
def BldN (P : Program) (t : TypeId) (z : List Value) (pl : List (Nat × Nat)) : Prop :=
  (∀ w, (zeroValue t).run P w = .ok (.agg z.toArray) w) ∧ ∃ fs : List Field, P.underlying t = some (.struct fs.toArray) ∧ fs.length = pl.length ∧ ∀ (i : Nat) (f : Field), fs[i]? = some f → ∃ sz, pl[i]? = some (f.offset, sz) ∧ ∀ w, (sizeOf f.type).run P w = .ok sz w
theorem run_mapM_list {α β : Type} (f : α → Sem β) (w : World) : ∀ (l : List α) (r : List β), l.length = r.length → (∀ (i : Nat) (x : α), l[i]? = some x → ∃ y, r[i]? = some y ∧ (f x).run P w = .ok y w) → (l.mapM f).run P w = .ok r w
  | [], [], _, _ => by simp
  | [], _ :: _, h, _ => by simp at h
  | _ :: _, [], h, _ => by simp at h
  | x :: l, y :: r, h, hx => by
    have ih := run_mapM_list f w l r (by simpa using h) (fun i z hz => hx (i + 1) z (by simpa using hz))
    obtain ⟨y', hy, hf⟩ := hx 0 x rfl
    have : y = y' := by simpa using hy
    subst this
    simp [List.mapM_cons, hf, ih]
theorem y_buildN {t : TypeId} {parts : List (Nat × Operand)} {z l : List Value} {pl : List (Nat × Nat)} {vs : List (Nat × Value)} (hB : BldN P t z pl) (hp : evp ρ parts = some vs) (hf : Instr.fill (fun i => pl[i]?) z.toArray vs = some l.toArray) : Yo P n (.build t parts.toArray) ty ρ H (.agg l.toArray) := by
  refine .mk fun D a hfit w => ?_
  obtain ⟨hz, fs, hu, hlen, hfs⟩ := hB
  have e := hfit.evp hp
  have hm : ((fs.toArray).mapM fun f => do pure (f.offset, ← sizeOf f.type) : Sem (Array (Nat × Nat))).run P w = .ok pl.toArray w := by
    rw [Array.mapM_eq_mapM_toList]
    have := run_mapM_list (P := P) (fun f : Field => (do pure (f.offset, ← sizeOf f.type) : Sem (Nat × Nat))) w fs pl hlen (fun i f hi => by
      obtain ⟨sz, h1, h2⟩ := hfs i f hi
      exact ⟨_, h1, by simp [h2]⟩)
    rw [Sem.run_map, this]
    rfl
  simp only [runs, execOp, Instr.build, Sem.run_bind, hz, Result.andThen_ok, underlying, run_program, hu, Sem.run_pure, hm, Value.cells]
  have e' : (Array.map (fun x : Nat × Operand => (x.1, a.eval x.2)) parts.toArray).toList = vs := by simpa using e
  rw [show (Array.map (fun x => match x with | (i, x) => (i, a.eval x)) parts.toArray).toList = vs from e']
  rw [show Instr.fill (fun x => pl.toArray[x]?) z.toArray vs = some l.toArray from by rw [show (fun x => pl.toArray[x]?) = (fun i => pl[i]?) from by funext i; simp]; exact hf]
  rfl
variable {α β : Type} {fk : α → Value} {gv : β → Value}
theorem SP1_clearG {t : TypeId} {kt et : TypeId} {x : Operand} {b : Nat} {l : List (α × β)} {s : Seg} {H' : Hp} (hM : isMap fk gv b l s) (ht : P.underlying t = some (.map kt et)) (hm : ev ρ x = some (.map (some b))) (hp : Pick s H H')
    (kon : ∀ s', isMap fk gv b ([] : List (α × β)) s' → K D ρ (s' :: H')) : SP1 P n { dst := none, op := .call { callee := .builtin .clear, args := #[x], argTypes := #[t] }, type := ty, pos := pos, after := af, guard := g } Q K D ρ H :=
  fun A F a w hfit ho => by
    obtain ⟨es, nx, rfl, hes⟩ := hM
    have ho2 : Own A w ((b, Obj.map es.toArray nx) :: (H'.flatten ++ F)) := by
      have := ho.perm (List.Perm.append_right F hp)
      simpa using this
    have hb := ho2.has _ (List.mem_cons_self)
    simp only at hb
    have hg : (getObj b).run P w = .ok (.map es.toArray nx) w := by simp [getObj, Sem.run, hb]
    have hst : ∀ o, (setObj b o).run P w = .ok () { w with heap := w.heap.setIfInBounds b o } := fun o => by simp [setObj, Sem.run, hb]
    have hrun : (execOp a.eval { dst := none, op := .call { callee := .builtin .clear, args := #[x], argTypes := #[t] }, type := ty, pos := pos, after := af, guard := g }).run P w = .ok (.value (.tuple #[])) { w with heap := w.heap.setIfInBounds b (.map #[] nx) } := by
      simp [execOp, resolve, invoke, builtin, Builtin.clear_, underlying, ht, hfit.ev hm, hg, hst]
    unfold Oper.wp
    rw [hrun]
    refine ⟨ρ, _, by rw [show (a.put none (.tuple #[])).defers = D from hfit.defers]; exact hfit, ?_, by rw [show (a.put none (.tuple #[])).defers = D from hfit.defers]; exact kon [(b, .map #[] nx)] ⟨[], nx, rfl, rfl, List.nodup_nil, fun _ h => by cases h⟩⟩
    have hlt : b < w.heap.size := ho2.lt (List.mem_cons_self)
    have := ho2.put (w' := { w with heap := w.heap.setIfInBounds b (.map #[] nx) }) (y := .map #[] nx) rfl rfl rfl (by simp [hlt]) (fun q hq => by simp [Array.getElem?_setIfInBounds_ne (Ne.symm hq)])
    simpa using this
end
section
variable {P : Program} {n : Nat} {Q : Post} {D : Defs} {ρ : Env} {H : Hp} {ops : Array Oper} {Hs : Hp}
/-- Guarded operations that act: where the guard says yes. -/
theorem SPO_ay {i j t : Nat} {b : Bool} {o : Oper} {ord : List (Nat × Nat)} (hi : ops[i]? = some o) (hg : o.guard = some (j, b)) (hj : (ops[j]?).bind (·.dst) = some t) (ht : look ρ t = some (.bool b))
    (h : SP1 P n o Q (fun D ρ H => (∃ rest, Part H Hs rest) ∧ SPO P n ops Q Hs ord D ρ H) D ρ H) : SPO P n ops Q Hs ((i, 2) :: ord) D ρ H := fun A F a w hf ho => by
  simp only [wpOrd]
  unfold wpOp
  simp only [hi]
  rw [if_pos (by simp [Region.wanted, hg, yielded, hj, hf.get t _ ht])]
  refine .inl (Oper.wp_mono (fun a w hk => ?_) (h A F a w hf ho))
  obtain ⟨ρ, H, k1, k2, ⟨rest, k3⟩, k4⟩ := hk
  exact ⟨(k3.drop k2).left, k4 A F a w k1 k2⟩
theorem SPO_zy {i k j t : Nat} {b : Bool} {o : Oper} {ord : List (Nat × Nat)} (hi : ops[i]? = some o) (hg : o.guard = some (j, b)) (hj : (ops[j]?).bind (·.dst) = some t) (ht : look ρ t = some (.bool b))
    (h : SP1 P n o Q (fun D ρ H => SPO P n ops Q Hs ord D ρ H) D ρ H) : SPO P n ops Q Hs ((i, k + 3) :: ord) D ρ H := fun A F a w hf ho => by
  simp only [wpOrd]
  unfold wpOp
  simp only [hi]
  rw [if_pos (by simp [Region.wanted, hg, yielded, hj, hf.get t _ ht])]
  refine .inl (Oper.wp_mono (fun a w hk => ?_) (h A F a w hf ho))
  obtain ⟨ρ, H, k1, k2, k4⟩ := hk
  exact k4 A F a w k1 k2
theorem SPO_zn {i k d j t : Nat} {b c : Bool} {op : Op} {ty : TypeId} {pos : String} {af : Array Edge} {ord : List (Nat × Nat)} (hi : ops[i]? = some { dst := some d, op := op, type := ty, pos := pos, after := af, guard := some (j, b) })
    (hj : (ops[j]?).bind (·.dst) = some t) (ht : look ρ t = some (.bool c)) (hc : (c == b) = false) (hd : Nat.ble (d + 1) n = true) (kk : SPO P n ops Q Hs ord D ((d, undef) :: ρ) H) : SPO P n ops Q Hs ((i, k + 3) :: ord) D ρ H := fun A F a w hf ho => by
  simp only [wpOrd]
  unfold wpOp
  simp only [hi]
  rw [if_neg (by simp [Region.wanted, yielded, hj, hf.get t _ ht]; simpa using hc)]
  exact kk A F _ w (hf.put hd undef) ho
end
end Go.Sl
