/- A range over a map; deletion. -/
import Derived.Test.Qxb6500573aGreatDoorSlZ
namespace Go.Sl
open Go
set_option linter.unusedVariables false
set_option linter.unusedSimpArgs false
set_option linter.unusedSectionVars false
section
variable {P : Program} {n : Nat} {Q : Post} {D : Defs} {ρ : Env} {H : Hp} {ops : Array Oper} {ty : TypeId} {K : Kont} {d : Nat} {pos : String} {af : Array Edge} {g : Option (Nat × Bool)} {Hs : Hp}
variable {α β : Type} [DecidableEq α] {fk : α → Value} {gv : β → Value}
abbrev kvE (e : MapEntry) : Value × Value := (e.key, e.val)
/-- The first pair with the key, taken out. -/
def mdel : List (α × β) → α → List (α × β)
  | [], _ => []
  | p :: l, x => if x = p.1 then l else p :: mdel l x
theorem findNow_del {kd : TypeDesc} (hk : ∀ x y, Instr.sameNow kd (fk x) (fk y) = some (decide (x = y))) (x : α) : ∀ (l : List (α × β)) (es : List MapEntry) (j : Nat), es.map (fun e => (e.key, e.val)) = l.map (fun p => (fk p.1, gv p.2)) →
    ∃ r, Instr.findNow kd (fk x) es j = some r ∧ (r = none → mdel l x = l) ∧ ∀ i v, r = some (i, v) → j ≤ i ∧ i < j + es.length ∧ (es.eraseIdx (i - j)).map (fun e => (e.key, e.val)) = (mdel l x).map (fun p => (fk p.1, gv p.2))
  | [], [], j, h => ⟨none, rfl, fun _ => rfl, fun _ _ h => by cases h⟩
  | [], _ :: _, j, h => by simp at h
  | _ :: _, [], j, h => by simp at h
  | (k, v) :: l, e :: es, j, h => by
    simp only [List.map_cons, List.cons.injEq, Prod.mk.injEq] at h
    obtain ⟨⟨h1, h2⟩, h3⟩ := h
    unfold Instr.findNow mdel
    rw [h1, hk]
    by_cases hxk : x = k
    · subst hxk
      refine ⟨some (j, e.val), by simp, fun h => by simp at h, fun i w hh => ?_⟩
      cases hh
      refine ⟨Nat.le_refl _, by simp, ?_⟩
      rw [Nat.sub_self, if_pos rfl]
      simpa using h3
    · obtain ⟨r, g1, g2, g3⟩ := findNow_del hk x l es (j + 1) h3
      refine ⟨r, by simp [hxk, g1], fun hr => by simp only [if_neg hxk]; rw [g2 hr], fun i w hh => ?_⟩
      obtain ⟨q1, q2, q3⟩ := g3 i w hh
      refine ⟨by omega, by simp; omega, ?_⟩
      rw [if_neg hxk, show i - j = (i - (j + 1)) + 1 from by omega, List.eraseIdx_cons_succ]
      simp only [List.map_cons, h1, h2, q3]
theorem born_erase {es : List MapEntry} {nx i : Nat} (hn : (es.map (·.born)).Nodup) (hl : ∀ e, e ∈ es → e.born < nx) : ((es.eraseIdx i).map (·.born)).Nodup ∧ ∀ e, e ∈ es.eraseIdx i → e.born < nx :=
  ⟨hn.sublist ((List.eraseIdx_sublist es i).map _), fun e he => hl e ((List.eraseIdx_sublist es i).mem he)⟩
theorem SP1_delG {t kt et u : TypeId} {m x : Operand} {b : Nat} {l : List (α × β)} {k : α} {s : Seg} {H' : Hp} (ht : P.underlying t = some (.map kt et)) (hk : KOk P kt fk) (hM : isMap fk gv b l s)
    (hm : ev ρ m = some (.map (some b))) (hx : ev ρ x = some (fk k)) (hp : Pick s H H')
    (kon : ∀ s', isMap fk gv b (mdel l k) s' → K D ρ (s' :: H')) : SP1 P n { dst := none, op := .call { callee := .builtin .delete, args := #[m, x], argTypes := #[t, u] }, type := ty, pos := pos, after := af, guard := g } Q K D ρ H :=
  fun A F a w hfit ho => by
    obtain ⟨es, nx, rfl, hes, hnd, hlt0⟩ := hM
    obtain ⟨kd, hkd, hsame⟩ := hk.und
    have ho2 : Own A w ((b, Obj.map es.toArray nx) :: (H'.flatten ++ F)) := by
      have := ho.perm (List.Perm.append_right F hp)
      simpa using this
    have hb := ho2.has _ (List.mem_cons_self)
    simp only at hb
    obtain ⟨r, h1, h2, h3⟩ := findNow_del hsame k l es 0 hes
    have hck := hk.chk (es.toArray.isEmpty) k w
    have hg : (getObj b).run P w = .ok (.map es.toArray nx) w := by simp [getObj, Sem.run, hb]
    have hst : ∀ o, (setObj b o).run P w = .ok () { w with heap := w.heap.setIfInBounds b o } := fun o => by simp [setObj, Sem.run, hb]
    obtain ⟨es', hes', hrun⟩ : ∃ es' : List MapEntry, isMap fk gv b (mdel l k) [(b, .map es'.toArray nx)] ∧ (execOp a.eval { dst := none, op := .call { callee := .builtin .delete, args := #[m, x], argTypes := #[t, u] }, type := ty, pos := pos, after := af, guard := g }).run P w = .ok (.value (.tuple #[])) { w with heap := w.heap.setIfInBounds b (.map es'.toArray nx) } := by
      cases r with
      | none =>
        refine ⟨es, ⟨es, nx, rfl, by rw [h2 rfl]; exact hes, hnd, hlt0⟩, ?_⟩
        simp [execOp, resolve, invoke, builtin, Builtin.delete_, underlying, ht, hfit.ev hm, hfit.ev hx, hg, hst]
        rw [show es.isEmpty = es.toArray.isEmpty from by simp, hck]
        simp [Instr.findKey, run_underlying hkd, h1, hst]
      | some q =>
        obtain ⟨i, v⟩ := q
        obtain ⟨q1, q2, q3⟩ := h3 i v rfl
        rw [Nat.sub_zero] at q3
        refine ⟨es.eraseIdx i, ⟨_, nx, rfl, q3, born_erase hnd hlt0⟩, ?_⟩
        have e : es.toArray.eraseIdxIfInBounds i = (es.eraseIdx i).toArray := by
          unfold Array.eraseIdxIfInBounds
          rw [dif_pos (by simpa using q2)]
          simp
        simp [execOp, resolve, invoke, builtin, Builtin.delete_, underlying, ht, hfit.ev hm, hfit.ev hx, hg, hst]
        rw [show es.isEmpty = es.toArray.isEmpty from by simp, hck]
        simp only [Result.andThen_ok, Instr.findKey, Sem.run_bind, run_underlying hkd, h1, Sem.run_pure, e]
        simp [hst]
    unfold Oper.wp
    rw [hrun]
    refine ⟨ρ, _, by rw [show (a.put none (.tuple #[])).defers = D from hfit.defers]; exact hfit, ?_, by rw [show (a.put none (.tuple #[])).defers = D from hfit.defers]; exact kon [(b, .map es'.toArray nx)] hes'⟩
    have hlt : b < w.heap.size := ho2.lt (List.mem_cons_self)
    have := ho2.put (w' := { w with heap := w.heap.setIfInBounds b (.map es'.toArray nx) }) (y := .map es'.toArray nx) rfl rfl rfl (by simp [hlt]) (fun q hq => by simp [Array.getElem?_setIfInBounds_ne (Ne.symm hq)])
    simpa using this
/-- A range over the map l that has rest to go; cur: the pair at hand. -/
def isRng (fk : α → Value) (gv : β → Value) (b r : Nat) (l rest : List (α × β)) (cur : Option (α × β)) (s : Seg) : Prop :=
  ∃ (es : List MapEntry) (nx : Nat) (seen : List Nat), s = [(b, .map es.toArray nx), (r, .mapIter (some b) nx seen.toArray nx)] ∧ es.map (fun e => (e.key, e.val)) = l.map (fun p => (fk p.1, gv p.2)) ∧ (es.map (·.born)).Nodup ∧ (∀ e, e ∈ es → e.born < nx) ∧
    (es.filter fun e => !seen.contains e.born).map (fun e => (e.key, e.val)) = rest.map (fun p => (fk p.1, gv p.2)) ∧ ∀ p, cur = some p → ∃ e, e ∈ es ∧ seen.getLast? = some e.born ∧ e.key = fk p.1 ∧ e.val = gv p.2
theorem isRng.map {b r : Nat} {l rest : List (α × β)} {cur : Option (α × β)} {s : Seg} (h : isRng fk gv b r l rest cur s) : ∃ s1 s2, s = List.flatten [s1, s2] ∧ isMap fk gv b l s1 := by
  obtain ⟨es, nx, seen, rfl, h1, h2, h3, _⟩ := h
  exact ⟨[(b, .map es.toArray nx)], [(r, .mapIter (some b) nx seen.toArray nx)], rfl, es, nx, rfl, h1, h2, h3⟩
theorem SP1_rangeM {t kt et : TypeId} {x : Operand} {b : Nat} {l : List (α × β)} {s : Seg} {H' : Hp} (ht : P.underlying t = some (.map kt et)) (hM : isMap fk gv b l s) (hx : ev ρ x = some (.map (some b))) (hp : Pick s H H') (hd : Nat.ble (d + 1) n = true)
    (kon : ∀ r s', isRng fk gv b r l l none s' → K D ((d, .pointer (some ⟨r, 0, none⟩)) :: ρ) (s' :: H')) : SP1 P n { dst := some d, op := .range t x, type := ty, pos := pos, after := af, guard := g } Q K D ρ H :=
  fun A F a w hf ho => by
    obtain ⟨es, nx, rfl, hes, hnd, hlt0⟩ := hM
    have ho2 : Own A w ((b, Obj.map es.toArray nx) :: (H'.flatten ++ F)) := by
      have := ho.perm (List.Perm.append_right F hp)
      simpa using this
    have hb := ho2.has _ (List.mem_cons_self)
    simp only at hb
    have hg : (getObj b).run P w = .ok (.map es.toArray nx) w := by simp [getObj, Sem.run, hb]
    have hrun : (execOp a.eval { dst := some d, op := .range t x, type := ty, pos := pos, after := af, guard := g }).run P w = .ok (.value (.pointer (some ⟨w.heap.size, 0, none⟩))) (w.alloc (.mapIter (some b) nx #[] nx)) := by
      simp [execOp, Instr.range, hf.ev hx, run_underlying ht, hg, newObj, Sem.run]
    unfold Oper.wp
    rw [hrun]
    refine ⟨_, _, by rw [show (a.put (some d) (.pointer (some ⟨w.heap.size, 0, none⟩))).defers = D from hf.defers]; exact hf.put hd _, ?_, by rw [show (a.put (some d) (.pointer (some ⟨w.heap.size, 0, none⟩))).defers = D from hf.defers]; exact kon w.heap.size [(b, .map es.toArray nx), (w.heap.size, .mapIter (some b) nx #[] nx)] ⟨es, nx, [], rfl, hes, hnd, hlt0, by rw [show (es.filter fun e => !([] : List Nat).contains e.born) = es from List.filter_eq_self.2 (fun _ _ => rfl)]; exact hes, fun p h => by cases h⟩⟩
    have := ho2.alloc (.mapIter (some b) nx #[] nx)
    refine this.perm ?_
    simp only [List.flatten_cons, List.cons_append, List.nil_append]
    exact List.Perm.swap _ _ _
theorem run_pick {m : Nat} (hm : 0 < m) (w : World) : ∃ j w', j < m ∧ (w' = w ∨ w' = w.drew) ∧ (choose (.mapNext m)).run P w = .ok j w' := by
  by_cases h : m ≤ 1
  · exact ⟨0, w, by omega, .inl rfl, by simp [run_choose, Question.forced, h]⟩
  · exact ⟨_, w.drew, Nat.mod_lt _ hm, .inr rfl, by simp [run_choose, Question.forced, Question.cut, h]; rfl⟩
theorem List.map_eraseIdx_ {α β : Type} {f : α → β} {l : List α} {i : Nat} : (l.eraseIdx i).map f = (l.map f).eraseIdx i := by
  induction l generalizing i with
  | nil => rfl
  | cons x l ih => cases i with
    | zero => rfl
    | succ i => simp [ih]
theorem filt_erase {es : List MapEntry} {seen : List Nat} {e : MapEntry} (hn : (es.map (·.born)).Nodup) : ∀ {i : Nat}, (es.filter fun e => !seen.contains e.born)[i]? = some e → (es.filter fun y => !(seen ++ [e.born]).contains y.born) = (es.filter fun e => !seen.contains e.born).eraseIdx i := by
  induction es with
  | nil => intro i h; simp at h
  | cons x es ih =>
    rw [List.map_cons, List.nodup_cons] at hn
    intro i h
    by_cases hx : seen.contains x.born = true
    · have e1 : ∀ q : List Nat, q.contains x.born = true → ((x :: es).filter fun e => !q.contains e.born) = es.filter fun e => !q.contains e.born := fun q hq => by rw [List.filter_cons, if_neg (by rw [hq]; decide)]
      have h2 : (seen ++ [e.born]).contains x.born = true := by
        rw [List.contains_iff_mem] at hx ⊢
        exact List.mem_append_left _ hx
      rw [e1 _ hx] at h ⊢
      rw [e1 _ h2]
      exact ih hn.2 h
    · have hxf : seen.contains x.born = false := by simpa using hx
      have e2 : ((x :: es).filter fun e => !seen.contains e.born) = x :: es.filter fun e => !seen.contains e.born := by rw [List.filter_cons, if_pos (by rw [hxf]; rfl)]
      rw [e2] at h ⊢
      cases i with
      | zero =>
        simp at h
        subst h
        have e3 : ((x :: es).filter fun y => !(seen ++ [x.born]).contains y.born) = es.filter fun y => !(seen ++ [x.born]).contains y.born := by rw [List.filter_cons, if_neg (by simp)]
        rw [e3, List.eraseIdx_cons_zero]
        refine List.filter_congr fun y hy => ?_
        have hne : y.born ≠ x.born := fun e => hn.1 (List.mem_map.2 ⟨y, hy, e⟩)
        congr 1
        rw [Bool.eq_iff_iff, List.contains_iff_mem, List.contains_iff_mem, List.mem_append]
        exact ⟨fun h => h.elim id fun h => absurd (List.mem_singleton.1 h) hne, .inl⟩
      | succ i =>
        rw [List.getElem?_cons_succ] at h
        have hmem : e ∈ es := (List.mem_filter.1 (List.mem_of_getElem? h)).1
        have hne : x.born ≠ e.born := fun q => hn.1 (List.mem_map.2 ⟨e, hmem, q.symm⟩)
        have h2 : (seen ++ [e.born]).contains x.born = false := by
          rw [Bool.eq_false_iff]
          intro hc
          rw [List.contains_iff_mem, List.mem_append] at hc
          rcases hc with hc | hc
          · rw [List.contains_iff_mem.2 hc] at hxf; cases hxf
          · exact hne (List.mem_singleton.1 hc)
        have e3 : ((x :: es).filter fun y => !(seen ++ [e.born]).contains y.born) = x :: es.filter fun y => !(seen ++ [e.born]).contains y.born := by rw [List.filter_cons, if_pos (by rw [h2]; rfl)]
        rw [e3, List.eraseIdx_cons_succ, ih hn.2 h]
theorem SP1_nextM {x : Operand} {b r : Nat} {l rest : List (α × β)} {cur : Option (α × β)} {s : Seg} {H' : Hp} (hI : isRng fk gv b r l rest cur s) (hx : ev ρ x = some (.pointer (some ⟨r, 0, none⟩))) (hp : Pick s H H') (hd : Nat.ble (d + 1) n = true)
    (k0 : rest = [] → K D ((d, .tuple #[.bool false]) :: ρ) (s :: H')) (k1 : ∀ i (hi : i < rest.length) s', isRng fk gv b r l (rest.eraseIdx i) (some rest[i]) s' → K D ((d, .tuple #[.bool true, fk rest[i].1, gv rest[i].2]) :: ρ) (s' :: H')) :
    SP1 P n { dst := some d, op := .next x false, type := ty, pos := pos, after := af, guard := g } Q K D ρ H :=
  fun A F a w hf ho => by
    obtain ⟨es, nx, seen, rfl, hes, hnd, hlt0, hrest, hcur⟩ := hI
    have ho2 : Own A w ((b, Obj.map es.toArray nx) :: (r, Obj.mapIter (some b) nx seen.toArray nx) :: (H'.flatten ++ F)) := by
      have := ho.perm (List.Perm.append_right F hp)
      simpa using this
    have hb := ho2.has _ (List.mem_cons_self)
    have hr := ho2.has _ (List.mem_cons_of_mem _ List.mem_cons_self)
    simp only at hb hr
    have hgb : ∀ w', w'.heap = w.heap → (getObj b).run P w' = .ok (.map es.toArray nx) w' := fun w' e => by simp [getObj, Sem.run, e, hb]
    have hgr : (getObj r).run P w = .ok (.mapIter (some b) nx seen.toArray nx) w := by simp [getObj, Sem.run, hr]
    have hall : es ≠ [] → (es.toArray.all fun e => decide (e.born ≥ nx)) = false := fun hne => by
      obtain ⟨e0, es0, rfl⟩ := List.exists_cons_of_ne_nil hne
      rw [Bool.eq_false_iff]
      intro hc
      have := hlt0 e0 List.mem_cons_self
      simp at hc
      omega
    have htest : (!seen.toArray.isEmpty && !es.toArray.isEmpty && es.toArray.all fun e => decide (e.born ≥ nx)) = false := by
      cases hes2 : es with
      | nil => simp
      | cons e0 es0 => rw [← hes2, hall (by rw [hes2]; simp)]; simp
    have hL : (es.toArray.filter fun e => !seen.toArray.contains e.born) = (es.filter fun e => !seen.contains e.born).toArray := by simp
    have hLlt : ∀ e, e ∈ (es.filter fun e => !seen.contains e.born) → e.born < nx := fun e he => hlt0 e (List.mem_filter.1 he).1
    have hlen : (es.filter fun e => !seen.contains e.born).length = rest.length := by have := congrArg List.length hrest; simpa using this
    have hfe := fun {i : Nat} {e : MapEntry} => filt_erase (es := es) (seen := seen) (e := e) hnd (i := i)
    generalize hLL : (es.filter fun e => !seen.contains e.born) = L at hL hLlt hlen hfe hrest
    have hold : (L.toArray.filter fun e => decide (e.born < nx)) = L.toArray := by
      rw [List.filter_toArray']
      · congr 1
        exact List.filter_eq_self.2 fun e he => by simpa using hLlt e he
      · rfl
    have hnew : (L.toArray.filter fun e => decide (e.born ≥ nx)) = #[] := by
      rw [List.filter_toArray']
      · have : L.filter (fun e => decide (e.born ≥ nx)) = [] := List.filter_eq_nil_iff.2 fun e he => by have := hLlt e he; simp; omega
        rw [this]
      · rfl
    cases hL0 : L with
    | nil =>
      subst hL0
      have hr0 : rest = [] := List.length_eq_zero_iff.1 (by simpa using hlen.symm)
      have hrun : (execOp a.eval { dst := some d, op := .next x false, type := ty, pos := pos, after := af, guard := g }).run P w = .ok (.value (.tuple #[.bool false])) w := by
        simp only [execOp, Instr.next, hf.ev hx, Sem.run_bind, hgr, Result.andThen_ok, hgb w rfl, htest, Bool.false_eq_true, if_false, hL, hold, hnew]
        simp [run_choose, Question.forced]
      unfold Oper.wp
      rw [hrun]
      exact ⟨_, [(b, .map es.toArray nx), (r, .mapIter (some b) nx seen.toArray nx)] :: H', by rw [show (a.put (some d) (.tuple #[.bool false])).defers = D from hf.defers]; exact hf.put hd _, by simpa using ho2, by rw [show (a.put (some d) (.tuple #[.bool false])).defers = D from hf.defers]; exact k0 hr0⟩
    | cons e0 L0 =>
      have hpos : 0 < L.length := by rw [hL0]; simp
      obtain ⟨j, w', hj, hw', hch⟩ := run_pick (P := P) (m := L.length) hpos w
      have hwh : w'.heap = w.heap := by rcases hw' with rfl | rfl <;> rfl
      have hje : L[j]? = some L[j] := List.getElem?_eq_getElem hj
      have hjr : j < rest.length := by omega
      have hkv : L[j].key = fk rest[j].1 ∧ L[j].val = gv rest[j].2 := by
        have := congrArg (fun q => q[j]?) hrest
        simp only [List.getElem?_map, hje, List.getElem?_eq_getElem hjr, Option.map_some, Option.some.injEq, Prod.mk.injEq] at this
        exact this
      have hst : ∀ o, (setObj r o).run P w' = .ok () { w' with heap := w'.heap.setIfInBounds r o } := fun o => by simp [setObj, Sem.run, hwh, hr]
      have hrun : (execOp a.eval { dst := some d, op := .next x false, type := ty, pos := pos, after := af, guard := g }).run P w = .ok (.value (.tuple #[.bool true, fk rest[j].1, gv rest[j].2])) { w' with heap := w'.heap.setIfInBounds r (.mapIter (some b) nx (seen ++ [L[j].born]).toArray nx) } := by
        have hne : L.toArray.isEmpty = false := by rw [hL0]; rfl
        have hsz : (#[] ++ Array.map some (L.toArray ++ #[])).size = L.length := by simp
        have hget : (#[] ++ Array.map some (L.toArray ++ #[]))[j]? = some (some L[j]) := by simp [hje]
        simp only [execOp, Instr.next, hf.ev hx, Sem.run_bind, hgr, Result.andThen_ok, hgb w rfl, htest, Bool.false_eq_true, if_false, hL, hold, hnew, hne, hsz, hch, hget, hst]
        simp [hkv.1, hkv.2]
      unfold Oper.wp
      rw [hrun]
      refine ⟨_, _, by rw [show (a.put (some d) (.tuple #[.bool true, fk rest[j].1, gv rest[j].2])).defers = D from hf.defers]; exact hf.put hd _, ?_, by
        rw [show (a.put (some d) (.tuple #[.bool true, fk rest[j].1, gv rest[j].2])).defers = D from hf.defers]
        refine k1 j hjr [(b, .map es.toArray nx), (r, .mapIter (some b) nx (seen ++ [L[j].born]).toArray nx)] ⟨es, nx, seen ++ [L[j].born], rfl, hes, hnd, hlt0, ?_, fun p hpp => ?_⟩
        · rw [hfe hje, List.map_eraseIdx_, hrest, List.map_eraseIdx_]
        · cases hpp
          have hm : L[j] ∈ es := by
            have : L[j] ∈ es.filter fun e => !seen.contains e.born := by rw [hLL]; exact List.getElem_mem hj
            exact (List.mem_filter.1 this).1
          exact ⟨L[j], hm, by simp, hkv.1, hkv.2⟩⟩
      have ho3 : Own A w' ((r, Obj.mapIter (some b) nx seen.toArray nx) :: (b, Obj.map es.toArray nx) :: (H'.flatten ++ F)) := by
        have := ho2.perm (List.Perm.swap _ _ _)
        rcases hw' with rfl | rfl
        · exact this
        · exact this.drew
      have hlt : r < w'.heap.size := ho3.lt (List.mem_cons_self)
      have := ho3.put (w' := { w' with heap := w'.heap.setIfInBounds r (.mapIter (some b) nx (seen ++ [L[j].born]).toArray nx) }) (y := .mapIter (some b) nx (seen ++ [L[j].born]).toArray nx) rfl rfl rfl (by simp [hlt]) (fun q hq => by simp [Array.getElem?_setIfInBounds_ne (Ne.symm hq)])
      exact (this.perm (List.Perm.swap _ _ _))
theorem find_born_ (e : MapEntry) {es : List MapEntry} (hnd : (es.map (·.born)).Nodup) (he : e ∈ es) : es.find? (fun y => y.born == e.born) = some e := by
  induction es with
  | nil => cases he
  | cons y es ih =>
    rw [List.map_cons, List.nodup_cons] at hnd
    rw [List.find?_cons]
    rcases List.mem_cons.1 he with rfl | he
    · simp
    · have hne : (y.born == e.born) = false := by
        rw [Bool.eq_false_iff]
        intro hc
        exact hnd.1 (List.mem_map.2 ⟨e, he, (beq_iff_eq.1 hc).symm⟩)
      rw [hne]
      exact ih hnd.2 he
theorem y_entryM {x : Operand} {b r : Nat} {l rest : List (α × β)} {p : α × β} {s : Seg} (hI : isRng fk gv b r l rest (some p) s) (hx : ev ρ x = some (.pointer (some ⟨r, 0, none⟩))) (hh : ∀ q, q ∈ s → q ∈ H.flatten) : Yo P n (.entry x) ty ρ H (.tuple #[fk p.1, gv p.2]) := by
  intro D a A h w hf ho hs
  obtain ⟨es, nx, seen, rfl, hes, hnd, hlt0, hrest, hcur⟩ := hI
  obtain ⟨e, he, hlast, hk, hv⟩ := hcur p rfl
  have hb : w.heap[b]? = some (.map es.toArray nx) := ho.has (b, Obj.map es.toArray nx) (hs _ (hh _ (by simp)))
  have hr : w.heap[r]? = some (.mapIter (some b) nx seen.toArray nx) := ho.has (r, Obj.mapIter (some b) nx seen.toArray nx) (hs _ (hh _ (by simp)))
  have hgb : (getObj b).run P w = .ok (.map es.toArray nx) w := by simp [getObj, Sem.run, hb]
  have hgr : (getObj r).run P w = .ok (.mapIter (some b) nx seen.toArray nx) w := by simp [getObj, Sem.run, hr]
  have hf2 := find_born_ e hnd he
  have hbk : seen.toArray.back? = some e.born := by simpa using hlast
  simp [runs, execOp, Instr.entry, hf.ev hx, hgr, hgb, hbk, hf2, hk, hv]
end
end Go.Sl
