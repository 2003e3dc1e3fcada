/- Structs built, slices made, appended to, cut; bytes to strings. -/
import Derived.Test.Qxb6500573aGreatDoorSlF
namespace Go.Sl
open Go

section
variable {P : Program} {n : Nat} {Q : Post} {D : Defs} {ρ : Env} {H : Hp} {ops : Array Oper} {ty : TypeId} {K : Kont} {d : Nat} {pos : String} {af : Array Edge} {g : Option (Nat × Bool)} {Hs : Hp}

/-! ### A struct, built of one-cell parts -/
def evp (ρ : Env) : List (Nat × Operand) → Option (List (Nat × Value))
  | [] => some []
  | (i, x) :: l => match ev ρ x, evp ρ l with
    | some v, some vs => some ((i, v) :: vs)
    | _, _ => none
theorem Fits.evp {n : Nat} {D : Defs} {ρ : Env} {a : Act} (f : Fits n D ρ a) : ∀ {xs : List (Nat × Operand)} {vs : List (Nat × Value)}, evp ρ xs = some vs → xs.map (fun p => (p.1, a.eval p.2)) = vs
  | [], vs, h => by simp [Sl.evp] at h; simp [h]
  | (i, x) :: xs, vs, h => by
    simp only [Sl.evp] at h
    split at h
    · rename_i v us h1 h2
      simp at h; subst h
      simp [f.ev h1, f.evp h2]
    · simp at h

def fillL (l : List Value) (vs : List (Nat × Value)) : List Value := vs.foldl (fun c p => c.set p.1 p.2) l
def fillOk (k : Nat) : List (Nat × Value) → Bool
  | [] => true
  | (i, v) :: l => v.oneCell' && Nat.ble (i + 1) k && fillOk k l
theorem fillOk_spec {k : Nat} : ∀ {vs : List (Nat × Value)}, fillOk k vs = true → ∀ p, p ∈ vs → p.2.oneCell' = true ∧ p.1 < k
  | [], _, p, hp => by simp at hp
  | (i, v) :: vs, h, p, hp => by
    simp only [fillOk, Bool.and_eq_true] at h
    rcases List.mem_cons.1 hp with rfl | hp
    · exact ⟨h.1.1, Nat.le_of_ble_eq_true h.1.2⟩
    · exact fillOk_spec h.2 p hp

/-- A struct type all of whose fields take one cell. -/
def Bld (P : Program) (t : TypeId) (z : List Value) : Prop :=
  (∀ w, (zeroValue t).run P w = .ok (.agg z.toArray) w) ∧ ∃ fs : List Field, P.underlying t = some (.struct fs.toArray) ∧ fs.length = z.length ∧ ∀ (i : Nat) (f : Field), fs[i]? = some f → f.offset = i ∧ ∀ w, (sizeOf f.type).run P w = .ok 1 w

theorem cells_one {v : Value} (h : v.oneCell' = true) : v.cells = #[v] := by cases v <;> first | rfl | (simp [Value.oneCell'] at h)

theorem run_mapM_pure {α β : Type} (f : α → Sem β) (gg : α → β) (w : World) : ∀ (l : List α), (∀ x, x ∈ l → (f x).run P w = .ok (gg x) w) → (l.mapM f).run P w = .ok (l.map gg) w
  | [], _ => by simp
  | x :: l, h => by
    have ih := run_mapM_pure f gg w l (fun y hy => h y (List.mem_cons_of_mem _ hy))
    simp [List.mapM_cons, h x (List.mem_cons_self), ih]

theorem fill_ok {place : Nat → Option (Nat × Nat)} : ∀ (vs : List (Nat × Value)) (l : List Value), (∀ p, p ∈ vs → p.2.oneCell' = true ∧ p.1 < l.length) → (∀ i, i < l.length → place i = some (i, 1)) →
    Instr.fill place l.toArray vs = some (vs.foldl (fun c p => c.set p.1 p.2) l).toArray
  | [], l, _, _ => by simp [Instr.fill]
  | (i, v) :: vs, l, h, hp => by
    obtain ⟨h1, h2⟩ := h (i, v) (List.mem_cons_self)
    have ih := fill_ok vs (l.set i v) (fun p hq => by have := h p (List.mem_cons_of_mem _ hq); simpa using this) (fun j hj => hp j (by simpa using hj))
    have e : (v.cells.zipIdx.foldl (fun cs (c, j) => cs.setIfInBounds (i + j) c) l.toArray) = (l.set i v).toArray := by
      rw [cells_one h1]; simp
    simp only [Instr.fill, hp i h2]
    rw [cells_one h1] at e ⊢
    simp only [List.size_toArray, List.length_cons, List.length_nil]
    rw [if_neg (by simp; omega), e, ih]
    simp

theorem y_build {t : TypeId} {parts : List (Nat × Operand)} {z l : List Value} {vs : List (Nat × Value)} (hB : Bld P t z) (hp : evp ρ parts = some vs) (hf : fillOk z.length vs = true) (hl : fillL z vs = l) : Yo P n (.build t parts.toArray) ty ρ H (.agg l.toArray) := by
  refine .mk fun D a hfit w => ?_
  obtain ⟨hz, fs, hu, hlen, hfs⟩ := hB
  have h1 := fillOk_spec hf
  subst hl
  have e := hfit.evp hp
  have hm : ((fs.toArray).mapM fun f => do pure (f.offset, ← sizeOf f.type) : Sem (Array (Nat × Nat))).run P w = .ok (fs.map fun f => (f.offset, 1)).toArray w := by
    rw [Array.mapM_eq_mapM_toList]
    have := run_mapM_pure (P := P) (fun f : Field => (do pure (f.offset, ← sizeOf f.type) : Sem (Nat × Nat))) (fun f => (f.offset, 1)) w fs (fun f hf => by
      obtain ⟨i, hi, rfl⟩ := List.mem_iff_getElem.1 hf
      have := (hfs i fs[i] (by simp)).2 w
      simp [this])
    rw [Sem.run_map, this]
    rfl
  have hfill := fill_ok (place := fun i => ((fs.map fun f => (f.offset, 1)).toArray)[i]?) vs z h1 (fun i hi => by
    have hi' : i < fs.length := by omega
    have := (hfs i fs[i] (by simp)).1
    simp [hi', this])
  simp only [runs, execOp, Instr.build, Sem.run_bind, hz, Result.andThen_ok, underlying, run_program, hu, Sem.run_pure, hm, Value.cells]
  have e' : (Array.map (fun x : Nat × Operand => (x.1, a.eval x.2)) parts.toArray).toList = vs := by simpa using e
  rw [show (Array.map (fun x => match x with | (i, x) => (i, a.eval x)) parts.toArray).toList = vs from e', hfill]
  rfl

/-! ### Elements -/
structure El (P : Program) (t e : TypeId) (k bytes : Nat) (z : List Value) : Prop where
  sl : P.underlying t = some (.slice e)
  info : ∃ i z0, P.info? e = some i ∧ i.size = k ∧ i.bytes = bytes ∧ i.zero = some z0 ∧ z0.cells = z.toArray
  zl : z.length = k
  kpos : 0 < k

theorem El.size {t e : TypeId} {k bytes : Nat} {z : List Value} (h : El P t e k bytes z) (w : World) : (sizeOf e).run P w = .ok k w := by
  obtain ⟨i, z0, h1, h2, _⟩ := h.info
  simp [sizeOf, typeInfo, h1, h2]

/-- A slice '.slice a m c' that owns its row: m elements of k cells each, 'xs' their cells. -/
def Arr (T : TypeId) (k : Nat) (a : Option Addr) (m c : Nat) (xs : List Value) (s : Seg) : Prop :=
  xs.length = m * k ∧ ((a = none ∧ m = 0 ∧ c = 0 ∧ s = []) ∨
    ∃ b sp, a = some ⟨b, 0, none⟩ ∧ m ≤ c ∧ sp.length = (c - m) * k ∧ s = blk b T (xs ++ sp))

theorem Arr.nil (T : TypeId) (k : Nat) : Arr T k none 0 0 [] [] := ⟨by simp, .inl ⟨rfl, rfl, rfl, rfl⟩⟩
theorem Arr.mk {T : TypeId} {k b m c : Nat} {xs sp : List Value} (h : xs.length = m * k) (hc : m ≤ c) (hs : sp.length = (c - m) * k) : Arr T k (some ⟨b, 0, none⟩) m c xs (blk b T (xs ++ sp)) :=
  ⟨h, .inr ⟨b, sp, rfl, hc, hs, rfl⟩⟩
/-- A row just as long as it is. -/
theorem Arr.full {T : TypeId} {k b m : Nat} {xs : List Value} (h : xs.length = m * k) : Arr T k (some ⟨b, 0, none⟩) m m xs (blk b T xs) := by
  have := Arr.mk (T := T) (b := b) (sp := []) h (Nat.le_refl m) (by simp)
  simpa using this
/-- Not empty: it lies in a row. -/
theorem Arr.row {T : TypeId} {k : Nat} {a : Option Addr} {m c : Nat} {xs : List Value} {s : Seg} (h : Arr T k a m c xs s) (hm : 0 < m) :
    ∃ b sp, a = some ⟨b, 0, none⟩ ∧ m ≤ c ∧ sp.length = (c - m) * k ∧ s = blk b T (xs ++ sp) := by
  rcases h.2 with ⟨_, rfl, _⟩ | h
  · omega
  · exact h

/-- What is appended or copied: so many elements, these cells. -/
def Src (P : Program) (H : Hp) (k : Nat) (x : Value) (m : Nat) (vs : List Value) : Prop :=
  vs.length = m * k ∧ (∀ w, (Builtin.lenOf x).run P w = .ok m w) ∧ ∀ j, j ≤ m → ∀ A g w, Own A w g → (∀ p, p ∈ H.flatten → p ∈ g) → (Builtin.firstCells k j x).run P w = .ok (vs.take (j * k)).toArray w

theorem Src.slice {k b o m c : Nat} {vs : List Value} (hl : vs.length = m * k) (hc : Cells H b o vs) : Src P H k (.slice (some ⟨b, o, none⟩) m c) m vs := by
  refine ⟨hl, fun w => by simp [Builtin.lenOf], fun j hj A g w ho hs => ?_⟩
  have h1 := hc.at ho hs
  have hjk : j * k ≤ vs.length := by rw [hl]; exact Nat.mul_le_mul_right k hj
  have := run_loadCellsFrom (P := P) (w := w) (b := b) (o := o) (j * k) 0 (vs.take (j * k)) #[] (by simp [List.length_take, hjk]) (fun i v hv => by
    have hi : i < j * k := by
      have := (List.getElem?_eq_some_iff.1 hv).1
      simp [List.length_take] at this; omega
    rw [List.getElem?_take_of_lt hi] at hv
    simpa using h1 i v hv)
  simp [Builtin.firstCells, loadCells, this]
theorem Src.of {k b o m c : Nat} {vs : List Value} (hc : Cells H b o vs) (hl : vs.length = m * k) : Src P H k (.slice (some ⟨b, o, none⟩) m c) m vs := Src.slice hl hc
theorem Src.nil {k : Nat} : Src P H k (.slice none 0 0) 0 [] :=
  ⟨by simp, fun w => by simp [Builtin.lenOf], fun j _ _ _ w _ _ => by simp [Builtin.firstCells]⟩
def bytesV (l : List UInt8) : List Value := l.map fun c => .int .u8 c.toNat
theorem Src.str {l : List UInt8} : Src P H 1 (S l) l.length (bytesV l) := by
  refine ⟨by simp [bytesV], fun w => rfl, fun j _ _ _ w _ _ => ?_⟩
  simp [Builtin.firstCells, bytesV, ByteArray.data_extract, List.map_take]
theorem Arr.src {T : TypeId} {k : Nat} {a : Option Addr} {m c : Nat} {xs : List Value} {s : Seg} (h : Arr T k a m c xs s) (hs : ∀ p, p ∈ s → p ∈ H.flatten) : Src P H k (.slice a m c) m xs := by
  obtain ⟨hl, h⟩ := h
  rcases h with ⟨rfl, rfl, rfl, rfl⟩ | ⟨b, sp, rfl, h1, h2, rfl⟩
  · have : xs = [] := List.eq_nil_of_length_eq_zero (by simpa using hl)
    subst this; exact Src.nil
  · refine Src.slice hl ⟨_, _, _, hs _ (List.mem_cons_self), fun j v hj => ?_⟩
    have := (List.getElem?_eq_some_iff.1 hj).1
    simp [List.getElem?_append_left this]
    simpa using hj

theorem run_choose_cap (need c : Nat) (e : TypeId) (w : World) (h : need < 9223372036854775808) : ∃ cap, need ≤ cap ∧ cap < 9223372036854775808 ∧ (choose (.appendCap need c e)).run P w = .ok cap w.drew := by
  refine ⟨(Question.appendCap need c e).cut (w.tape w.drawn (.appendCap need c e)), ?_, ?_, by simp [Question.forced]⟩
  · simp [Question.cut]
  · simp only [Question.cut]
    have : w.tape w.drawn (.appendCap need c e) % (2 ^ 63 - need) < 2 ^ 63 - need := Nat.mod_lt _ (by omega)
    omega

theorem mem_of_pick {s : Seg} {H H' : Hp} (h : Pick s H H') : ∀ p, p ∈ s → p ∈ H.flatten := fun _ hp => h.mem_iff.2 (List.mem_append_left _ hp)

theorem run_append_in {t u e : TypeId} {k : Nat} {i : TypeInfo} {b m c j : Nat} {xv : Value} {vs : List Value} {w w' : World} (ht : P.underlying t = some (.slice e)) (hu : P.underlying u = some (.slice e) ∨ P.underlying u = some .string)
    (hi : P.info? e = some i) (hk : i.size = k) (hl : ∀ w, (Builtin.lenOf xv).run P w = .ok j w) (hc : (Builtin.firstCells k j xv).run P w = .ok vs.toArray w) (hroom : m + j ≤ c)
    (hst : (storeCells ⟨b, m * k, none⟩ vs 0).run P w = .ok () w') :
    (Builtin.append_ #[t, u] ty #[.slice (some ⟨b, 0, none⟩) m c, xv]).run P w = .ok (.slice (some ⟨b, 0, none⟩) (m + j) c) w' := by
  subst hk
  rcases hu with hu | hu
  · simp [Builtin.append_, run_underlying ht, run_underlying hu, sizeOf, typeInfo, hi, hl, hroom, hc, Addr_add, hst]
  · simp [Builtin.append_, run_underlying ht, run_underlying hu, sizeOf, typeInfo, hi, hl, hroom, hc, Addr_add, hst]

theorem run_append_none {t u e : TypeId} {k : Nat} {i : TypeInfo} {xv : Value} {w : World} (ht : P.underlying t = some (.slice e)) (hu : P.underlying u = some (.slice e) ∨ P.underlying u = some .string)
    (hi : P.info? e = some i) (hk : i.size = k) (hl : ∀ w, (Builtin.lenOf xv).run P w = .ok 0 w) (hc : (Builtin.firstCells k 0 xv).run P w = .ok #[] w) :
    (Builtin.append_ #[t, u] ty #[.slice none 0 0, xv]).run P w = .ok (.slice none 0 0) w := by
  subst hk
  rcases hu with hu | hu
  · simp [Builtin.append_, run_underlying ht, run_underlying hu, sizeOf, typeInfo, hi, hl, hc]
  · simp [Builtin.append_, run_underlying ht, run_underlying hu, sizeOf, typeInfo, hi, hl, hc]

theorem run_append_out {t u e : TypeId} {k : Nat} {i : TypeInfo} {z0 : Value} {base : Option Addr} {m c j cap : Nat} {xv : Value} {xs vs : List Value} {w : World} (ht : P.underlying t = some (.slice e)) (hu : P.underlying u = some (.slice e) ∨ P.underlying u = some .string)
    (hi : P.info? e = some i) (hk : i.size = k) (hz : i.zero = some z0) (hl : ∀ w, (Builtin.lenOf xv).run P w = .ok j w) (ho : ∀ w', w' = w.drew → (Builtin.firstCells k m (.slice base m c)).run P w' = .ok xs.toArray w')
    (hc : ∀ w', w' = w.drew → (Builtin.firstCells k j xv).run P w' = .ok vs.toArray w') (hroom : c < m + j) (hfit : Builtin.nextslicecap (m + j) c * i.bytes ≤ 281474976710656) (h63 : m + j ≤ 9223372036854775807)
    (hcap : (choose (.appendCap (m + j) c e)).run P w = .ok cap w.drew) :
    (Builtin.append_ #[t, u] ty #[.slice base m c, xv]).run P w =
      .ok (.slice (some ⟨w.heap.size, 0, none⟩) (m + j) cap) (w.drew.alloc (.cells (xs.toArray ++ vs.toArray ++ Builtin.zeroCells z0.cells (cap - (m + j))) e)) := by
  subst hk
  have hn : ¬ (m + j ≤ c) := by omega
  have h63' : ¬ (9223372036854775807 < ((m : Int) + (j : Int))) := by omega
  have h48' : ¬ (281474976710656 < Builtin.nextslicecap (m + j) c * i.bytes) := by omega
  have ho' := ho _ rfl
  have hc' := hc _ rfl
  rw [run_choose] at hcap
  simp only [Question.forced, Bool.false_eq_true, if_false, Result.ok.injEq] at hcap
  have hcap1 := hcap.1
  rcases hu with hu | hu
  · simp [Builtin.append_, run_underlying ht, run_underlying hu, sizeOf, typeInfo, zeroValue, hi, hz, hl, hn, h63', h48', Question.forced, ho', hc', newRow, hcap1]
    congr 2; apply Array.ext'; simp
  · simp [Builtin.append_, run_underlying ht, run_underlying hu, sizeOf, typeInfo, zeroValue, hi, hz, hl, hn, h63', h48', Question.forced, ho', hc', newRow, hcap1]
    congr 2; apply Array.ext'; simp

/-- 'append' onto a slice that owns its row. -/
theorem SP1_append {x y : Operand} {t e u : TypeId} {k bytes : Nat} {z : List Value} {xv : Value} {sa : Option Addr} {m c j : Nat} {xs vs : List Value} {s : Seg} {H' : Hp} (el : El P t e k bytes z) (hu : P.underlying u = some (.slice e) ∨ P.underlying u = some .string)
    (hx : ev ρ x = some (.slice sa m c)) (hy : ev ρ y = some xv) (ha : Arr e k sa m c xs s) (hp : Pick s H H') (hs : Src P H k xv j vs) (h1' : vs.all Value.oneCell' = true) (hb : (m + j) * (bytes + 1) ≤ 140737488355328) (hn : Nat.ble (d + 1) n = true)
    (kk : ∀ a' c' s', Arr e k a' (m + j) c' (xs ++ vs) s' → K D ((d, .slice a' (m + j) c') :: ρ) (s' :: H')) :
    SP1 P n { dst := some d, op := .call { callee := .builtin .append, args := #[x, y], argTypes := #[t, u] }, type := ty, pos := pos, after := af, guard := g } Q K D ρ H :=
  fun A F a w hf ho => by
    have h1 : ∀ q, q ∈ vs → q.oneCell' = true := fun q hq => List.all_eq_true.1 h1' q hq
    obtain ⟨hsl, hlen, hcells⟩ := hs
    obtain ⟨i, z0, hi, hk, hby, hz, hzc⟩ := el.info
    have hmem : ∀ p, p ∈ H.flatten → p ∈ H.flatten ++ F := fun p hp => List.mem_append_left _ hp
    have hfull : vs.take (j * k) = vs := List.take_of_length_le (by omega)
    have hnew : ∀ w', Own A w' (H.flatten ++ F) → (Builtin.firstCells k j xv).run P w' = .ok vs.toArray w' := fun w' ho' => by
      have := hcells j (Nat.le_refl _) A _ w' ho' hmem
      rwa [hfull] at this
    have ho2 : Own A w (s ++ (H'.flatten ++ F)) := by
      rw [← List.append_assoc]; exact ho.perm (List.Perm.append_right F hp)
    have hdf : ∀ v', (a.put (some d) v').defers = D := fun v' => hf.defers
    have hbm : m + j ≤ 140737488355328 := by
      have : (m + j) * 1 ≤ (m + j) * (bytes + 1) := Nat.mul_le_mul_left _ (by omega)
      omega
    have hbb : (m + j) * bytes ≤ 140737488355328 := by
      have : (m + j) * bytes ≤ (m + j) * (bytes + 1) := Nat.mul_le_mul_left _ (by omega)
      omega
    suffices hrun : ∃ a' c' s' w', Arr e k a' (m + j) c' (xs ++ vs) s' ∧ Own A w' (s' ++ (H'.flatten ++ F)) ∧ (Builtin.append_ #[t, u] ty #[.slice sa m c, xv]).run P w = .ok (.slice a' (m + j) c') w' by
      obtain ⟨a', c', s', w', hA, hO, hr⟩ := hrun
      have h2 : (execOp a.eval { dst := some d, op := .call { callee := .builtin .append, args := #[x, y], argTypes := #[t, u] }, type := ty, pos := pos, after := af, guard := g }).run P w = .ok (.value (.slice a' (m + j) c')) w' := by
        simp [execOp, resolve, invoke, builtin, hf.ev hx, hf.ev hy, hr]
      unfold Oper.wp
      rw [h2]
      refine ⟨_, _, by rw [hdf]; exact hf.put hn _, ?_, by rw [hdf]; exact kk a' c' s' hA⟩
      simpa using hO
    have hlen2 : (xs ++ vs).length = (m + j) * k := by rw [List.length_append, ha.1, hsl, Nat.add_mul]
    have grow : c < m + j → (∀ w', Own A w' (H.flatten ++ F) → (Builtin.firstCells k m (.slice sa m c)).run P w' = .ok xs.toArray w') →
        ∃ a' c' s' w', Arr e k a' (m + j) c' (xs ++ vs) s' ∧ Own A w' (s' ++ (H'.flatten ++ F)) ∧ (Builtin.append_ #[t, u] ty #[.slice sa m c, xv]).run P w = .ok (.slice a' (m + j) c') w' := by
      intro hc hold
      obtain ⟨cap, hcap1, hcap2, hcap3⟩ := run_choose_cap (P := P) (m + j) c e w (by omega)
      have hr := run_append_out (ty := ty) (base := sa) (xs := xs) el.sl hu hi hk hz hlen (fun w' hw' => hold w' (hw' ▸ ho.drew)) (fun w' hw' => hnew w' (hw' ▸ ho.drew)) hc (by rw [hby]; exact growslice_fits hc hbb) (by omega) hcap3
      have hal := ((ho2.right).drew).alloc (.cells (xs.toArray ++ vs.toArray ++ Builtin.zeroCells z0.cells (cap - (m + j))) e)
      have ea : xs.toArray ++ vs.toArray ++ Builtin.zeroCells z0.cells (cap - (m + j)) = (xs ++ vs ++ (Builtin.zeroCells z0.cells (cap - (m + j))).toList).toArray := by
        apply Array.ext'; simp
      rw [ea] at hal hr
      refine ⟨_, _, blk w.heap.size e (xs ++ vs ++ (Builtin.zeroCells z0.cells (cap - (m + j))).toList), _, Arr.mk hlen2 hcap1 ?_, ?_, hr⟩
      · rw [Array.length_toList, size_zeroCells, hzc]; simp [el.zl]
      · simpa [blk] using hal
    obtain ⟨hxl, hA⟩ := ha
    rcases hA with ⟨rfl, rfl, rfl, rfl⟩ | ⟨b, sp, rfl, hmc, hsp, rfl⟩
    · have hx0 : xs = [] := List.eq_nil_of_length_eq_zero (by simpa using hxl)
      subst hx0
      by_cases hj : j = 0
      · subst hj
        have hv0 : vs = [] := List.eq_nil_of_length_eq_zero (by simpa using hsl)
        subst hv0
        have := hnew w ho
        exact ⟨none, 0, [], w, Arr.nil e k, ho2, run_append_none el.sl hu hi hk hlen (by simpa using this)⟩
      · exact grow (by omega) (fun w' _ => by simp [Builtin.firstCells])
    · by_cases hroom : m + j ≤ c
      · have hll : (xs ++ sp).length = c * k := by
          rw [List.length_append, hxl, hsp, ← Nat.add_mul]; congr 1; omega
        have hjk : m * k + j * k ≤ c * k := by rw [← Nat.add_mul]; exact Nat.mul_le_mul_right k hroom
        obtain ⟨w', hr, hO⟩ := run_storeCells (P := P) (b := b) (o := m * k) vs 0 (xs ++ sp) w h1 (by rw [hll, hsl]; omega) ho2
        refine ⟨_, _, blk b e (xs ++ vs ++ sp.drop (j * k)), w', Arr.mk hlen2 hroom ?_, ?_, run_append_in el.sl hu hi hk hlen (hnew w ho) hroom hr⟩
        · rw [List.length_drop, hsp, ← Nat.sub_mul]; congr 1; omega
        · have e1 : List.take (m * k + 0) (xs ++ sp) ++ vs ++ List.drop (m * k + 0 + vs.length) (xs ++ sp) = xs ++ vs ++ sp.drop (j * k) := by
            rw [Nat.add_zero, ← hxl, List.take_left, List.drop_append, hsl]
            simp
          rw [e1] at hO
          simpa [blk] using hO
      · refine grow (by omega) (fun w' ho' => ?_)
        have hss := mem_of_pick hp
        have := (Arr.src (P := P) (H := H) (Arr.mk (T := e) (b := b) hxl hmc hsp) hss).2.2 m (Nat.le_refl _) A _ w' ho' hmem
        rwa [List.take_of_length_le (by omega)] at this
end
end Go.Sl
