/- A small separation logic over the kit's 'Code.wp': the heap is a list of owned segments, the frame is an association list, and every contract holds under whatever further memory ('F'). Nothing here names a program. -/
import Derived.WalkKit
import Derived.Orders
import Derived.KernelRfl
namespace Go.Sl
open Go

abbrev Seg := List (Nat × Obj)
abbrev Hp := List Seg
abbrev Env := List (Nat × Value)
abbrev Defs := List Deferred
abbrev Post := Exit → Defs → Env → Hp → Prop
abbrev Kont := Defs → Env → Hp → Prop

/-- The world 'w' holds just these blocks at least, and differs from 'A' neither in the streams nor in the tape. -/
structure Own (A w : World) (h : Seg) : Prop where
  os : w.os = A.os
  tape : w.tape = A.tape
  out : w.output = A.output
  nd : (h.map Prod.fst).Nodup
  has : ∀ p, p ∈ h → w.heap[p.1]? = some p.2

theorem Own.perm {A w : World} {h h' : Seg} (o : Own A w h) (p : h.Perm h') : Own A w h' :=
  ⟨o.os, o.tape, o.out, (p.map Prod.fst).nodup_iff.1 o.nd, fun q hq => o.has q (p.mem_iff.2 hq)⟩

theorem Own.left {A w : World} {h g : Seg} (o : Own A w (h ++ g)) : Own A w h :=
  ⟨o.os, o.tape, o.out, (by have := o.nd; rw [List.map_append] at this; exact (List.nodup_append.1 this).1), fun q hq => o.has q (List.mem_append_left _ hq)⟩

theorem Own.right {A w : World} {h g : Seg} (o : Own A w (h ++ g)) : Own A w g :=
  ⟨o.os, o.tape, o.out, (by have := o.nd; rw [List.map_append] at this; exact (List.nodup_append.1 this).2.1), fun q hq => o.has q (List.mem_append_right _ hq)⟩

theorem Own.lt {A w : World} {h : Seg} (o : Own A w h) {p : Nat × Obj} (hp : p ∈ h) : p.1 < w.heap.size := by
  have := o.has p hp
  rcases Nat.lt_or_ge p.1 w.heap.size with h' | h'
  · exact h'
  · simp [Array.getElem?_eq_none h'] at this

theorem Own.drew {A w : World} {h : Seg} (o : Own A w h) : Own A w.drew h := ⟨o.os, o.tape, o.out, o.nd, o.has⟩

theorem Own.drawn {A w : World} {h : Seg} (o : Own A w h) (k : Nat) : Own A { w with drawn := k } h := ⟨o.os, o.tape, o.out, o.nd, o.has⟩

theorem Own.alloc {A w : World} {h : Seg} (o : Own A w h) (x : Obj) : Own A (w.alloc x) ((w.heap.size, x) :: h) := by
  refine ⟨o.os, o.tape, o.out, ?_, ?_⟩
  · rw [List.map_cons, List.nodup_cons]
    refine ⟨fun hm => ?_, o.nd⟩
    obtain ⟨p, hp, he⟩ := List.mem_map.1 hm
    have := o.lt hp
    simp only at he
    omega
  · intro p hp
    rcases List.mem_cons.1 hp with rfl | hp
    · show (w.heap.push x)[w.heap.size]? = some x
      simp
    · have hl := o.lt hp
      show (w.heap.push x)[p.1]? = _
      rw [Array.getElem?_push, if_neg (by omega)]
      exact o.has p hp

/-- One owned block is written anew; all others stand. -/
theorem Own.put {A w w' : World} {h : Seg} {b : Nat} {x y : Obj} (o : Own A w ((b, x) :: h)) (h1 : w'.os = w.os) (h2 : w'.tape = w.tape) (h3 : w'.output = w.output)
    (hb : w'.heap[b]? = some y) (hr : ∀ k, k ≠ b → w'.heap[k]? = w.heap[k]?) : Own A w' ((b, y) :: h) := by
  have hnd := o.nd
  rw [List.map_cons, List.nodup_cons] at hnd
  refine ⟨h1.trans o.os, h2.trans o.tape, h3.trans o.out, ?_, ?_⟩
  · rw [List.map_cons, List.nodup_cons]; exact hnd
  · intro p hp
    rcases List.mem_cons.1 hp with rfl | hp
    · exact hb
    · rw [hr p.1 (fun e => hnd.1 (List.mem_map.2 ⟨p, hp, e⟩))]
      exact o.has p (List.mem_cons_of_mem _ hp)

theorem Own.cell {A w : World} {h : Seg} (o : Own A w h) {b off : Nat} {c : Array Value} {T : TypeId} {fz : Nat × Nat} {v : Value}
    (hp : (b, Obj.cells c T fz) ∈ h) (hv : c[off]? = some v) : w.cell? ⟨b, off, none⟩ = some v := by
  have := o.has _ hp
  simp only at this
  simp [World.cell?, this, hv]

theorem Own.frozen {A w : World} {h : Seg} (o : Own A w h) {b off : Nat} {c : Array Value} {T : TypeId}
    (hp : (b, Obj.cells c T (0, 0)) ∈ h) : w.frozen? ⟨b, off, none⟩ = false := by
  have := o.has _ hp
  simp only at this
  simp [World.frozen?, this]

theorem Own.setCell {A w : World} {h : Seg} {b off : Nat} {c : Array Value} {T : TypeId} {fz : Nat × Nat} (o : Own A w ((b, Obj.cells c T fz) :: h)) (v : Value) :
    Own A (w.setCell ⟨b, off, none⟩ v) ((b, Obj.cells (c.setIfInBounds off v) T fz) :: h) := by
  have hb := o.has _ (List.mem_cons_self)
  simp only at hb
  refine o.put rfl rfl rfl ?_ ?_
  · simp [World.setCell, Array.getElem?_modify, hb]
  · intro k hk
    simp only [World.setCell, Array.getElem?_modify]
    rw [if_neg (fun e => hk e.symm)]

/-! ### The frame -/

def look : Env → Nat → Option Value
  | [], _ => none
  | (k, v) :: l, i => bif Nat.beq k i then some v else look l i

def ev (ρ : Env) : Operand → Option Value
  | .tmp t => look ρ t
  | .const v => some v
  | .global g => some (.pointer (some ⟨g, 0, none⟩))
  | .func f => some (.func (.func f) #[] #[])

structure Fits (n : Nat) (D : Defs) (ρ : Env) (a : Act) : Prop where
  size : a.tmps.size = n
  defers : a.defers = D
  get : ∀ i v, look ρ i = some v → a.tmps[i]? = some v

theorem Fits.ev {n : Nat} {D : Defs} {ρ : Env} {a : Act} {x : Operand} {v : Value} (f : Fits n D ρ a) (h : ev ρ x = some v) : a.eval x = v := by
  cases x with
  | tmp t => have := f.get t v h; simp [Act.eval, this]
  | const u => simpa [Sl.ev, Act.eval] using h
  | global g => simpa [Sl.ev, Act.eval] using h
  | func g => simpa [Sl.ev, Act.eval] using h

theorem look_cons (k : Nat) (v : Value) (l : Env) (i : Nat) : look ((k, v) :: l) i = if k = i then some v else look l i := by
  simp only [look]
  by_cases h : k = i
  · subst h; simp
  · have : Nat.beq k i = false := by
      cases hb : Nat.beq k i
      · rfl
      · exact absurd (Nat.eq_of_beq_eq_true hb) h
    simp [h, this]

theorem Fits.put {n : Nat} {D : Defs} {ρ : Env} {a : Act} (f : Fits n D ρ a) {d : Nat} (hd : Nat.ble (d + 1) n = true) (v : Value) :
    Fits n D ((d, v) :: ρ) (a.put (some d) v) := by
  have hd' : d < a.tmps.size := by rw [f.size]; exact Nat.le_of_ble_eq_true hd
  refine ⟨by simpa [Act.put] using f.size, f.defers, fun i u h => ?_⟩
  rw [look_cons] at h
  by_cases e : d = i
  · subst e
    simp at h; subst h
    simp [Act.put, hd']
  · rw [if_neg e] at h
    have := f.get i u h
    simp [Act.put, Array.getElem?_setIfInBounds_ne e, this]

theorem Fits.putNone {n : Nat} {D : Defs} {ρ : Env} {a : Act} (f : Fits n D ρ a) (v : Value) : Fits n D ρ (a.put none v) := f

/-- Every slot that ρ' knows ρ knows too. -/
def Sub (ρ' ρ : Env) : Prop := ∀ i v, look ρ' i = some v → look ρ i = some v

theorem Sub.nil (ρ : Env) : Sub [] ρ := fun _ _ h => by simp [look] at h
theorem Sub.refl (ρ : Env) : Sub ρ ρ := fun _ _ h => h
theorem Sub.cons {ρ' ρ : Env} {i : Nat} {v : Value} (h : look ρ i = some v) (r : Sub ρ' ρ) : Sub ((i, v) :: ρ') ρ := fun j u hj => by
  rw [look_cons] at hj
  by_cases e : i = j
  · subst e; simp at hj; subst hj; exact h
  · rw [if_neg e] at hj; exact r j u hj
theorem Sub.trans {a b c : Env} (h : Sub a b) (k : Sub b c) : Sub a c := fun i v x => k i v (h i v x)

theorem Fits.sub {n : Nat} {D : Defs} {ρ ρ' : Env} {a : Act} (f : Fits n D ρ a) (h : Sub ρ' ρ) : Fits n D ρ' a := ⟨f.size, f.defers, fun i v x => f.get i v (h i v x)⟩

/-! ### The heap's segments -/

def blk (b : Nat) (T : TypeId) (l : List Value) : Seg := [(b, .cells l.toArray T (0, 0))]

/-- 's' is one of the segments; H' are the others. -/
def Pick (s : Seg) (H H' : Hp) : Prop := H.flatten.Perm (s ++ H'.flatten)

theorem Pick.head (s : Seg) (H : Hp) : Pick s (s :: H) H := by simp [Pick]
theorem Pick.tail {s x : Seg} {H H' : Hp} (h : Pick s H H') : Pick s (x :: H) (x :: H') := by
  unfold Pick at *
  simp only [List.flatten_cons]
  refine (List.Perm.append_left x h).trans ?_
  rw [← List.append_assoc, ← List.append_assoc]
  exact List.Perm.append_right _ List.perm_append_comm

/-- H holds the segments 'pre' and, beside them, 'rest'. -/
def Part (H pre rest : Hp) : Prop := H.flatten.Perm (pre.flatten ++ rest.flatten)

theorem Part.nil (H : Hp) : Part H [] H := by simp [Part]
theorem Part.refl (H : Hp) : Part H H [] := by simp [Part]
theorem Part.cons {s : Seg} {H H' pre rest : Hp} (h : Pick s H H') (r : Part H' pre rest) : Part H (s :: pre) rest := by
  unfold Part Pick at *
  simp only [List.flatten_cons, List.append_assoc]
  exact h.trans (List.Perm.append_left s r)

theorem Part.own {A w : World} {F : Seg} {H pre rest : Hp} (h : Part H pre rest) (o : Own A w (H.flatten ++ F)) : Own A w (pre.flatten ++ (rest.flatten ++ F)) := by
  rw [← List.append_assoc]
  exact o.perm (List.Perm.append_right _ h)

theorem Part.back {A w : World} {F : Seg} {post rest : Hp} (o : Own A w (post.flatten ++ (rest.flatten ++ F))) : Own A w ((post ++ rest).flatten ++ F) := by
  rw [List.flatten_append, List.append_assoc]; exact o

theorem Part.drop {A w : World} {F : Seg} {H pre rest : Hp} (h : Part H pre rest) (o : Own A w (H.flatten ++ F)) : Own A w (pre.flatten ++ F) := by
  have o1 := h.own o
  have : (pre.flatten ++ (rest.flatten ++ F)).Perm (rest.flatten ++ (pre.flatten ++ F)) := by
    rw [← List.append_assoc, ← List.append_assoc]
    exact List.Perm.append_right _ List.perm_append_comm
  exact (o1.perm this).right

/-- Some segment holds this block. -/
def Has (H : Hp) (b : Nat) (x : Obj) : Prop := (b, x) ∈ H.flatten
theorem Has.head (b : Nat) (T : TypeId) (l : List Value) (H : Hp) : Has (blk b T l :: H) b (.cells l.toArray T (0, 0)) := by simp [Has, blk]
theorem Has.obj (b : Nat) (x : Obj) (H : Hp) : Has ([(b, x)] :: H) b x := by simp [Has]
theorem Has.tail {b : Nat} {x : Obj} {s : Seg} {H : Hp} (h : Has H b x) : Has (s :: H) b x := by
  unfold Has at *; simp only [List.flatten_cons]; exact List.mem_append_right _ h

/-- The cell's value, wherever its block lies. -/
def Cell (H : Hp) (b off : Nat) (v : Value) : Prop := ∃ c T fz, Has H b (.cells c T fz) ∧ c[off]? = some v
theorem Cell.head {b off : Nat} {T : TypeId} {l : List Value} {H : Hp} {v : Value} (h : l[off]? = some v) : Cell (blk b T l :: H) b off v :=
  ⟨_, _, _, Has.head b T l H, by simpa using h⟩
theorem Cell.tail {b off : Nat} {s : Seg} {H : Hp} {v : Value} (h : Cell H b off v) : Cell (s :: H) b off v :=
  let ⟨c, T, fz, h1, h2⟩ := h; ⟨c, T, fz, h1.tail, h2⟩

theorem Cell.at {A w : World} {H : Hp} {b off : Nat} {v : Value} (h : Cell H b off v) {g : Seg} (o : Own A w g) (hs : ∀ p, p ∈ H.flatten → p ∈ g) :
    w.cell? ⟨b, off, none⟩ = some v :=
  let ⟨_, _, _, h1, h2⟩ := h; o.cell (hs _ h1) h2

/-- Blocks: the list's place 'n' set to 'v'. -/
def SetAt (l : List Value) (n : Nat) (v : Value) (l' : List Value) : Prop := n < l.length ∧ l' = l.set n v
theorem SetAt.zero (x : Value) (l : List Value) (v : Value) : SetAt (x :: l) 0 v (v :: l) := ⟨by simp, rfl⟩
theorem SetAt.succ {l l' : List Value} {n : Nat} {v : Value} (x : Value) (h : SetAt l n v l') : SetAt (x :: l) (n + 1) v (x :: l') := by
  obtain ⟨h1, rfl⟩ := h; exact ⟨by simpa using h1, by simp⟩
theorem SetAt.mk {l : List Value} {n : Nat} (v : Value) (h : n < l.length) : SetAt l n v (l.set n v) := ⟨h, rfl⟩

/-- In H the block b, cells l, becomes cells l'. -/
def Upd (H : Hp) (b : Nat) (T : TypeId) (l l' : List Value) (H' : Hp) : Prop :=
  ∃ R : Seg, H.flatten.Perm (blk b T l ++ R) ∧ H'.flatten.Perm (blk b T l' ++ R)
theorem Upd.head (b : Nat) (T : TypeId) (l l' : List Value) (H : Hp) : Upd (blk b T l :: H) b T l l' (blk b T l' :: H) := ⟨H.flatten, by simp, by simp⟩
theorem Upd.tail {b : Nat} {T : TypeId} {l l' : List Value} {s : Seg} {H H' : Hp} (h : Upd H b T l l' H') : Upd (s :: H) b T l l' (s :: H') := by
  obtain ⟨R, h1, h2⟩ := h
  have key : ∀ (x : Seg) (G : Hp), G.flatten.Perm (x ++ R) → (s :: G).flatten.Perm (x ++ (s ++ R)) := fun x G hG => by
    simp only [List.flatten_cons]
    refine (List.Perm.append_left s hG).trans ?_
    rw [← List.append_assoc, ← List.append_assoc]
    exact List.Perm.append_right _ List.perm_append_comm
  exact ⟨s ++ R, key _ _ h1, key _ _ h2⟩

end Go.Sl
