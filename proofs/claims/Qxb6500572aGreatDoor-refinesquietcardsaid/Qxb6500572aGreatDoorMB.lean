/- The model's validator: plain. -/
import Derived.Test.Qxb6500572aGreatDoorPInv
namespace Go.Wl
open Go Go.Sl
set_option linter.unusedVariables false
structure Ctl where
  op : Int
  bt : Int
  height : Nat
  at_ : Int
  dead : Bool
structure Km where
  st : List UInt8
  cs : List Ctl
structure Fm where
  params : List UInt8
  results : List UInt8
  locals : List UInt8
  src : List Ins
  code : List Flat
structure Pm where
  nimp : Int
  min : Int
  max : Int
  funs : List Fm
def szOf (c : Ins) : Nat := if c.op = 1 ∨ c.op = 2 ∨ c.op = 5 then 0 else if c.op = 8 then 1 + c.tab.length else 1
def posOf (src : List Ins) (i : Nat) : Nat := ((src.take i).map szOf).sum
def endsR : List Ins → Nat → Int → Nat → Int × Int
  | [], j, els, _ => (els, (j : Int) - 1)
  | c :: r, j, els, d =>
    if c.op = 1 ∨ c.op = 2 ∨ c.op = 3 then endsR r (j + 1) els (d + 1)
    else if c.op = 4 then endsR r (j + 1) (if d = 0 then (j : Int) else els) d
    else if c.op = 5 then (if d = 0 then (els, (j : Int)) else endsR r (j + 1) els (d - 1))
    else endsR r (j + 1) els d
def ends (src : List Ins) (i : Nat) : Int × Int := endsR (src.drop (i + 1)) (i + 1) (-1) 0
def Ctl.nil : Ctl := ⟨0, 0, 0, 0, false⟩
def Km.top (k : Km) : Ctl := k.cs.getD (k.cs.length - 1) Ctl.nil
def Km.setTop (k : Km) (c : Ctl) : Km := { k with cs := k.cs.set (k.cs.length - 1) c }
def Km.lab (k : Km) (l : Nat) : Ctl := k.cs.getD (k.cs.length - 1 - l) Ctl.nil
def labelM (c : Ctl) : List UInt8 := if c.op = 2 then [] else resOf c.bt
def endM (src : List Ins) (c : Ctl) : Int := if c.op = 2 then c.at_ else if 0 ≤ c.at_ then (ends src c.at_.toNat).2 else (src.length : Int) - 1
def jumpM (k : Km) (src : List Ins) (l : Nat) : Flat := ⟨6, (posOf src (endM src (k.lab l)).toNat : Nat), ((labelM (k.lab l)).length : Nat), (k.lab l).height⟩
def popM (k : Km) (want : UInt8) : Km × UInt8 × Bool :=
  if k.st.length = k.top.height then (k, want, k.top.dead)
  else if k.st.getD (k.st.length - 1) 0 = 0 then ({ k with st := k.st.take (k.st.length - 1) }, want, true)
  else ({ k with st := k.st.take (k.st.length - 1) }, k.st.getD (k.st.length - 1) 0, decide (want = 0 ∨ k.st.getD (k.st.length - 1) 0 = want))
def popsRM (k : Km) : List UInt8 → Km × Bool
  | [] => (k, true)
  | t :: ts => if (popM k t).2.2 then popsRM (popM k t).1 ts else ((popM k t).1, false)
def popsM (k : Km) (l : List UInt8) : Km × Bool := popsRM k l.reverse
def swapM (k : Km) (i o : List UInt8) : Km × Bool := ({ (popsM k i).1 with st := (popsM k i).1.st ++ o }, (popsM k i).2)
def deadM (k : Km) : Km := { k.setTop { k.top with dead := true } with st := k.st.take k.top.height }
def closesM (k : Km) : Km × Bool := ((popsM k (resOf k.top.bt)).1, (popsM k (resOf k.top.bt)).2 && decide ((popsM k (resOf k.top.bt)).1.st.length = k.top.height))
def typedM (b : Bool) : Int := if b then 0 else 6
def sigM (op : Int) : List UInt8 × List UInt8 × Bool :=
  if op = 15 ∨ op = 17 then ([], [105], true)
  else if op = 18 then ([], [108], true)
  else if op = 16 ∨ op = 19 ∨ op = 21 ∨ op = 22 ∨ op = 23 ∨ op = 24 ∨ op = 29 then ([105], [105], true)
  else if op = 20 ∨ op = 32 ∨ op = 33 then ([105], [108], true)
  else if op = 25 ∨ op = 27 ∨ op = 28 then ([105, 105], [], true)
  else if op = 26 then ([105, 108], [], true)
  else if op = 30 ∨ op = 31 then ([108], [105], true)
  else if 40 ≤ op ∧ op < 56 then ([105, 105], [105], true)
  else if 60 ≤ op ∧ op < 73 then ([108, 108], [108], true)
  else ([108, 108], [105], decide (73 ≤ op ∧ op < 76))
/-- What one instruction makes of the checker, the flat code and the error. -/
abbrev OneR := Km × List Flat × Int
def enterM (k : Km) (src : List Ins) (code : List Flat) (i : Nat) (c : Ins) : OneR :=
  if c.op = 3 then
    ({ (popsM k [105]).1 with cs := (popsM k [105]).1.cs ++ [⟨c.op, c.imm, (popsM k [105]).1.st.length, i, false⟩] },
      code ++ [⟨3, (posOf src (if 0 ≤ (ends src i).1 then (ends src i).1 + 1 else (ends src i).2).toNat : Nat), 0, 0⟩], typedM (popsM k [105]).2)
  else ({ k with cs := k.cs ++ [⟨c.op, c.imm, k.st.length, i, false⟩] }, code, 0)
def turnM (k : Km) (src : List Ins) (code : List Flat) : OneR :=
  ((closesM k).1.setTop { (closesM k).1.top with op := 4, dead := false }, code ++ [⟨4, (posOf src (ends src (closesM k).1.top.at_.toNat).2.toNat : Nat), 0, 0⟩], typedM (closesM k).2)
def leaveM (k : Km) (code : List Flat) (c : Ins) : OneR :=
  (⟨(closesM k).1.st ++ resOf k.top.bt, (closesM k).1.cs.take ((closesM k).1.cs.length - 1)⟩, if (closesM k).1.cs.length = 1 then code ++ [⟨5, c.imm, 0, 0⟩] else code,
    typedM (if k.top.op = 3 ∧ k.top.bt ≠ 0 then false else (closesM k).2))
def branchM (k : Km) (src : List Ins) (code : List Flat) (c : Ins) : OneR :=
  if (k.cs.length : Int) ≤ c.imm then (k, code, 5)
  else if c.op = 7 then ((swapM k (labelM (k.lab c.imm.toNat) ++ [105]) (labelM (k.lab c.imm.toNat))).1, code ++ [{ jumpM k src c.imm.toNat with op := c.op }], typedM (swapM k (labelM (k.lab c.imm.toNat) ++ [105]) (labelM (k.lab c.imm.toNat))).2)
  else (deadM (popsM k (labelM (k.lab c.imm.toNat))).1, code ++ [{ jumpM k src c.imm.toNat with op := c.op }], typedM (popsM k (labelM (k.lab c.imm.toNat))).2)
def tableM (k : Km) (src : List Ins) (code : List Flat) (c : Ins) : OneR :=
  if c.tab.any (fun t => decide (k.cs.length ≤ t.toNat)) then (k, code, 5)
  else
    let l := labelM (k.lab (c.tab.getD (c.tab.length - 1) 0).toNat)
    (deadM (popsM k (l ++ [105])).1, code ++ [⟨8, (c.tab.length : Int) - 1, 0, 0⟩] ++ c.tab.map (fun t => jumpM k src t.toNat),
      typedM (c.tab.all (fun t => decide (labelM (k.lab t.toNat) = l)) && (popsM k (l ++ [105])).2))
/-- The rest: what it makes of the checker. -/
def plainM (fs : List Fm) (u : Fm) (k : Km) (c : Ins) : Km × Int :=
  if c.op = 0 then (deadM k, 0)
  else if c.op = 9 then (deadM (popsM k u.results).1, typedM (popsM k u.results).2)
  else if c.op = 10 then
    (if (fs.length : Int) ≤ c.imm then (k, 5)
     else match fs[c.imm.toNat]? with
      | some f => ((swapM k f.params f.results).1, typedM (swapM k f.params f.results).2)
      | none => (k, 5))
  else if c.op = 11 then ((popM k 0).1, typedM (popM k 0).2.2)
  else if c.op = 12 then
    let r := popsM k [105]
    let a := popM r.1 0
    let b := popM a.1 a.2.1
    ({ b.1 with st := b.1.st ++ [b.2.1] }, typedM (r.2 && a.2.2 && b.2.2))
  else if c.op = 13 ∨ c.op = 14 then
    (if ((u.params ++ u.locals).length : Int) ≤ c.imm then (k, 5)
     else if c.op = 13 then ({ k with st := k.st ++ [(u.params ++ u.locals).getD c.imm.toNat 0] }, 0)
     else ((popsM k [(u.params ++ u.locals).getD c.imm.toNat 0]).1, typedM (popsM k [(u.params ++ u.locals).getD c.imm.toNat 0]).2))
  else ((swapM k (sigM c.op).1 (sigM c.op).2.1).1, typedM (swapM k (sigM c.op).1 (sigM c.op).2.1).2)
def oneM (fs : List Fm) (u : Fm) (code : List Flat) (k : Km) (i : Nat) (c : Ins) : OneR :=
  if c.op = 1 ∨ c.op = 2 ∨ c.op = 3 then enterM k u.src code i c
  else if c.op = 4 then turnM k u.src code
  else if c.op = 5 then leaveM k code c
  else if c.op = 6 ∨ c.op = 7 then branchM k u.src code c
  else if c.op = 8 then tableM k u.src code c
  else ((plainM fs u k c).1, if (plainM fs u k c).2 = 5 then code else code ++ [⟨c.op, c.imm, 0, 0⟩], (plainM fs u k c).2)
def Km.start (u : Fm) : Km := ⟨[], [⟨1, if u.results = [] then 0 else ((u.results.getD 0 0).toNat : Int), 0, -1, false⟩]⟩
def runOneM (fs : List Fm) (u : Fm) : List Ins → Km → List Flat → Nat → Km × List Flat × Nat × Int
  | [], k, code, _ => (k, code, 0, 0)
  | c :: cs, k, code, i => if (oneM fs u code k i c).2.2 ≠ 0 then ((oneM fs u code k i c).1, (oneM fs u code k i c).2.1, i, (oneM fs u code k i c).2.2) else runOneM fs u cs (oneM fs u code k i c).1 (oneM fs u code k i c).2.1 (i + 1)
theorem endsR_open {src : List Ins} {j d : Nat} {els : Int} (hj : j < src.length) (h : src[j].op = 1 ∨ src[j].op = 2 ∨ src[j].op = 3) : endsR (src.drop j) j els d = endsR (src.drop (j + 1)) (j + 1) els (d + 1) := by
  rw [List.drop_eq_getElem_cons hj, endsR, if_pos h]
theorem endsR_else0 {src : List Ins} {j : Nat} {els : Int} (hj : j < src.length) (h : src[j].op = 4) : endsR (src.drop j) j els 0 = endsR (src.drop (j + 1)) (j + 1) j 0 := by
  rw [List.drop_eq_getElem_cons hj, endsR, if_neg (by omega), if_pos h, if_pos rfl]
theorem endsR_else {src : List Ins} {j d : Nat} {els : Int} (hj : j < src.length) (h : src[j].op = 4) (hd : d ≠ 0) : endsR (src.drop j) j els d = endsR (src.drop (j + 1)) (j + 1) els d := by
  rw [List.drop_eq_getElem_cons hj, endsR, if_neg (by omega), if_pos h, if_neg hd]
theorem endsR_end0 {src : List Ins} {j : Nat} {els : Int} (hj : j < src.length) (h : src[j].op = 5) : endsR (src.drop j) j els 0 = (els, (j : Int)) := by
  rw [List.drop_eq_getElem_cons hj, endsR, if_neg (by omega), if_neg (by omega), if_pos h, if_pos rfl]
theorem endsR_end {src : List Ins} {j d : Nat} {els : Int} (hj : j < src.length) (h : src[j].op = 5) : endsR (src.drop j) j els (d + 1) = endsR (src.drop (j + 1)) (j + 1) els d := by
  rw [List.drop_eq_getElem_cons hj, endsR, if_neg (by omega), if_neg (by omega), if_pos h, if_neg (by omega)]; rfl
theorem endsR_step {src : List Ins} {j d : Nat} {els : Int} (hj : j < src.length) (h1 : ¬ (1 ≤ src[j].op ∧ src[j].op ≤ 5)) : endsR (src.drop j) j els d = endsR (src.drop (j + 1)) (j + 1) els d := by
  rw [List.drop_eq_getElem_cons hj, endsR, if_neg (by omega), if_neg (by omega), if_neg (by omega)]
theorem endsR_rng : ∀ (l : List Ins) (j d : Nat) (els : Int), (j : Int) - 1 ≤ (endsR l j els d).2 ∧ (endsR l j els d).2 ≤ (j : Int) + l.length - 1 ∧ ((endsR l j els d).1 = els ∨ ((j : Int) ≤ (endsR l j els d).1 ∧ (endsR l j els d).1 < (j : Int) + l.length))
  | [], j, d, els => ⟨Int.le_refl _, by simp [endsR], .inl rfl⟩
  | c :: r, j, d, els => by
    simp only [endsR]
    have h1 := endsR_rng r (j + 1) (d + 1) els
    have h2 := endsR_rng r (j + 1) d (if d = 0 then (j : Int) else els)
    have h3 := endsR_rng r (j + 1) (d - 1) els
    have h4 := endsR_rng r (j + 1) d els
    simp only [List.length_cons]
    split
    · omega
    · split
      · by_cases hd : d = 0
        · rw [if_pos hd] at h2 ⊢; omega
        · rw [if_neg hd] at h2 ⊢; omega
      · split
        · split
          · dsimp only; omega
          · omega
        · omega
theorem ends_rng {src : List Ins} {i : Nat} (hi : i < src.length) : (i : Int) ≤ (ends src i).2 ∧ (ends src i).2 < src.length ∧ ((ends src i).1 = -1 ∨ ((i : Int) < (ends src i).1 ∧ (ends src i).1 < src.length)) := by
  have h := endsR_rng (src.drop (i + 1)) (i + 1) 0 (-1)
  rw [List.length_drop] at h
  unfold ends
  omega
theorem posOf_zero (src : List Ins) : posOf src 0 = 0 := rfl
theorem posOf_succ {src : List Ins} {j : Nat} (hj : j < src.length) : posOf src (j + 1) = posOf src j + szOf src[j] := by
  unfold posOf
  rw [List.take_succ_eq_append_getElem hj, List.map_append, List.sum_append]
  simp
theorem szOf_le {c : Ins} (h : c.tab.length ≤ 5) : szOf c ≤ 6 := by unfold szOf; split; omega; split <;> omega
theorem posOf_le {src : List Ins} (h : ∀ c, c ∈ src → c.tab.length ≤ 5) : ∀ j, j ≤ src.length → posOf src j ≤ 6 * j
  | 0, _ => by rw [posOf_zero]; omega
  | j + 1, hj => by
    have ih := posOf_le h j (by omega)
    rw [posOf_succ (by omega)]
    have := szOf_le (h src[j] (List.getElem_mem _))
    omega
theorem endM_rng {src : List Ins} {c : Ctl} (h0 : 0 < src.length) (h1 : c.at_ < src.length) (h2 : c.op = 2 → 0 ≤ c.at_) : 0 ≤ endM src c ∧ endM src c < src.length := by
  unfold endM
  split
  · rename_i h; have := h2 h; omega
  · split
    · have := ends_rng (src := src) (i := c.at_.toNat) (by omega); omega
    · omega
end Go.Wl
