/- Plain: runs with hints, to the run's end; what they answer is what the runs answer. -/
import Derived.Test.Qxb6500573aGreatDoorBK
namespace Go.Wl
open Go Go.Sl Go.Proofs
set_option linter.unusedVariables false
abbrev HQ := List (Option Hint)
abbrev HR (α : Type) := Option (α × HQ × List Ob)
def retH {α : Type} (x : Option α) (q : HQ) (l : List Ob) : HR α := x.map fun a => (a, q, l)
def bindH {α β : Type} (x : HR α) (f : α → HQ → HR β) : HR β := match x with
  | none => none
  | some (a, q, l) => match f a q with
    | none => none
    | some (b, q', l') => some (b, q', l ++ l')
def Snd {α : Type} (x : HR α) (y : Option α) : Prop := ∀ a q l, x = some (a, q, l) → allOb l → y = some a
theorem Snd.ret {α : Type} {x : Option α} {q : HQ} {l : List Ob} : Snd (retH x q l) x := fun a q' l' h _ => by
  unfold retH at h
  cases x with
  | none => cases h
  | some b =>
    injection h with h
    injection h with h1 _
    rw [h1]
theorem Snd.retO {α : Type} {x y : Option α} {q : HQ} {l : List Ob} (h : allOb l → x = y) : Snd (retH x q l) y := fun a q' l' hx hl => by
  unfold retH at hx
  cases x with
  | none => cases hx
  | some b =>
    injection hx with hx
    injection hx with h1 h2
    injection h2 with h2 h3
    subst h1 h2 h3
    exact (h hl).symm
theorem Snd.none {α : Type} {y : Option α} : Snd (none : HR α) y := fun a q l h _ => by cases h
theorem Snd.bind {α β : Type} {x : HR α} {y : Option α} {f : α → HQ → HR β} {g : α → Option β} (hx : Snd x y) (hf : ∀ a q, Snd (f a q) (g a)) : Snd (bindH x f) (bind1 y g) := fun b q l h hl => by
  unfold bindH at h
  cases x with
  | none => cases h
  | some s =>
    obtain ⟨a, q1, l1⟩ := s
    dsimp only at h
    cases hy : f a q1 with
    | none => rw [hy] at h; cases h
    | some z =>
      obtain ⟨b', q2, l2⟩ := z
      rw [hy] at h
      injection h with h
      injection h with h1 h2
      injection h2 with h2 h3
      subst h1 h2 h3
      obtain ⟨k1, k2⟩ := allOb_app hl
      rw [hx a q1 l1 rfl k1]
      exact hf a q1 b' q2 l2 hy k2
/-- Where a plain step stands ahead. -/
def pre1 {α β : Type} (x : Option α) (f : α → HR β) : HR β := match x with
  | none => none
  | some a => f a
theorem Snd.pre {α β : Type} {x : Option α} {f : α → HR β} {g : α → Option β} (hf : ∀ a, x = some a → Snd (f a) (g a)) : Snd (pre1 x f) (bind1 x g) := by
  cases x with
  | none => exact Snd.none
  | some a => exact hf a rfl
def pre2 {α β γ : Type} (x : Option (α × β)) (f : α → β → HR γ) : HR γ := match x with
  | none => none
  | some (a, b) => f a b
theorem Snd.pre2 {α β γ : Type} {x : Option (α × β)} {f : α → β → HR γ} {g : α → β → Option γ} (hf : ∀ a b, Snd (f a b) (g a b)) : Snd (pre2 x f) (bind2 x g) := by
  cases x with
  | none => exact Snd.none
  | some a => exact hf a.1 a.2
theorem Snd.ite {α : Type} {c : Prop} [Decidable c] {x x' : HR α} {y y' : Option α} (h : c → Snd x y) (h' : ¬ c → Snd x' y') : Snd (if c then x else x') (if c then y else y') := by
  split
  · exact h (by assumption)
  · exact h' (by assumption)
theorem Snd.itn {α : Type} {c : Prop} [Decidable c] {x : HR α} {y : Option α} (h : c → Snd x y) : Snd (if c then x else Option.none) y := by
  split
  · exact h (by assumption)
  · exact Snd.none
/-- A builtin. -/
def callH (o : Hint) (q : HQ) (th at_ : Nat) (k : Int) (a : V) (m : VM) : HR (Out Ev) :=
  if k = 1 then (if o.n = 1 then pre1 (textM a) fun s => retH (finM th at_ (V.nil, V.nil) { m with vs := { m.vs with out := m.vs.out ++ s ++ [10] } }) q [.out m.vs.out s]
    else retH (finM th at_ (V.nil, V.nil) { m with vs := { m.vs with out := m.vs.out ++ o.s ++ [10] } }) q [.txt a o.s, .out m.vs.out o.s])
  else if k = 2 then retH (finM th at_ (strV o.s, V.nil) m) q [.txt a o.s]
  else if k = 3 then (if a.t = 3 then retH (finM th at_ (⟨2, (o.n : Nat), []⟩, V.nil) m) q [.num a.s o.n] else none)
  else none
theorem callH_ok (o : Hint) (q : HQ) (th at_ : Nat) (k : Int) (a c : V) (m : VM) : Snd (callH o q th at_ k a m) (callB th at_ k a c m) := by
  unfold callH callB
  by_cases h1 : k = 1
  · subst h1
    simp only [Int.reduceEq, ↓reduceIte]
    by_cases hn : o.n = 1
    · rw [if_pos hn]
      unfold bPrintM
      have e : ∀ (f : List UInt8 → Option (Out (V × V))), bindO (bind1 (textM a) f) (finM th at_) = bind1 (textM a) fun s => bindO (f s) (finM th at_) := fun f => by cases textM a <;> rfl
      rw [e]
      refine Snd.pre fun s _ => Snd.retO fun hl => ?_
      have e2 : m.vs.out.length + s.length + 1 ≤ 200 := hl (.out m.vs.out s) List.mem_cons_self
      rw [if_pos (by omega), if_neg (by omega)]
      rfl
    rw [if_neg hn]
    refine Snd.retO fun hl => ?_
    have e1 : textM a = some o.s := hl _ (List.mem_cons_self)
    have e2 : m.vs.out.length + o.s.length + 1 ≤ 200 := hl (.out m.vs.out o.s) (List.mem_cons_of_mem _ List.mem_cons_self)
    unfold bPrintM
    rw [e1]
    dsimp only [bind1]
    rw [if_pos (by omega), if_neg (by omega)]
    rfl
  · rw [if_neg h1]
    by_cases h2 : k = 2
    · subst h2
      rw [if_pos rfl, if_neg (by decide), if_neg (by decide), if_neg (by decide), if_neg (by decide), if_pos rfl]
      refine Snd.retO fun hl => ?_
      have e1 : textM a = some o.s := hl _ (List.mem_cons_self)
      unfold bStrM
      rw [e1]
      rfl
    · rw [if_neg h2]
      by_cases h3 : k = 3
      · subst h3
        simp only [Int.reduceEq, ↓reduceIte]
        refine Snd.itn fun ht => Snd.retO fun hl => ?_
        have e1 : a.s.length ≤ 24 ∧ parseM a.s = some (o.n, 0) := hl _ (List.mem_cons_self)
        unfold bNumM
        rw [if_neg (by omega), if_pos ht, if_pos (by omega), e1.2]
        rfl
      · rw [if_neg h3]
        exact Snd.none
def vcallH (o : Hint) (q : HQ) (th i : Nat) (n : Int) (m : VM) : HR (Out Ev) := match burnM m with
  | some (.ok _ m) => pre1 (getT m th) fun t => if 0 ≤ n ∧ n ≤ 900 ∧ n + 1 ≤ t.stack.length ∧ t.stack.length ≤ 1000000 then
      pre1 (getI t.stack ((t.stack.length : Int) - n - 1)) fun f => pre1 (nextPc th i m) fun m => if f.t = 6 then callH o q th (t.stack.length - n.toNat - 1) f.n ((t.stack.drop (t.stack.length - n.toNat)).getD 0 V.nil) m else none
    else none
  | some (.trp e m) => some (.trp e m, q, [])
  | _ => none
theorem vcallH_ok (o : Hint) (q : HQ) (th i : Nat) (n : Int) (m : VM) : Snd (vcallH o q th i n m) (vcallM th i n m) := by
  unfold vcallH vcallM
  cases burnM m with
  | none => exact Snd.none
  | some r =>
    cases r with
    | ok a m =>
      dsimp only [bindO]
      refine Snd.pre fun t _ => Snd.ite (fun _ => Snd.pre fun f _ => Snd.pre fun m _ => Snd.itn fun hf => ?_) fun _ => Snd.none
      unfold callF
      rw [if_neg (by omega), if_neg (by omega)]
      exact callH_ok o q th _ f.n _ _ m
    | thr v m => exact Snd.none
    | trp e m =>
      dsimp only [bindO]
      exact fun a q l h _ => by injection h with h; injection h with h _; rw [h]
def operH (o : Hint) (q : HQ) (th : Nat) (op x : Int) (m : VM) : HR (Out Unit) := pre2 (popM th m) fun w m =>
  if op = 15 then pre2 (popM th m) fun v m => (if v.t = 2 ∧ w.t = 2 then retH (okU () (pushM th [⟨2, (o.n : Nat), []⟩] m)) q [.ar x v.n w.n o.n] else none)
  else if op = 17 then pre2 (popM th m) fun v m => (if (v.t = 3 ∨ v.t = 2) ∧ (w.t = 3 ∨ w.t = 2) then retH (okU () (pushM th [strV o.r] m)) q [.txt v o.s, .txt w o.s2, .cat o.s o.s2 o.r] else none)
  else if op = 19 then (if w.t = 2 then retH (okU () (pushM th [⟨2, (negM w.n.toNat : Nat), []⟩] m)) q [.rng w.n] else none)
  else none
theorem operH_ok (o : Hint) (q : HQ) (th : Nat) (op x : Int) (m : VM) : Snd (operH o q th op x m) (operM th op x m) := by
  unfold operH operM
  refine Snd.pre2 fun w m => ?_
  by_cases h1 : op = 15
  · subst h1
    rw [if_pos rfl, if_pos rfl]
    unfold opArith
    refine Snd.pre2 fun v m => Snd.itn fun ht => Snd.retO fun hl => ?_
    have e1 : (0 ≤ v.n ∧ v.n < 18446744073709551616) ∧ (0 ≤ w.n ∧ w.n < 18446744073709551616) ∧ arithM x v.n.toNat w.n.toNat = some o.n := hl _ (List.mem_cons_self)
    unfold numOfM
    rw [if_neg (by omega)]
    dsimp only [bindO]
    rw [if_neg (by omega)]
    dsimp only [bindO]
    rw [if_pos ⟨e1.1, e1.2.1⟩]
    unfold arithT
    rw [e1.2.2]
    rfl
  · rw [if_neg h1, if_neg h1]
    by_cases h2 : op = 17
    · subst h2
      rw [if_pos rfl, if_neg (by decide), if_pos rfl]
      unfold opCat
      refine Snd.pre2 fun v m => Snd.itn fun ht => Snd.retO fun hl => ?_
      have e1 : textM v = some o.s := hl _ (List.mem_cons_self)
      have e2 : textM w = some o.s2 := hl _ (List.mem_cons_of_mem _ List.mem_cons_self)
      have e3 : o.s.length + o.s2.length ≤ 40 ∧ o.r = o.s ++ o.s2 := hl (.cat o.s o.s2 o.r) (List.mem_cons_of_mem _ (List.mem_cons_of_mem _ List.mem_cons_self))
      rw [if_neg (by omega), if_neg (by omega), e1, e2]
      dsimp only [bind1]
      rw [if_pos (by omega), if_neg (by omega), e3.2]
    · rw [if_neg h2]
      by_cases h3 : op = 19
      · subst h3
        simp only [Int.reduceEq, ↓reduceIte]
        unfold opNeg
        refine Snd.itn fun ht => Snd.retO fun hl => ?_
        have e1 : 0 ≤ w.n ∧ w.n < 18446744073709551616 := hl (.rng w.n) (List.mem_cons_self)
        unfold numOfM
        rw [if_neg (by omega)]
        dsimp only [bindO]
        rw [if_pos e1]
      · rw [if_neg h3]
        exact Snd.none
def plainH (o : Hint) (q : HQ) (th i : Nat) (p : Pr) (op x : Int) (m : VM) : HR (Out Unit) := pre1 (getF m th i) fun f => pre1 (getT m th) fun t =>
  if ((0 ≤ f.base ∧ f.base ≤ 400000) ∧ (0 ≤ p.nslots ∧ p.nslots ≤ 1000000) ∧ f.base + p.nslots ≤ t.stack.length) ∧ 0 ≤ x ∧ x ≤ 400000 then operH o q th op x m else none
theorem plainH_ok (o : Hint) (q : HQ) (th i : Nat) (p : Pr) (op x : Int) (m : VM) (h : op = 15 ∨ op = 17 ∨ op = 19) : Snd (plainH o q th i p op x m) (plainM th i p op x m) := by
  unfold plainH plainM
  refine Snd.pre fun f _ => Snd.pre fun t _ => Snd.ite (fun _ => ?_) fun _ => Snd.none
  have key := operH_ok o q th op x m
  rcases h with rfl | rfl | rfl <;> simpa using key
def stepH (o : Hint) (q : HQ) (th i : Nat) (p : Pr) (op x : Int) (m : VM) : HR (Out Ev) :=
  if op = 26 then vcallH o q th i x m
  else if op = 15 ∨ op = 17 ∨ op = 19 then (match plainH o q th i p op x m with
    | some (.ok _ m, q, l) => retH (outE (nextPc th i m)) q l
    | _ => none)
  else none
theorem stepH_ok (o : Hint) (q : HQ) (th i : Nat) (p : Pr) (op x : Int) (m : VM) : Snd (stepH o q th i p op x m) (stepE th i p op x m) := by
  unfold stepH
  by_cases h1 : op = 26
  · subst h1
    rw [if_pos rfl]
    have e : stepE th i p 26 x m = vcallM th i x m := by unfold stepE; simp
    rw [e]
    exact vcallH_ok o q th i x m
  · rw [if_neg h1]
    refine Snd.itn fun h => ?_
    have e : stepE th i p op x m = bindO (plainM th i p op x m) fun _ m => outE (nextPc th i m) := by
      unfold stepE
      rcases h with rfl | rfl | rfl <;> simp
    rw [e]
    intro a q' l' hx hl
    have hk := plainH_ok o q th i p op x m h
    cases hp : plainH o q th i p op x m with
    | none => rw [hp] at hx; cases hx
    | some z =>
      obtain ⟨r, q2, l2⟩ := z
      rw [hp] at hx
      cases r with
      | ok u m2 =>
        dsimp only at hx
        cases hn : outE (nextPc th i m2) with
        | none => rw [hn] at hx; cases hx
        | some w =>
          rw [hn] at hx
          injection hx with hx
          injection hx with z1 z2
          injection z2 with z2 z3
          subst z1 z2 z3
          rw [hk _ _ _ hp hl]
          exact hn
      | thr v m2 => cases hx
      | trp v m2 => cases hx
def sens (th : Nat) (op x : Int) (m : VM) : Bool :=
  if op = 15 ∨ op = 17 ∨ op = 19 then true
  else if op = 26 then (match getT m th with
    | some t => (match getI t.stack ((t.stack.length : Int) - x - 1) with
      | some f => decide (f.t = 6 ∧ (f.n = 1 ∨ f.n = 2 ∨ f.n = 3))
      | none => false)
    | none => false)
  else false
def stepA (q : HQ) (th : Nat) (m : VM) : HR (Out Ev) := pre1 (vfetch th m) fun v => match v with
  | .trap => some (.trp 11 m, q, [])
  | .go i p op x => if sens th op x m = true then (match q with
      | some o :: q => stepH o q th i p op x m
      | none :: q => retH (stepE th i p op x m) q []
      | [] => none)
    else retH (stepE th i p op x m) q []
theorem stepA_ok (q : HQ) (th : Nat) (m : VM) : Snd (stepA q th m) (vstepL th m) := by
  rw [vstep_fetch]
  unfold stepA
  refine Snd.pre fun v _ => ?_
  cases v with
  | trap => exact fun a q l h _ => by injection h with h; injection h with h _; rw [← h]; rfl
  | go i p op x =>
    dsimp only [VF.play]
    split
    · cases q with
      | nil => exact Snd.none
      | cons o q =>
        cases o with
        | none => exact Snd.ret
        | some o => exact stepH_ok o q th i p op x m
    · exact Snd.ret
def loopA (th : Nat) : Nat → HQ → VM → HR (Out Ev)
  | 0, _, _ => none
  | n + 1, q, m => bindH (stepA q th m) fun r q => match r with
    | .ok e m => if e.k ≠ 0 then some (.ok e m, q, []) else loopA th n q m
    | r => some (r, q, [])
theorem loopA_ok (th : Nat) : ∀ (n : Nat) (q : HQ) (m : VM), Snd (loopA th n q m) (loopM th n m)
  | 0, _, _ => Snd.none
  | n + 1, q, m => by
    have e : loopM th (n + 1) m = bind1 (vstepL th m) fun r => match r with
      | .ok e m => if e.k ≠ 0 then some (.ok e m) else loopM th n m
      | r => some r := by
      show bindO (vstepL th m) _ = _
      cases vstepL th m with
      | none => rfl
      | some r => cases r <;> rfl
    rw [e]
    unfold loopA
    refine Snd.bind (stepA_ok q th m) fun r q => ?_
    cases r with
    | ok e m =>
      dsimp only
      refine Snd.ite (fun _ => ?_) (fun _ => loopA_ok th n q m)
      exact fun a q l h _ => by injection h with h; injection h with h _; rw [h]
    | thr v m => exact fun a q l h _ => by injection h with h; injection h with h _; subst h; rfl
    | trp v m => exact fun a q l h _ => by injection h with h; injection h with h _; subst h; rfl
def execLA (th n : Nat) : Nat → HQ → VM → HR (Ev × VM)
  | 0, _, _ => none
  | k + 1, q, m => bindH (loopA th n q m) fun o q => pre1 (runV th o) fun r => if r.2.1 = true then some ((r.1, r.2.2), q, []) else execLA th n k q r.2.2
theorem execLA_ok (th n : Nat) : ∀ (k : Nat) (q : HQ) (m : VM), Snd (execLA th n k q m) (execL th n k m)
  | 0, _, _ => Snd.none
  | k + 1, q, m => by
    unfold execLA execL
    refine Snd.bind (loopA_ok th n q m) fun o q => Snd.pre fun r _ => Snd.ite (fun _ => ?_) (fun _ => execLA_ok th n k q r.2.2)
    exact fun a q l h _ => by injection h with h; injection h with h _; rw [h]
/-- A value that comes in from outside. -/
def valH (v : V) (m : VM) (q : HQ) : HR Bool := if v.t = 2 then some (true, q, [.val v]) else retH (validM v m) q []
theorem valH_ok (v : V) (m : VM) (q : HQ) : Snd (valH v m q) (validM v m) := by
  unfold valH
  split
  · intro a q' l h hl
    injection h with h
    injection h with h1 h2
    injection h2 with h2 h3
    subst h1 h2 h3
    have e1 : v.t = 2 ∧ v.s = [] ∧ 0 ≤ v.n ∧ cmpM 2 v.n.toNat v.n.toNat = false := hl (.val v) (List.mem_cons_self)
    obtain ⟨t, n, s⟩ := v
    obtain ⟨k1, k2, k3, k4⟩ := e1
    dsimp only at k1 k2 k3 k4
    subst k1 k2
    unfold validM
    have hw : well ⟨2, n, []⟩ = true := by unfold well; simp
    rw [hw]
    simp [k3, k4]
  · exact Snd.ret
def execSA (th n k : Nat) (q : HQ) (m : VM) : HR (Ev × VM) := pre1 (getT m th) fun t => execLA th n k q (setTh m th { t with st := 4 })
def execMA (th : Nat) (a c : V) (n k : Nat) (q : HQ) (m : VM) : HR (Ev × VM) := if m.ended ≠ 0 then some ((ev6, m), q, []) else if (m.vs.threads.length : Int) ≤ th then some ((ev6, m), q, []) else
  bindH (valH a m q) fun r q => bindH (valH c m q) fun s q => if r = true then (if s = true then pre1 (getT m th) fun t => (if t.st = 1 then pre1 (enterM th t.fn [a] 0 false m) fun m => execSA th n k q m else
    if t.st = 2 then pre1 (pushM th [a, c] m) fun m => execSA th n k q m else if t.st = 3 then pre1 (pushM th [a, c] m) fun m => execSA th n k q m else none) else none) else none
theorem execMA_ok (th : Nat) (a c : V) (n k : Nat) (q : HQ) (m : VM) : Snd (execMA th a c n k q m) (execM th a c n k m) := by
  have hS : ∀ (q : HQ) (m : VM), Snd (execSA th n k q m) (execS th n k m) := fun q m => by
    unfold execSA execS
    exact Snd.pre fun t _ => execLA_ok th n k q _
  have one : ∀ (z : Ev × VM) (q : HQ), Snd (some (z, q, [])) (some z) := fun z q a q l h _ => by injection h with h; injection h with h _; rw [h]
  unfold execMA execM
  refine Snd.ite (fun _ => one _ _) fun _ => Snd.ite (fun _ => one _ _) fun _ => Snd.bind (valH_ok a m q) fun r q => Snd.bind (valH_ok c m q) fun s q => Snd.ite (fun _ => Snd.ite (fun _ => Snd.pre fun t _ => ?_) fun _ => Snd.none) fun _ => Snd.none
  exact Snd.ite (fun _ => Snd.pre fun m _ => hS q m) fun _ => Snd.ite (fun _ => Snd.pre fun m _ => hS q m) fun _ => Snd.ite (fun _ => Snd.pre fun m _ => hS q m) fun _ => Snd.none
def coLA (n k : Nat) : Nat → Nat → V → V → Int → HQ → VM → HR (An × Int × VM)
  | 0, _, _, _, _, _, _ => none
  | f + 1, th, a, c, cn, q, m => bindH (execMA th a c n k q m) fun em q =>
    if em.1.k = 4 then (if (0 ≤ em.1.co ∧ em.1.co ≤ 1000000) ∧ 0 ≤ cn ∧ cn ≤ 1000000000 then
        bindH (coLA n k f em.1.co.toNat em.1.a V.nil (if statusV em.1.co em.2 = 1 then cn + 1 else cn) q em.2) fun r q => if r.1.k = 3 then some (r, q, []) else coLA n k f th (boolV (decide (r.1.k = 1))) r.1.v r.2.1 q r.2.2 else none)
    else some ((if em.1.k = 3 then (⟨1, em.1.a, 0⟩, cn, em.2) else if em.1.k = 1 then (⟨1, em.1.a, 0⟩, cn, em.2) else if em.1.k = 2 then (⟨2, em.1.a, 0⟩, cn, em.2) else if em.1.k = 5 then (⟨3, V.nil, em.1.e⟩, cn, em.2) else (⟨3, V.nil, 21⟩, cn, em.2)), q, [])
theorem coLA_ok (n k : Nat) : ∀ (f th : Nat) (a c : V) (cn : Int) (q : HQ) (m : VM), Snd (coLA n k f th a c cn q m) (coL n k f th a c cn m)
  | 0, _, _, _, _, _, _ => Snd.none
  | f + 1, th, a, c, cn, q, m => by
    have one : ∀ (z : An × Int × VM) (q : HQ), Snd (some (z, q, [])) (some z) := fun z q a q l h _ => by injection h with h; injection h with h _; rw [h]
    have e : coL n k (f + 1) th a c cn m = bind1 (execM th a c n k m) fun em => if em.1.k = 4 then (if (0 ≤ em.1.co ∧ em.1.co ≤ 1000000) ∧ 0 ≤ cn ∧ cn ≤ 1000000000 then
        bind1 (coL n k f em.1.co.toNat em.1.a V.nil (if statusV em.1.co em.2 = 1 then cn + 1 else cn) em.2) fun r => if r.1.k = 3 then some r else coL n k f th (boolV (decide (r.1.k = 1))) r.1.v r.2.1 r.2.2 else none)
      else some (if em.1.k = 3 then (⟨1, em.1.a, 0⟩, cn, em.2) else if em.1.k = 1 then (⟨1, em.1.a, 0⟩, cn, em.2) else if em.1.k = 2 then (⟨2, em.1.a, 0⟩, cn, em.2) else if em.1.k = 5 then (⟨3, V.nil, em.1.e⟩, cn, em.2) else (⟨3, V.nil, 21⟩, cn, em.2)) := by
      show bind2 (execM th a c n k m) _ = _
      cases execM th a c n k m with
      | none => rfl
      | some z =>
        obtain ⟨e, m2⟩ := z
        dsimp only [bind2, bind1]
        split
        · rfl
        · split
          · rfl
          · split
            · rfl
            · split
              · rfl
              · split <;> rfl
    rw [e]
    unfold coLA
    refine Snd.bind (execMA_ok th a c n k q m) fun em q => Snd.ite (fun _ => Snd.ite (fun _ => Snd.bind (coLA_ok n k f _ _ _ _ q _) fun r q => Snd.ite (fun _ => one _ _) fun _ => coLA_ok n k f _ _ _ _ q _) fun _ => Snd.none) fun _ => one _ _
end Go.Wl
