/- Plain: package syntax, the parser. -/
import Derived.Test.Qxb6500573aGreatDoorWLexB
namespace Go.Wl
open Go Go.Sl Go.Proofs
set_option linter.unusedVariables false
/-- The tree. -/
inductive T where
  | nil
  | lit (at_ k : Int)
  | num (at_ : Int) (bits : Int)
  | str (at_ : Int) (text : List UInt8)
  | name (at_ : Int) (text : List UInt8)
  | index (at_ : Int) (x k : T)
  | call (at_ : Int) (f : T) (args : List T)
  | func (at_ num : Int) (ps body : List T)
  | table (at_ : Int) (items : List T)
  | bin (at_ k op : Int) (x y : T)
  | un (at_ op : Int) (x : T)
  | loc (names : List T) (v : T)
  | locFn (at_ : Int) (text : List UInt8) (f : T)
  | asg (at_ : Int) (t v : T)
  | callS (c : T)
  | ife (at_ : Int) (c : T) (th el : List T)
  | whl (at_ : Int) (c : T) (body : List T)
  | forN (at_ : Int) (text : List UInt8) (bounds body : List T)
  | forIn (names : List T) (x : T) (body : List T)
  | ret (at_ : Int) (a b : T)
  | brk (at_ : Int)
def T.isNil : T → Bool
  | .nil => true
  | _ => false
/-- The type that the interface value bears. -/
def T.ty : T → Nat
  | .nil => 0
  | .lit _ _ => 390
  | .num _ _ => 393
  | .str _ _ => 383
  | .name _ _ => 307
  | .index _ _ _ => 308
  | .call _ _ _ => 302
  | .func _ _ _ _ => 355
  | .table _ _ => 398
  | .bin _ _ _ _ _ => 378
  | .un _ _ _ => 401
  | .loc _ _ => 363
  | .locFn _ _ _ => 359
  | .asg _ _ _ => 309
  | .callS _ => 304
  | .ife _ _ _ _ => 366
  | .whl _ _ _ => 295
  | .forN _ _ _ _ => 372
  | .forIn _ _ _ => 369
  | .ret _ _ _ => 233
  | .brk _ => 234
/-- A pointer to a whole block. -/
abbrev pt (b : Nat) : Value := .pointer (some ⟨b, 0, none⟩)
mutual
/-- The interface value v is the node t; s: its cells. -/
inductive IsN : T → Value → Seg → Prop
  | nil : IsN .nil .nilIface []
  | lit {a k : Int} {b : Nat} : IsN (.lit a k) (.iface 390 (pt b)) (blk b 392 [I a, I k])
  | num {a k : Int} {b : Nat} : IsN (.num a k) (.iface 393 (pt b)) (blk b 395 [I a, .int .u64 k])
  | str {a : Int} {t : List UInt8} {b : Nat} : IsN (.str a t) (.iface 383 (pt b)) (blk b 384 [I a, S t])
  | name {a : Int} {t : List UInt8} {b : Nat} : IsN (.name a t) (.iface 307 (pt b)) (blk b 358 [I a, S t])
  | index {a : Int} {x k : T} {b : Nat} {vx vk : Value} {sx sk : Seg} : IsN x vx sx → IsN k vk sk → IsN (.index a x k) (.iface 308 (pt b)) (List.flatten [blk b 386 [I a, vx, vk], sx, sk])
  | call {a : Int} {f : T} {l : List T} {b m c : Nat} {vf : Value} {sf sl : Seg} {aa : Option Addr} : IsN f vf sf → IsL l aa m c sl → IsN (.call a f l) (.iface 302 (pt b)) (List.flatten [blk b 389 [I a, vf, .slice aa m c], sf, sl])
  | func {a k : Int} {l l' : List T} {b m c m' c' : Nat} {s s' : Seg} {aa aa' : Option Addr} : IsL l aa m c s → IsL l' aa' m' c' s' → IsN (.func a k l l') (.iface 355 (pt b)) (List.flatten [blk b 397 [I a, I k, .slice aa m c, .slice aa' m' c'], s, s'])
  | table {a : Int} {l : List T} {b m c : Nat} {sl : Seg} {aa : Option Addr} : IsL l aa m c sl → IsN (.table a l) (.iface 398 (pt b)) (List.flatten [blk b 400 [I a, .slice aa m c], sl])
  | bin {a k o : Int} {x y : T} {b : Nat} {vx vy : Value} {sx sy : Seg} : IsN x vx sx → IsN y vy sy → IsN (.bin a k o x y) (.iface 378 (pt b)) (List.flatten [blk b 380 [I a, I k, .int .u64 o, vx, vy], sx, sy])
  | un {a o : Int} {x : T} {b : Nat} {vx : Value} {sx : Seg} : IsN x vx sx → IsN (.un a o x) (.iface 401 (pt b)) (List.flatten [blk b 403 [I a, .int .u64 o, vx], sx])
  | loc {l : List T} {x : T} {b m c : Nat} {vx : Value} {sx sl : Seg} {aa : Option Addr} : IsL l aa m c sl → IsN x vx sx → IsN (.loc l x) (.iface 363 (pt b)) (List.flatten [blk b 365 [.slice aa m c, vx], sl, sx])
  | locFn {a : Int} {t : List UInt8} {f : T} {b b1 b2 : Nat} {s : Seg} : IsN f (.iface 355 (pt b2)) s → IsN (.locFn a t f) (.iface 359 (pt b)) (List.flatten [blk b 361 [pt b1, pt b2], blk b1 358 [I a, S t], s])
  | asg {a : Int} {x k : T} {b : Nat} {vx vk : Value} {sx sk : Seg} : IsN x vx sx → IsN k vk sk → IsN (.asg a x k) (.iface 309 (pt b)) (List.flatten [blk b 311 [I a, vx, vk], sx, sk])
  | callS {f : T} {b b2 : Nat} {s : Seg} : IsN f (.iface 302 (pt b2)) s → IsN (.callS f) (.iface 304 (pt b)) (List.flatten [blk b 306 [pt b2], s])
  | ife {a : Int} {x : T} {l l' : List T} {b m c m' c' : Nat} {vx : Value} {sx s s' : Seg} {aa aa' : Option Addr} : IsN x vx sx → IsL l aa m c s → IsL l' aa' m' c' s' → IsN (.ife a x l l') (.iface 366 (pt b)) (List.flatten [blk b 368 [I a, vx, .slice aa m c, .slice aa' m' c'], sx, s, s'])
  | whl {a : Int} {x : T} {l : List T} {b m c : Nat} {vx : Value} {sx s : Seg} {aa : Option Addr} : IsN x vx sx → IsL l aa m c s → IsN (.whl a x l) (.iface 295 (pt b)) (List.flatten [blk b 297 [I a, vx, .slice aa m c], sx, s])
  | forN {a : Int} {t : List UInt8} {l l' : List T} {b b1 m c m' c' : Nat} {s s' : Seg} {aa aa' : Option Addr} : IsL l aa m c s → IsL l' aa' m' c' s' → IsN (.forN a t l l') (.iface 372 (pt b)) (List.flatten [blk b 374 [pt b1, .slice aa m c, .slice aa' m' c'], blk b1 358 [I a, S t], s, s'])
  | forIn {x : T} {l l' : List T} {b m c m' c' : Nat} {vx : Value} {sx s s' : Seg} {aa aa' : Option Addr} : IsL l aa m c s → IsN x vx sx → IsL l' aa' m' c' s' → IsN (.forIn l x l') (.iface 369 (pt b)) (List.flatten [blk b 371 [.slice aa m c, vx, .slice aa' m' c'], s, sx, s'])
  | ret {a : Int} {x k : T} {b : Nat} {vx vk : Value} {sx sk : Seg} : IsN x vx sx → IsN k vk sk → IsN (.ret a x k) (.iface 233 (pt b)) (List.flatten [blk b 382 [I a, vx, vk], sx, sk])
  | brk {a : Int} {b : Nat} : IsN (.brk a) (.iface 234 (pt b)) (blk b 299 [I a])
/-- The members of a list. -/
inductive IsM : List T → List Value → Seg → Prop
  | nil : IsM [] [] []
  | cons {t : T} {l : List T} {v : Value} {vs : List Value} {s s' : Seg} : IsN t v s → IsM l vs s' → IsM (t :: l) (v :: vs) (s ++ s')
/-- A slice of nodes. -/
inductive IsL : List T → Option Addr → Nat → Nat → Seg → Prop
  | mk {l : List T} {vs : List Value} {a : Option Addr} {m c : Nat} {s sa : Seg} : IsM l vs s → Arr 236 1 a m c vs sa → IsL l a m c (List.flatten [sa, s])
end
theorem IsM.snoc {t : T} {v : Value} {s : Seg} (h2 : IsN t v s) : ∀ {l : List T} {vs : List Value} {s' : Seg}, IsM l vs s' → IsM (l ++ [t]) (vs ++ [v]) (s' ++ s)
  | _, _, _, .nil => by simpa using IsM.cons h2 .nil
  | _, _, _, .cons h1 h => by simpa using IsM.cons h1 (h.snoc h2)
theorem IsM.len : ∀ {l : List T} {vs : List Value} {s' : Seg}, IsM l vs s' → vs.length = l.length
  | _, _, _, .nil => rfl
  | _, _, _, .cons _ h => by simp [h.len]
theorem IsL.len {l : List T} {a : Option Addr} {m c : Nat} {s : Seg} (h : IsL l a m c s) : m = l.length := by
  obtain ⟨h1, h2⟩ := h
  have := h2.1
  rw [h1.len] at this
  omega
theorem IsL.nil : IsL [] none 0 0 [] := IsL.mk .nil (Arr.nil _ _)
theorem IsN.nilI {t : T} {v : Value} {s : Seg} (h : IsN t v s) : nilI v = some t.isNil := by cases h <;> rfl
theorem IsN.shape {t : T} {v : Value} {s : Seg} (h : IsN t v s) (hn : t.isNil = false) : ∃ b, v = .iface t.ty (pt b) := by
  cases h <;> first | exact ⟨_, rfl⟩ | cases hn
theorem IsN.none {t : T} {v : Value} {s : Seg} (h : IsN t v s) (hn : t.isNil = true) : t = .nil ∧ v = .nilIface ∧ s = [] := by
  cases h <;> first | exact ⟨rfl, rfl, rfl⟩ | cases hn
/-- The parser's state. -/
structure PS where
  i : Nat
  cur : Tok
  alive : Int
  loops : Int
  funcs : Int
  err : Int
  at_ : Int
/-- The parser's block. -/
def pb (toks : List Tok) (ta : Option Addr) (tc p : Nat) (s : PS) : Seg := blk p 170 [.slice ta toks.length tc, I s.i, I s.cur.kind, I s.cur.at_, S s.cur.text, .int .u64 s.cur.bits, I s.cur.err, I s.alive, I s.loops, I s.funcs, I s.err, I s.at_]
def Bd (x : Int) : Prop := -1000000 ≤ x ∧ x ≤ 1000000
instance (x : Int) : Decidable (Bd x) := inferInstanceAs (Decidable (_ ∧ _))
/-- Sequencing. -/
def bind2 {α β γ : Type} (x : Option (α × β)) (f : α → β → Option γ) : Option γ := match x with
  | none => none
  | some (a, b) => f a b
theorem bnd2 {α β γ : Type} {x : Option (α × β)} {f : α → β → Option γ} {r : γ} (h : bind2 x f = some r) : ∃ a b, x = some (a, b) ∧ f a b = some r := by
  cases x with
  | none => cases h
  | some p => exact ⟨p.1, p.2, rfl, h⟩
def bind1 {α γ : Type} (x : Option α) (f : α → Option γ) : Option γ := match x with
  | none => none
  | some a => f a
theorem bnd1 {α γ : Type} {x : Option α} {f : α → Option γ} {r : γ} (h : bind1 x f = some r) : ∃ a, x = some a ∧ f a = some r := by
  cases x with
  | none => cases h
  | some p => exact ⟨p, rfl, h⟩
def guardB {γ : Type} (x : Int) (f : Option γ) : Option γ := if Bd x then f else none
theorem grd {γ : Type} {x : Int} {f : Option γ} {r : γ} (h : guardB x f = some r) : (-1000000 ≤ x ∧ x ≤ 1000000) ∧ f = some r := by
  unfold guardB at h
  split at h
  · exact ⟨by assumption, h⟩
  · cases h
section
variable (toks : List Tok)
def nextP (s : PS) : Option PS := match toks[s.i + 1]? with
  | some t => some { s with i := s.i + 1, cur := t }
  | none => none
def failP (e : Int) (s : PS) : PS := { s with err := if s.cur.kind = 1 then s.cur.err else e, at_ := s.cur.at_ }
def acceptP (k : Int) (s : PS) : Option (Bool × PS) := if s.cur.kind ≠ k then some (false, s) else bind1 (nextP toks s) fun s => some (true, s)
def expectP (k : Int) (s : PS) : Option (Bool × PS) := if s.cur.kind ≠ k then some (false, failP 15 s) else bind1 (nextP toks s) fun s => some (true, s)
/-- The name at hand. -/
def nameP (extra : Int) (s : PS) : Option (Option (Int × List UInt8) × PS) :=
  if s.cur.kind ≠ 2 then some (none, failP 15 s)
  else guardB s.alive <| if 0 < extra ∧ 12 < s.alive + extra then some (none, failP 18 s)
  else bind1 (nextP toks s) fun s' => some (some (s.cur.at_, s.cur.text), s')
def endsP (s : PS) : Bool := decide (s.cur.kind = 0 ∨ s.cur.kind = 9 ∨ s.cur.kind = 7 ∨ s.cur.kind = 8)
def functionP (s : PS) : Option (Bool × PS) := if 12 ≤ s.funcs then some (false, failP 20 s) else bind1 (nextP toks s) fun s => some (true, s)
abbrev ResN := Option (T × PS)
abbrev ResL := Option (Option (List T) × PS)
structure Rec where
  block : Int → PS → ResL
  expr : Int → Int → PS → ResN
  unary : Int → PS → ResN
  branch : Int → PS → ResN
variable (rc : Rec)
/-- if the list is not empty: a comma -/
def commaP (e : Bool) (s : PS) : Option (Bool × PS) := bif e then some (true, s) else expectP toks 45 s
def listL : Nat → Int → Int → Int → List T → PS → ResL
  | 0, _, _, _, _, _ => none
  | n + 1, room, closing, most, l, s =>
    if s.cur.kind ≠ closing then
      bind2 (commaP toks l.isEmpty s) fun ok s => bif ok then
        (if (l.length : Int) = most then some (none, failP 19 s)
         else bind2 (rc.expr room 1 s) fun x s => if x.isNil = true then some (none, s) else if l.length < 100000 then listL n room closing most (l ++ [x]) s else none)
      else some (none, s)
    else bind1 (nextP toks s) fun s => some (some l, s)
def paramsL : Nat → List T → PS → ResL
  | 0, _, _ => none
  | n + 1, l, s =>
    if s.cur.kind ≠ 40 then
      bind2 (commaP toks l.isEmpty s) fun ok s => bif ok then
        (if (l.length : Int) = 3 then some (none, failP 19 s)
         else bind2 (nameP toks 0 s) fun x s => match x with
          | none => some (none, s)
          | some x => if l.length < 100000 then paramsL n (l ++ [.name x.1 x.2]) s else none)
      else some (none, s)
    else some (some l, s)
variable (lf : Nat)
/-- a function literal, or nil -/
def literalP (room at_ : Int) (s : PS) : ResN :=
  guardB room <| bind2 (expectP toks 39 s) fun ok s => bif ok then
    guardB s.funcs <| bind2 (paramsL toks lf [] { s with funcs := s.funcs + 1 }) fun ps s' => match ps with
      | none => some (.nil, s')
      | some ps => bind1 (nextP toks s') fun s1 => bind2 (rc.block (room - 1) { s1 with alive := ps.length, loops := 0 }) fun body s2 => match body with
        | none => some (.nil, s2)
        | some body => bind2 (expectP toks 9 s2) fun ok s3 => bif ok then some (.func at_ (s.funcs + 1) ps body, { s3 with alive := s1.alive, loops := s1.loops }) else some (.nil, s3)
  else some (.nil, s)
def primP (room : Int) (s : PS) : ResN := guardB room <|
  if s.cur.kind = 3 then bind1 (nextP toks s) fun s' => some (.num s.cur.at_ s.cur.bits, s')
  else if s.cur.kind = 4 then bind1 (nextP toks s) fun s' => some (.str s.cur.at_ s.cur.text, s')
  else if s.cur.kind = 2 then bind1 (nextP toks s) fun s' => some (.name s.cur.at_ s.cur.text, s')
  else if s.cur.kind = 16 then bind1 (nextP toks s) fun s' => some (.lit s.cur.at_ 12, s')
  else if s.cur.kind = 20 then bind1 (nextP toks s) fun s' => some (.lit s.cur.at_ 13, s')
  else if s.cur.kind = 10 then bind1 (nextP toks s) fun s' => some (.lit s.cur.at_ 14, s')
  else if s.cur.kind = 39 then bind1 (nextP toks s) fun s => bind2 (rc.expr (room - 1) 1 s) fun x s => if x.isNil = true then some (.nil, s) else
    bind2 (expectP toks 40 s) fun ok s => bif ok then some (x, s) else some (.nil, s)
  else if s.cur.kind = 12 then bind2 (functionP toks s) fun ok s' => bif ok then literalP toks rc lf room s.cur.at_ s' else some (.nil, s')
  else if s.cur.kind = 41 then bind1 (nextP toks s) fun s' => bind2 (listL toks rc lf (room - 1) 42 (-1) [] s') fun l s' => match l with
    | none => some (.nil, s')
    | some l => some (.table s.cur.at_ l, s')
  else some (.nil, failP 15 s)
def postL : Nat → Int → T → PS → ResN
  | 0, _, _, _ => none
  | n + 1, room, x, s =>
    if x.isNil = true then some (.nil, s)
    else if s.cur.kind = 46 then bind1 (nextP toks s) fun s1 => bind2 (nameP toks 0 s1) fun nm s2 => match nm with
      | none => some (.nil, s2)
      | some nm => postL n room (.index s.cur.at_ x (.str nm.1 nm.2)) s2
    else if s.cur.kind = 43 then bind1 (nextP toks s) fun s1 => bind2 (rc.expr (room - 1) 1 s1) fun k s2 => if k.isNil = true then some (.nil, s2) else
      bind2 (expectP toks 44 s2) fun ok s3 => bif ok then postL n room (.index s.cur.at_ x k) s3 else some (.nil, s3)
    else if s.cur.kind = 39 then bind1 (nextP toks s) fun s1 => bind2 (listL toks rc lf (room - 1) 40 3 [] s1) fun l s2 => match l with
      | none => some (.nil, s2)
      | some l => postL n room (.call s.cur.at_ x l) s2
    else some (x, s)
def postP (room : Int) (s : PS) : ResN := guardB room <|
  if room ≤ 0 then some (.nil, failP 16 s) else bind2 (primP toks rc lf room s) fun x s => postL toks rc lf lf room x s
def unOp (k : Int) : Option Int := if k = 32 then some 1 else if k = 17 then some 2 else if k = 37 then some 3 else none
def unaryP (room : Int) (s : PS) : ResN := guardB room <|
  if room ≤ 0 then some (.nil, failP 16 s) else match unOp s.cur.kind with
    | none => postP toks rc lf room s
    | some op => bind1 (nextP toks s) fun s1 => bind2 (rc.unary (room - 1) s1) fun x s2 => if x.isNil = true then some (.nil, s2) else some (.un s.cur.at_ op x, s2)
def exprL : Nat → Int → Int → T → PS → ResN
  | 0, _, _, _, _ => none
  | n + 1, room, least, x, s =>
    if x.isNil = true then some (.nil, s)
    else if s.cur.kind < 22 then some (x, s) else if 36 < s.cur.kind then some (x, s)
    else match bindsL[(s.cur.kind - 22).toNat]? with
      | none => none
      | some b => if b.1 < least then some (x, s) else bind1 (nextP toks s) fun s1 =>
        bind2 (if b.1 = 4 then rc.expr (room - 1) 4 s1 else rc.expr room (b.1 + 1) s1) fun y s2 => if y.isNil = true then some (.nil, s2) else
        exprL n room least (.bin s.cur.at_ b.2.1 b.2.2 x y) s2
def exprP (room least : Int) (s : PS) : ResN := guardB room <| bind2 (rc.unary room s) fun x s => exprL toks rc lf room least x s
def resultsP (room at_ : Int) (s : PS) : ResN := guardB room <|
  bif endsP s then some (.ret at_ .nil .nil, s) else bind2 (rc.expr (room - 1) 1 s) fun a s => if a.isNil = true then some (.nil, s) else
  bind2 (acceptP toks 45 s) fun ok s => bif ok then (bind2 (rc.expr (room - 1) 1 s) fun b s => if b.isNil = true then some (.nil, s) else some (.ret at_ a b, s)) else some (.ret at_ a .nil, s)
def bodyP_ (room extra : Int) (s : PS) : ResL := guardB room <| bind2 (expectP toks 6 s) fun ok s => bif ok then
    guardB s.alive <| guardB s.loops <| bind2 (rc.block (room - 1) { s with alive := s.alive + extra, loops := s.loops + 1 }) fun l s => match l with
      | none => some (none, s)
      | some l => bind2 (expectP toks 9 s) fun ok s => bif ok then guardB s.alive <| guardB s.loops <| some (some l, { s with alive := s.alive - extra, loops := s.loops - 1 }) else some (none, s)
  else some (none, s)
def localP (room : Int) (s : PS) : ResN := guardB room <|
  if s.cur.kind = 12 then bind2 (functionP toks s) fun ok s => bif ok then
      (bind2 (nameP toks 1 s) fun nm s => match nm with
        | none => some (.nil, s)
        | some nm => guardB s.alive <| bind2 (literalP toks rc lf room nm.1 { s with alive := s.alive + 1 }) fun f s => if f.isNil = true then some (.nil, s) else some (.locFn nm.1 nm.2 f, s))
    else some (.nil, s)
  else bind2 (nameP toks 1 s) fun nm s => match nm with
    | none => some (.nil, s)
    | some nm => bind2 (acceptP toks 45 s) fun ok s => bif ok then
        (bind2 (nameP toks 2 s) fun nm2 s => match nm2 with
          | none => some (.nil, s)
          | some nm2 => bind2 (expectP toks 38 s) fun ok s => bif ok then
              (bind2 (rc.expr (room - 1) 1 s) fun v s => if v.isNil = true then some (.nil, s) else
                bif Nat.beq v.ty 302 then guardB s.alive (some (.loc [.name nm.1 nm.2, .name nm2.1 nm2.2] v, { s with alive := s.alive + 2 })) else some (.nil, failP 15 s))
            else some (.nil, s))
      else bind2 (acceptP toks 38 s) fun ok s => bif ok then
          (bind2 (rc.expr (room - 1) 1 s) fun v s => if v.isNil = true then some (.nil, s) else guardB s.alive <| some (.loc [.name nm.1 nm.2] v, { s with alive := s.alive + 1 }))
        else guardB s.alive <| some (.loc [.name nm.1 nm.2] .nil, { s with alive := s.alive + 1 })
def branchP (room : Int) (s : PS) : ResN := guardB room <| bind1 (nextP toks s) fun s1 => bind2 (rc.expr (room - 1) 1 s1) fun c s2 => if c.isNil = true then some (.nil, s2) else
  bind2 (expectP toks 19 s2) fun ok s3 => bif ok then
    (bind2 (rc.block (room - 1) s3) fun th s4 => match th with
      | none => some (.nil, s4)
      | some th => if s4.cur.kind = 8 then (bind2 (rc.branch (room - 1) s4) fun arm s5 => if arm.isNil = true then some (.nil, s5) else some (.ife s.cur.at_ c th [arm], s5))
        else bind2 (acceptP toks 7 s4) fun ok s5 => bif ok then
            (bind2 (rc.block (room - 1) s5) fun el s6 => match el with
              | none => some (.nil, s6)
              | some el => bind2 (expectP toks 9 s6) fun ok s7 => bif ok then some (.ife s.cur.at_ c th el, s7) else some (.nil, s7))
          else bind2 (expectP toks 9 s5) fun ok s7 => bif ok then some (.ife s.cur.at_ c th [], s7) else some (.nil, s7))
  else some (.nil, s3)
def loopForP (room : Int) (s : PS) : ResN := guardB room <| bind2 (nameP toks 4 s) fun nm s => match nm with
  | none => some (.nil, s)
  | some nm => bind2 (acceptP toks 45 s) fun ok s => bif ok then
      (bind2 (nameP toks 0 s) fun nm2 s => match nm2 with
        | none => some (.nil, s)
        | some nm2 => bind2 (expectP toks 14 s) fun ok s => bif ok then
            (bind2 (rc.expr (room - 1) 1 s) fun x s => if x.isNil = true then some (.nil, s) else bind2 (bodyP_ toks rc room 4 s) fun body s => match body with
              | none => some (.nil, s)
              | some body => some (.forIn [.name nm.1 nm.2, .name nm2.1 nm2.2] x body, s))
          else some (.nil, s))
    else bind2 (expectP toks 38 s) fun ok s => bif ok then
        (bind2 (rc.expr (room - 1) 1 s) fun f s => if f.isNil = true then some (.nil, s) else bind2 (expectP toks 45 s) fun ok s => bif ok then
          (bind2 (rc.expr (room - 1) 1 s) fun li s => if li.isNil = true then some (.nil, s) else bind2 (acceptP toks 45 s) fun ok s => bif ok then
            (bind2 (rc.expr (room - 1) 1 s) fun st s => if st.isNil = true then some (.nil, s) else bind2 (bodyP_ toks rc room 4 s) fun body s => match body with
              | none => some (.nil, s)
              | some body => some (.forN nm.1 nm.2 [f, li, st] body, s))
            else bind2 (bodyP_ toks rc room 4 s) fun body s => match body with
              | none => some (.nil, s)
              | some body => some (.forN nm.1 nm.2 [f, li] body, s))
          else some (.nil, s))
      else some (.nil, s)
def stmtP (room : Int) (s : PS) : ResN := guardB room <|
  if s.cur.kind = 15 then bind1 (nextP toks s) fun s => localP toks rc lf room s
  else if s.cur.kind = 13 then rc.branch room s
  else if s.cur.kind = 11 then bind1 (nextP toks s) fun s => loopForP toks rc room s
  else if s.cur.kind = 21 then bind1 (nextP toks s) fun s1 => bind2 (rc.expr (room - 1) 1 s1) fun c s2 => if c.isNil = true then some (.nil, s2) else bind2 (bodyP_ toks rc room 0 s2) fun body s3 => match body with
    | none => some (.nil, s3)
    | some body => some (.whl s.cur.at_ c body, s3)
  else if s.cur.kind = 5 then (if s.loops = 0 then some (.nil, failP 15 s) else bind1 (nextP toks s) fun s1 => some (.brk s.cur.at_, s1))
  else if s.cur.kind = 18 then bind1 (nextP toks s) fun s1 => resultsP toks rc room s.cur.at_ s1
  else bind2 (postP toks rc lf (room - 1) s) fun x s => if x.isNil = true then some (.nil, s) else
    if s.cur.kind ≠ 38 then (bif Nat.beq x.ty 302 then some (.callS x, s) else some (.nil, failP 15 s))
    else bif Nat.beq x.ty 307 || Nat.beq x.ty 308 then bind1 (nextP toks s) fun s1 => bind2 (rc.expr (room - 1) 1 s1) fun v s2 => if v.isNil = true then some (.nil, s2) else some (.asg s.cur.at_ x v, s2)
    else some (.nil, failP 15 s)
def blockL : Nat → Int → Int → List T → Bool → PS → ResL
  | 0, _, _, _, _, _ => none
  | n + 1, room, alive, l, closed, s =>
    bif endsP s then some (some l, { s with alive := alive })
    else bif closed then some (none, failP 15 s)
    else bind2 (stmtP toks rc lf room s) fun x s => if x.isNil = true then some (none, s)
      else if l.length < 100000 then blockL n room alive (l ++ [x]) (Nat.beq x.ty 233 || Nat.beq x.ty 234) s else none
def blockP (room : Int) (s : PS) : ResL := guardB room <|
  if room ≤ 0 then some (none, failP 16 s) else blockL toks rc lf lf room s.alive [] false s
end
/-- The parser at a depth. -/
def recP (toks : List Tok) : Nat → Rec
  | 0 => ⟨fun _ _ => none, fun _ _ _ => none, fun _ _ => none, fun _ _ => none⟩
  | n + 1 => ⟨blockP toks (recP toks n) n, exprP toks (recP toks n) n, unaryP toks (recP toks n) n, branchP toks (recP toks n)⟩
end Go.Wl
