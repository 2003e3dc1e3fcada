/- Plain: package syntaxm: the parser. -/
import Derived.Test.Qxb6500573aGreatDoorZA
namespace Go.Zm
open Go Go.Sl Go.Wl Go.Nm Go.Proofs
set_option linter.unusedVariables false
abbrev ResZ := Option (Int × PZ)
structure RZ where
  block : Int → PZ → ResZ
  stmt : Int → PZ → ResZ
  ifS : Int → PZ → ResZ
  locS : Int → PZ → ResZ
  forS : Int → PZ → ResZ
  body : Int → Int → PZ → ResZ
  fnS : Int → Int → PZ → ResZ
  expr : Int → PZ → ResZ
  andE : Int → PZ → ResZ
  left : Int → Int → PZ → ResZ
  unary : Int → PZ → ResZ
  post : Int → PZ → ResZ
  prim : Int → PZ → ResZ
  list : Int → List UInt8 → Int → PZ → ResZ
def tLocal : List UInt8 := [108, 111, 99, 97, 108]
def tIf : List UInt8 := [105, 102]
def tFor : List UInt8 := [102, 111, 114]
def tWhile : List UInt8 := [119, 104, 105, 108, 101]
def tBreak : List UInt8 := [98, 114, 101, 97, 107]
def tReturn : List UInt8 := [114, 101, 116, 117, 114, 110]
def tThen : List UInt8 := [116, 104, 101, 110]
def tDo : List UInt8 := [100, 111]
def tIn : List UInt8 := [105, 110]
def tFunction : List UInt8 := [102, 117, 110, 99, 116, 105, 111, 110]
def tNil : List UInt8 := [110, 105, 108]
def tTrue : List UInt8 := [116, 114, 117, 101]
def tFalse : List UInt8 := [102, 97, 108, 115, 101]
def tNot : List UInt8 := [110, 111, 116]
def tAnd : List UInt8 := [97, 110, 100]
def tOr : List UInt8 := [111, 114]
def tEq : List UInt8 := [61]
def tComma : List UInt8 := [44]
def tOpen : List UInt8 := [40]
def tClose : List UInt8 := [41]
def tBrace : List UInt8 := [123]
def tBraceE : List UInt8 := [125]
def tBra : List UInt8 := [91]
def tKet : List UInt8 := [93]
def tDot : List UInt8 := [46]
def tCat : List UInt8 := [46, 46]
def tMinus : List UInt8 := [45]
def tHash : List UInt8 := [35]
section
variable (src : List UInt8) (rc : RZ) (n : Nat)
def shutZ (last : Int) (m : PZ) : Option Bool := if last ≠ 0 then bind1 (nodeZ last m) fun d => some (decide (d.k = 10 ∨ d.k = 11)) else some false
def blkZL : Nat → Int → Int → Int → Int → PZ → ResZ
  | 0, _, _, _, _, _ => none
  | n + 1, lv, saved, first, last, m =>
    bif endZ m then some (first, { m with alive := saved })
    else bind1 (shutZ last m) fun sh => bif sh then some (0, failZ 15 m)
    else bind2 (rc.stmt lv m) fun x m1 => if m1.err ≠ 0 then some (0, m1)
    else if first = 0 then blkZL n lv saved x x m1 else bind1 (setNx last x m1) fun m2 => blkZL n lv saved first x m2
def blockZ (lv : Int) (m : PZ) : ResZ := guardB lv <| bind2 (some (deepZ lv m)) fun q m1 => bif q then some (0, m1) else blkZL rc n lv m1.alive 0 0 m1
def ifZ (lv : Int) (m : PZ) : ResZ := guardB lv <| bind1 (nextZ src m) fun m1 => bind2 (rc.expr (lv + 1) m1) fun c m2 => bind1 (wantZ src tThen m2) fun m3 => if m3.err ≠ 0 then some (0, m3)
  else bind2 (rc.block (lv + 1) m3) fun b m4 => if m4.err ≠ 0 then some (0, m4)
  else bif isZ tElseif m4 then (bind2 (rc.ifS (lv + 1) m4) fun e m5 => if m5.err ≠ 0 then some (0, m5) else addZ ⟨6, c, b, e, 0, 0, [], m.tok.at_⟩ m5)
  else bif isZ tElse m4 then (bind1 (nextZ src m4) fun m5 => bind2 (rc.block (lv + 1) m5) fun e m6 => bind1 (wantZ src tEnd m6) fun m7 => if m7.err ≠ 0 then some (0, m7) else addZ ⟨6, c, b, e, 0, 0, [], m.tok.at_⟩ m7)
  else bind1 (wantZ src tEnd m4) fun m7 => if m7.err ≠ 0 then some (0, m7) else addZ ⟨6, c, b, 0, 0, 0, [], m.tok.at_⟩ m7
def bodyZ (lv extra : Int) (m : PZ) : ResZ := guardB lv <| guardB extra <| bind1 (wantZ src tDo m) fun m1 => if m1.err ≠ 0 then some (0, m1)
  else guardB m1.alive <| guardB m1.loops <| bind2 (rc.block (lv + 1) { m1 with alive := m1.alive + extra, loops := m1.loops + 1 }) fun b m2 =>
    bind1 (wantZ src tEnd { m2 with loops := IntKind.i64.wrap (m2.loops - 1), alive := IntKind.i64.wrap (m2.alive - extra) }) fun m3 => some (b, m3)
def locZ (lv : Int) (m0 : PZ) : ResZ := guardB lv <| bind1 (nextZ src m0) fun m =>
  bif isZ tFunction m then (if 12 ≤ m.funcs then some (0, failZ 20 m) else bind1 (nextZ src m) fun m1 => bind2 (nameZ src 1 m1) fun nm m2 => if m2.err ≠ 0 then some (0, m2)
    else guardB m2.alive <| bif isZ tOpen { m2 with alive := m2.alive + 1 } then (bind2 (rc.fnS lv nm.2 { m2 with alive := m2.alive + 1 }) fun f m3 => if m3.err ≠ 0 then some (0, m3) else addZ ⟨3, f, 0, 0, 0, 0, nm.1, nm.2⟩ m3)
      else some (0, failZ 15 { m2 with alive := m2.alive + 1 }))
  else bind2 (nameZ src 1 m) fun nm m1 => if m1.err ≠ 0 then some (0, m1)
  else bif isZ tComma m1 then (bind1 (nextZ src m1) fun m2 => bind2 (nameZ src 2 m2) fun nm2 m3 => bind1 (wantZ src tEq m3) fun m4 => if m4.err ≠ 0 then some (0, m4)
    else bind2 (addZ ⟨17, 0, 0, 0, 0, 0, nm.1, nm.2⟩ m4) fun n1 m5 => bind2 (addZ ⟨17, 0, 0, 0, 0, 0, nm2.1, nm2.2⟩ m5) fun n2 m6 => bind1 (setNx n1 n2 m6) fun m7 => bind2 (rc.expr (lv + 1) m7) fun e m8 => if m8.err ≠ 0 then some (0, m8)
    else bind1 (nodeZ e m8) fun d => if d.k ≠ 19 then some (0, failZ 15 m8) else guardB m8.alive <| addZ ⟨2, n1, e, 0, 0, 0, [], nm.2⟩ { m8 with alive := m8.alive + 2 })
  else bif isZ tEq m1 then (bind1 (nextZ src m1) fun m2 => bind2 (rc.expr (lv + 1) m2) fun e m3 => if m3.err ≠ 0 then some (0, m3) else guardB m3.alive <| addZ ⟨1, e, 0, 0, 0, 0, nm.1, nm.2⟩ { m3 with alive := m3.alive + 1 })
  else guardB m1.alive <| addZ ⟨1, 0, 0, 0, 0, 0, nm.1, nm.2⟩ { m1 with alive := m1.alive + 1 }
def forZ (lv : Int) (m0 : PZ) : ResZ := guardB lv <| bind1 (nextZ src m0) fun m => bind2 (nameZ src 4 m) fun nm m1 => if m1.err ≠ 0 then some (0, m1)
  else bif isZ tComma m1 then (bind1 (nextZ src m1) fun m2 => bind2 (nameZ src 0 m2) fun nm2 m3 => bind1 (wantZ src tIn m3) fun m4 => if m4.err ≠ 0 then some (0, m4)
    else bind2 (addZ ⟨17, 0, 0, 0, 0, 0, nm.1, nm.2⟩ m4) fun n1 m5 => bind2 (addZ ⟨17, 0, 0, 0, 0, 0, nm2.1, nm2.2⟩ m5) fun n2 m6 => bind1 (setNx n1 n2 m6) fun m7 => bind2 (rc.expr (lv + 1) m7) fun e m8 => if m8.err ≠ 0 then some (0, m8)
    else bind2 (rc.body lv 4 m8) fun b m9 => if m9.err ≠ 0 then some (0, m9) else addZ ⟨9, n1, e, b, 0, 0, [], nm.2⟩ m9)
  else bind1 (wantZ src tEq m1) fun m2 => if m2.err ≠ 0 then some (0, m2)
  else bind2 (rc.expr (lv + 1) m2) fun e1 m3 => bind1 (wantZ src tComma m3) fun m4 => if m4.err ≠ 0 then some (0, m4)
  else bind2 (rc.expr (lv + 1) m4) fun e2 m5 => if m5.err ≠ 0 then some (0, m5)
  else bind1 (setNx e1 e2 m5) fun m6 => bif isZ tComma m6 then
      (bind1 (nextZ src m6) fun m7 => bind2 (rc.expr (lv + 1) m7) fun e3 m8 => if m8.err ≠ 0 then some (0, m8)
       else bind1 (setNx e2 e3 m8) fun m9 => bind2 (rc.body lv 4 m9) fun b m10 => if m10.err ≠ 0 then some (0, m10) else addZ ⟨8, e1, b, 0, 0, 0, nm.1, nm.2⟩ m10)
    else bind2 (rc.body lv 4 m6) fun b m10 => if m10.err ≠ 0 then some (0, m10) else addZ ⟨8, e1, b, 0, 0, 0, nm.1, nm.2⟩ m10
def retZ (lv at_ : Int) (m1 : PZ) : ResZ := bif endZ m1 then (if m1.err ≠ 0 then some (0, m1) else addZ ⟨10, 0, 0, 0, 0, 0, [], at_⟩ m1)
  else bind2 (rc.expr (lv + 1) m1) fun a m2 => bif isZ tComma m2 then (bind1 (nextZ src m2) fun m3 => bind2 (rc.expr (lv + 1) m3) fun b m4 => if m4.err ≠ 0 then some (0, m4) else addZ ⟨10, a, b, 0, 0, 0, [], at_⟩ m4)
    else if m2.err ≠ 0 then some (0, m2) else addZ ⟨10, a, 0, 0, 0, 0, [], at_⟩ m2
def stmtZ (lv : Int) (m : PZ) : ResZ := guardB lv <|
  bif isZ tLocal m then rc.locS lv m
  else bif isZ tIf m then rc.ifS lv m
  else bif isZ tFor m then rc.forS lv m
  else bif isZ tWhile m then (bind1 (nextZ src m) fun m1 => bind2 (rc.expr (lv + 1) m1) fun c m2 => if m2.err ≠ 0 then some (0, m2) else bind2 (rc.body lv 0 m2) fun b m3 => if m3.err ≠ 0 then some (0, m3) else addZ ⟨7, c, b, 0, 0, 0, [], m.tok.at_⟩ m3)
  else bif isZ tBreak m then (if m.loops = 0 then some (0, failZ 15 m) else bind1 (nextZ src m) fun m1 => addZ ⟨11, 0, 0, 0, 0, 0, [], m.tok.at_⟩ m1)
  else bif isZ tReturn m then (bind1 (nextZ src m) fun m1 => retZ src rc lv m.tok.at_ m1)
  else bind2 (rc.post (lv + 1) m) fun x m1 => if m1.err ≠ 0 then some (0, m1)
  else bif isZ tEq m1 then (bind1 (nodeZ x m1) fun d => if d.k ≠ 17 ∧ d.k ≠ 18 then some (0, failZ 15 m1)
      else bind1 (nextZ src m1) fun m2 => bind2 (rc.expr (lv + 1) m2) fun e m3 => if m3.err ≠ 0 then some (0, m3) else addZ ⟨4, x, e, 0, 0, 0, [], m1.tok.at_⟩ m3)
  else bind1 (nodeZ x m1) fun d => if d.k ≠ 19 then some (0, failZ 15 m1) else addZ ⟨5, x, 0, 0, 0, 0, [], d.at_⟩ m1
def commaZ (k : Int) (m : PZ) : Option PZ := if 0 < k then wantZ src tComma m else some m
def overZ (k mx : Int) (m : PZ) : PZ := if k = mx ∧ m.err = 0 then failZ 19 m else m
def parZL : Nat → Int → Int → Int → PZ → Option (Option (Int × Int) × PZ)
  | 0, _, _, _, _ => none
  | n + 1, first, last, np, m =>
    bif isZ tClose m then some (some (first, np), m)
    else bind1 (commaZ src np m) fun m1 => bind2 (nameZ src 0 (overZ np 3 m1)) fun nm m2 => if m2.err ≠ 0 then some (none, m2)
    else bind2 (addZ ⟨17, 0, 0, 0, 0, 0, nm.1, nm.2⟩ m2) fun x m3 => guardB np <| if first = 0 then parZL n x x (np + 1) m3 else bind1 (setNx last x m3) fun m4 => parZL n first x (np + 1) m4
def fnZ (lv at_ : Int) (m : PZ) : ResZ := guardB lv <| if 0 ≤ m.funcs ∧ m.funcs ≤ 1000000 then bind1 (nextZ src { m with funcs := m.funcs + 1 }) fun m1 =>
    bind2 (parZL src n 0 0 0 { m1 with alive := 0 }) fun r m2 => match r with
      | none => some (0, m2)
      | some (first, np) => bind1 (nextZ src m2) fun m3 => bind2 (rc.block (lv + 1) { m3 with alive := np, loops := 0 }) fun b m4 => bind1 (wantZ src tEnd m4) fun m5 =>
        if m5.err ≠ 0 then some (0, { m5 with alive := m1.alive, loops := m1.loops }) else addZ ⟨20, first, b, 0, 0, m.funcs + 1, [], at_⟩ { m5 with alive := m1.alive, loops := m1.loops }
  else none
def lstZL : Nat → Int → List UInt8 → Int → Int → Int → Int → PZ → ResZ
  | 0, _, _, _, _, _, _, _ => none
  | n + 1, lv, closing, mx, first, last, k, m =>
    bif isZ closing m then (bind1 (nextZ src m) fun m1 => some (first, m1))
    else bind1 (commaZ src k m) fun m1 => if (overZ k mx m1).err ≠ 0 then some (0, overZ k mx m1) else bind2 (rc.expr lv (overZ k mx m1)) fun x m3 => if m3.err ≠ 0 then some (0, m3)
    else guardB k <| if first = 0 then lstZL n lv closing mx x x (k + 1) m3 else bind1 (setNx last x m3) fun m4 => lstZL n lv closing mx first x (k + 1) m4
def listZ (lv : Int) (closing : List UInt8) (mx : Int) (m : PZ) : ResZ := lstZL src rc n lv closing mx 0 0 0 m
def primZ (lv : Int) (m : PZ) : ResZ := guardB lv <|
  if m.tok.k = 2 then bind1 (nextZ src m) fun m1 => addZ ⟨15, 0, 0, 0, 0, m.tok.n, [], m.tok.at_⟩ m1
  else if m.tok.k = 3 then bind1 (nextZ src m) fun m1 => addZ ⟨16, 0, 0, 0, 0, 0, m.tok.s, m.tok.at_⟩ m1
  else if m.tok.k = 1 then bind1 (nextZ src m) fun m1 => addZ ⟨17, 0, 0, 0, 0, 0, m.tok.s, m.tok.at_⟩ m1
  else bif isZ tNil m then (bind1 (nextZ src m) fun m1 => addZ ⟨12, 0, 0, 0, 0, 0, [], m.tok.at_⟩ m1)
  else bif isZ tTrue m then (bind1 (nextZ src m) fun m1 => addZ ⟨13, 0, 0, 0, 0, 0, [], m.tok.at_⟩ m1)
  else bif isZ tFalse m then (bind1 (nextZ src m) fun m1 => addZ ⟨14, 0, 0, 0, 0, 0, [], m.tok.at_⟩ m1)
  else bif isZ tOpen m then (bind1 (nextZ src m) fun m1 => bind2 (rc.expr (lv + 1) m1) fun x m2 => bind1 (wantZ src tClose m2) fun m3 => some (x, m3))
  else bif isZ tFunction m then (if 12 ≤ m.funcs then some (0, failZ 20 m) else bind1 (nextZ src m) fun m1 => bif isZ tOpen m1 then rc.fnS lv m.tok.at_ m1 else some (0, failZ 15 m1))
  else bif isZ tBrace m then (bind1 (nextZ src m) fun m1 => bind2 (rc.list (lv + 1) tBraceE 1073741824 m1) fun f m2 => if m2.err ≠ 0 then some (0, m2) else addZ ⟨21, f, 0, 0, 0, 0, [], m.tok.at_⟩ m2)
  else some (0, failZ 15 m)
def pstZL : Nat → Int → Int → PZ → ResZ
  | 0, _, _, _ => none
  | n + 1, lv, x, m => if m.err = 0 then
      bif isZ tDot m then (bind1 (nextZ src m) fun m1 => bind2 (nameZ src 0 m1) fun nm m2 => if m2.err ≠ 0 then some (0, m2)
        else bind2 (addZ ⟨16, 0, 0, 0, 0, 0, nm.1, nm.2⟩ m2) fun k m3 => bind2 (addZ ⟨18, x, k, 0, 0, 0, [], m.tok.at_⟩ m3) fun x m4 => pstZL n lv x m4)
      else bif isZ tBra m then (bind1 (nextZ src m) fun m1 => bind2 (rc.expr (lv + 1) m1) fun k m2 => bind1 (wantZ src tKet m2) fun m3 => if m3.err ≠ 0 then some (0, m3)
        else bind2 (addZ ⟨18, x, k, 0, 0, 0, [], m.tok.at_⟩ m3) fun x m4 => pstZL n lv x m4)
      else bif isZ tOpen m then (bind1 (nextZ src m) fun m1 => bind2 (rc.list (lv + 1) tClose 3 m1) fun a m2 => if m2.err ≠ 0 then some (0, m2)
        else bind2 (addZ ⟨19, x, a, 0, 0, 0, [], m.tok.at_⟩ m2) fun x m3 => pstZL n lv x m3)
      else some (x, m)
    else some (0, m)
def postZ (lv : Int) (m : PZ) : ResZ := guardB lv <| bind2 (some (deepZ lv m)) fun q m1 => bif q then some (0, m1) else bind2 (rc.prim lv m1) fun x m2 => pstZL src rc n lv x m2
def unTZ (lv op : Int) (m : PZ) : ResZ := bind1 (nextZ src m) fun m1 => bind2 (rc.unary (lv + 1) m1) fun x m2 => if m2.err ≠ 0 then some (0, m2) else addZ ⟨23, x, 0, 0, 0, op, [], m.tok.at_⟩ m2
def unaryZ (lv : Int) (m0 : PZ) : ResZ := guardB lv <| bind2 (some (deepZ lv m0)) fun q m => bif q then some (0, m)
  else bif isZ tMinus m then unTZ src rc lv 1 m else bif isZ tNot m then unTZ src rc lv 2 m else bif isZ tHash m then unTZ src rc lv 3 m else rc.post lv m
def lftZL : Nat → Int → Int → Int → PZ → ResZ
  | 0, _, _, _, _ => none
  | n + 1, lv, r, x, m => if m.err = 0 then
      (if binOpZ r m = 0 then some (x, m) else bind1 (nextZ src m) fun m1 => bind2 (rc.left lv (r + 1) m1) fun y m2 => if m2.err ≠ 0 then some (0, m2)
       else bind2 (addZ ⟨22, x, y, 0, 0, binOpZ r m, [], m.tok.at_⟩ m2) fun x m3 => lftZL n lv r x m3)
    else some (0, m)
def leftZ (lv r : Int) (m0 : PZ) : ResZ := guardB lv <| guardB r <| if r = 5 then rc.unary lv m0
  else if r = 2 then (bind2 (some (deepZ lv m0)) fun q m => bif q then some (0, m) else bind2 (rc.left lv 3 m) fun x m1 => if m1.err ≠ 0 then some (x, m1)
    else bif isZ tCat m1 then (bind1 (nextZ src m1) fun m2 => bind2 (rc.left (lv + 1) 2 m2) fun y m3 => if m3.err ≠ 0 then some (0, m3) else addZ ⟨22, x, y, 0, 0, 20, [], m1.tok.at_⟩ m3) else some (x, m1))
  else bind2 (rc.left lv (r + 1) m0) fun x m1 => lftZL src rc n lv r x m1
def andZL : Nat → Int → Int → PZ → ResZ
  | 0, _, _, _ => none
  | n + 1, lv, x, m => if m.err = 0 then (bif isZ tAnd m then (bind1 (nextZ src m) fun m1 => bind2 (rc.left lv 1 m1) fun y m2 => if m2.err ≠ 0 then some (0, m2)
      else bind2 (addZ ⟨24, x, y, 0, 0, 0, [], m.tok.at_⟩ m2) fun x m3 => andZL n lv x m3) else some (x, m)) else some (x, m)
def andZ (lv : Int) (m : PZ) : ResZ := bind2 (rc.left lv 1 m) fun x m1 => andZL src rc n lv x m1
def exZL : Nat → Int → Int → PZ → ResZ
  | 0, _, _, _ => none
  | n + 1, lv, x, m => if m.err = 0 then (bif isZ tOr m then (bind1 (nextZ src m) fun m1 => bind2 (rc.andE lv m1) fun y m2 => if m2.err ≠ 0 then some (0, m2)
      else bind2 (addZ ⟨25, x, y, 0, 0, 0, [], m.tok.at_⟩ m2) fun x m3 => exZL n lv x m3) else some (x, m)) else some (x, m)
def exprZ (lv : Int) (m0 : PZ) : ResZ := if m0.err ≠ 0 then some (0, m0) else bind2 (some (deepZ lv m0)) fun q m => bif q then some (0, m) else bind2 (rc.andE lv m) fun x m1 => exZL src rc n lv x m1
end
def recZ (src : List UInt8) : Nat → RZ
  | 0 => ⟨fun _ _ => none, fun _ _ => none, fun _ _ => none, fun _ _ => none, fun _ _ => none, fun _ _ _ => none, fun _ _ _ => none, fun _ _ => none, fun _ _ => none, fun _ _ _ => none, fun _ _ => none, fun _ _ => none, fun _ _ => none, fun _ _ _ _ => none⟩
  | n + 1 => ⟨blockZ (recZ src n) n, stmtZ src (recZ src n), ifZ src (recZ src n), locZ src (recZ src n), forZ src (recZ src n), bodyZ src (recZ src n), fnZ src (recZ src n) n, exprZ src (recZ src n) n, andZ src (recZ src n) n, leftZ src (recZ src n) n, unaryZ src (recZ src n), postZ src (recZ src n) n, primZ src (recZ src n), listZ src (recZ src n) n⟩
/-- The whole: nodes and root, or an error and its place. -/
def parseZ (src : List UInt8) (n : Nat) : Option ((Option (List Nd × Int)) × Int × Int) :=
  if 2048 < src.length then some (none, 1, 0)
  else bind1 (nextZ src ⟨0, ⟨0, [], 0, 0, 0⟩, [nd0], 0, 0, 0, 0, 0⟩) fun m => bind2 ((recZ src n).block 1 m) fun root m1 =>
    (fun m2 : PZ => if m2.err ≠ 0 then some (none, m2.err, m2.at_) else if 200000 < m2.nodes.length then none else if 300 < m2.nodes.length - 1 then some (none, 17, (src.length : Int)) else some (some (m2.nodes, root), 0, 0))
      (if m1.err = 0 ∧ m1.tok.k ≠ 0 then failZ 15 m1 else m1)
end Go.Zm
