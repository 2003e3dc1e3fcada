/- Plain: the shape of compiled code (for the simulation): read off the final functions P. -/
import Derived.Test.Qxb6500573aGreatDoorQE
namespace Go.Wl
open Go Go.Sl Go.Proofs
set_option linter.unusedVariables false
abbrev Nm8 := List UInt8
/-- The functions around the one at hand, from the inside out: number and locals alive. -/
abbrev Sco := List (Nat × List Nm8)
def insP (P : List Fs) (x pc : Nat) : Option In := match P[x]? with
  | some f => f.code[pc]?
  | none => none
def kP (P : List Fs) (x : Nat) (i : Int) (v : V) : Prop := 0 ≤ i ∧ ∃ f, P[x]? = some f ∧ f.consts[i.toNat]? = some v
/-- The newest local of that name. -/
def slotL (L : List Nm8) (name : Nm8) : Int := slotAt L name L.length
/-- Upvalue u of the function x is what the name means around it. -/
def upRel (P : List Fs) : Sco → Nat → Nm8 → Int → Prop
  | [], _, _, _ => False
  | (p, Lp) :: E, x, name, u => 0 ≤ u ∧ ∃ f d, P[x]? = some f ∧ f.ups[u.toNat]? = some d ∧ ((0 ≤ slotL Lp name ∧ d = (1, slotL Lp name)) ∨ (slotL Lp name < 0 ∧ d.1 = 0 ∧ upRel P E p name d.2))
def noUp (E : Sco) (name : Nm8) : Prop := ∀ q, q ∈ E → slotL q.2 name < 0
/-- The one instruction that reads or writes what the name means. -/
def VarS (P : List Fs) (x : Nat) (E : Sco) (L : List Nm8) (name : Nm8) (a b c : Int) (pc : Nat) : Prop :=
  (0 ≤ slotL L name ∧ insP P x pc = some (a, slotL L name)) ∨
  (slotL L name < 0 ∧ ((∃ u, upRel P E x name u ∧ insP P x pc = some (b, u)) ∨ (noUp E name ∧ ∃ i, insP P x pc = some (c, i) ∧ kP P x i ⟨3, 0, name⟩)))
/-- Where a break goes: the loop's first slot, the place behind it. -/
abbrev Brk := Option (Nat × Nat)
/-- The shapes of expressions and statements. -/
structure SR where
  expr : Nat → Sco → List Nm8 → Nat → Int → Nat → Prop
  stmt : Nat → Sco → List Nm8 → Brk → Nat → Int → Nat → List Nm8 → Prop
section
variable (ns : List Nd) (P : List Fs) (rc : SR)
/-- Expressions one behind the other, from node n on; j of them. -/
def argS : Nat → Nat → Sco → List Nm8 → Nat → Int → Nat → Nat → Prop
  | 0, _, _, _, _, _, _, _ => False
  | m + 1, x, E, L, pc, n, j, pc' => if n = 0 then j = 0 ∧ pc' = pc else ∃ p1 d, rc.expr x E L pc n p1 ∧ nd ns n = some d ∧ ∃ j', j = j' + 1 ∧ argS m x E L p1 d.next j' pc'
/-- Items of a table. -/
def itmS : Nat → Nat → Sco → List Nm8 → Nat → Int → Int → Nat → Prop
  | 0, _, _, _, _, _, _, _ => False
  | m + 1, x, E, L, pc, n, i, pc' => if n = 0 then pc' = pc else ∃ p1 d, rc.expr x E L pc n p1 ∧ insP P x p1 = some (13, i + 1) ∧ nd ns n = some d ∧ itmS m x E L (p1 + 1) d.next (i + 1) pc'
/-- Statements one behind the other. -/
def stsS : Nat → Nat → Sco → List Nm8 → Brk → Nat → Int → Nat → List Nm8 → Prop
  | 0, _, _, _, _, _, _, _, _ => False
  | m + 1, x, E, L, br, pc, n, pc', L' => if n = 0 then pc' = pc ∧ L' = L else ∃ p1 L1 d, rc.stmt x E L br pc n p1 L1 ∧ nd ns n = some d ∧ stsS m x E L1 br p1 d.next pc' L'
/-- A scope ends. -/
def levS (x : Nat) (base : Nat) (L : List Nm8) (pc pc' : Nat) : Prop := if base < L.length then insP P x pc = some (29, (base : Int)) ∧ pc' = pc + 1 else pc' = pc
def blkS (x : Nat) (E : Sco) (L : List Nm8) (br : Brk) (pc : Nat) (first : Int) (pc' : Nat) : Prop := ∃ m p1 L1, stsS ns rc m x E L br pc first p1 L1 ∧ L.length ≤ L1.length ∧ levS P x L.length L1 p1 pc'
def clS (x : Nat) (E : Sco) (L : List Nm8) (pc : Nat) (n : Int) (pc' : Nat) : Prop := ∃ d m j p1 p2, nd ns n = some d ∧ rc.expr x E L pc d.a p1 ∧ argS ns rc m x E L p1 d.b j p2 ∧ insP P x p2 = some (26, (j : Int)) ∧ pc' = p2 + 1
/-- The loop of a counting for. -/
def roundS (x : Nat) (E : Sco) (L : List Nm8) (name : Nm8) (body : Int) (p3 pc' : Nat) : Prop := ∃ p4 out : Nat,
  insP P x p3 = some (6, ((L.length + 2 : Nat) : Int)) ∧ insP P x (p3 + 1) = some (30, (L.length : Int)) ∧ insP P x (p3 + 2) = some (31, (L.length : Int)) ∧ insP P x (p3 + 3) = some (22, (out : Int)) ∧
  insP P x (p3 + 4) = some (5, (L.length : Int)) ∧ insP P x (p3 + 5) = some (6, ((L.length + 3 : Nat) : Int)) ∧ blkS ns P rc x E (L ++ [[], [], [], name]) (some (L.length, out)) (p3 + 6) body p4 ∧
  insP P x p4 = some (29, ((L.length + 3 : Nat) : Int)) ∧ insP P x (p4 + 1) = some (5, (L.length : Int)) ∧ insP P x (p4 + 2) = some (5, ((L.length + 2 : Nat) : Int)) ∧ insP P x (p4 + 3) = some (15, 1) ∧ insP P x (p4 + 4) = some (6, (L.length : Int)) ∧ insP P x (p4 + 5) = some (21, ((p3 + 2 : Nat) : Int)) ∧
  out = p4 + 6 ∧ insP P x out = some (29, (L.length : Int)) ∧ pc' = out + 1
/-- The loop over a table. -/
def walkS (x : Nat) (E : Sco) (L : List Nm8) (nk nv : Nm8) (body : Int) (p1 pc' : Nat) : Prop := ∃ p4 out : Nat,
  insP P x p1 = some (6, (L.length : Int)) ∧ insP P x (p1 + 1) = some (2, 0) ∧ insP P x (p1 + 2) = some (6, ((L.length + 1 : Nat) : Int)) ∧
  insP P x (p1 + 3) = some (32, (L.length : Int)) ∧ insP P x (p1 + 4) = some (22, (out : Int)) ∧ blkS ns P rc x E (L ++ [[], [], nk, nv]) (some (L.length, out)) (p1 + 5) body p4 ∧
  insP P x p4 = some (29, ((L.length + 2 : Nat) : Int)) ∧ insP P x (p4 + 1) = some (21, ((p1 + 3 : Nat) : Int)) ∧ out = p4 + 2 ∧ insP P x out = some (29, (L.length : Int)) ∧ pc' = out + 1
/-- The names of a list of nodes. -/
def parS : Nat → Int → List Nm8 → Prop
  | 0, _, _ => False
  | m + 1, n, l => if n = 0 then l = [] else ∃ d l', nd ns n = some d ∧ l = d.s :: l' ∧ parS m d.next l'
/-- A finished function; its body ends at q. -/
structure FnX (ns : List Nd) (P : List Fs) (y : Nat) (f : Fs) (E : Sco) (q : Nat) : Prop where
  ln : f.code.length = q + 3
  lo : (f.locals.length : Int) = f.nparams ∧ f.loops = []
  nd : f.ups.Nodup ∧ f.ups.length ≤ 144
  kq : ∀ v, v ∈ f.consts → KS ns v
  pa : ∀ xL E', E = xL :: E' → xL.1 < y ∧ f.parent = some xL.1 ∧ ∃ g, P[xL.1]? = some g ∧ ∀ d, d ∈ f.ups → (d.1 = 1 → d.2 < g.nslots) ∧ (d.1 = 0 → d.2 < g.ups.length)
  pz : E = [] → f.parent = none
/-- The function y, made within (x, L) and what is around that. -/
def fnS (y : Nat) (E : Sco) (d : Nd) : Prop := ∃ f m ps p1, P[y]? = some f ∧ parS ns m d.a ps ∧ f.nparams = ps.length ∧ blkS ns P rc y E ps none 0 d.b p1 ∧ insP P y p1 = some (2, 0) ∧ insP P y (p1 + 1) = some (2, 0) ∧ insP P y (p1 + 2) = some (27, 0) ∧ FnX ns P y f E p1
def exprS (x : Nat) (E : Sco) (L : List Nm8) (pc : Nat) (n : Int) (pc' : Nat) : Prop := ∃ d, nd ns n = some d ∧
  if d.k = 0 then insP P x pc = some (2, 0) ∧ pc' = pc + 1
  else if d.k = 12 then insP P x pc = some (2, 0) ∧ pc' = pc + 1
  else if d.k = 13 then insP P x pc = some (3, 0) ∧ pc' = pc + 1
  else if d.k = 14 then insP P x pc = some (4, 0) ∧ pc' = pc + 1
  else if d.k = 15 then ∃ i, insP P x pc = some (1, i) ∧ kP P x i ⟨2, d.n, []⟩ ∧ pc' = pc + 1
  else if d.k = 16 then ∃ i, insP P x pc = some (1, i) ∧ kP P x i ⟨3, 0, d.s⟩ ∧ pc' = pc + 1
  else if d.k = 17 then VarS P x E L d.s 5 7 9 pc ∧ pc' = pc + 1
  else if d.k = 18 then ∃ p1 p2, rc.expr x E L pc d.a p1 ∧ rc.expr x E L p1 d.b p2 ∧ insP P x p2 = some (11, 0) ∧ pc' = p2 + 1
  else if d.k = 19 then ∃ p1, clS ns P rc x E L pc n p1 ∧ insP P x p1 = some (25, 0) ∧ pc' = p1 + 1
  else if d.k = 20 then insP P x pc = some (28, d.n) ∧ 0 ≤ d.n ∧ fnS ns P rc d.n.toNat ((x, L) :: E) d ∧ pc' = pc + 1
  else if d.k = 21 then ∃ m, insP P x pc = some (14, 0) ∧ itmS ns P rc m x E L (pc + 1) d.a 0 pc'
  else if d.k = 22 then ∃ p1 p2, rc.expr x E L pc d.a p1 ∧ rc.expr x E L p1 d.b p2 ∧ insP P x p2 = some (binaryM d.n) ∧ pc' = p2 + 1
  else if d.k = 23 then ∃ p1, rc.expr x E L pc d.a p1 ∧ insP P x p1 = some (unaryM d.n) ∧ pc' = p1 + 1
  else if d.k = 24 then ∃ p1, rc.expr x E L pc d.a p1 ∧ insP P x p1 = some (23, (pc' : Int)) ∧ rc.expr x E L (p1 + 1) d.b pc'
  else if d.k = 25 then ∃ p1, rc.expr x E L pc d.a p1 ∧ insP P x p1 = some (24, (pc' : Int)) ∧ rc.expr x E L (p1 + 1) d.b pc'
  else False
def stmtS (x : Nat) (E : Sco) (L : List Nm8) (br : Brk) (pc : Nat) (n : Int) (pc' : Nat) (L' : List Nm8) : Prop := ∃ d, nd ns n = some d ∧
  if d.k = 1 then ∃ p1, rc.expr x E L pc d.a p1 ∧ insP P x p1 = some (6, (L.length : Int)) ∧ pc' = p1 + 1 ∧ L' = L ++ [d.s]
  else if d.k = 2 then ∃ a b p1, nd ns d.a = some a ∧ nd ns a.next = some b ∧ clS ns P rc x E L pc d.b p1 ∧ insP P x p1 = some (6, (L.length : Int) + 1) ∧ insP P x (p1 + 1) = some (6, (L.length : Int)) ∧ pc' = p1 + 2 ∧ L' = L ++ [a.s, b.s]
  else if d.k = 3 then ∃ p1, rc.expr x E (L ++ [d.s]) pc d.a p1 ∧ insP P x p1 = some (6, (L.length : Int)) ∧ pc' = p1 + 1 ∧ L' = L ++ [d.s]
  else L' = L ∧
  if d.k = 4 then ∃ g, nd ns d.a = some g ∧ if g.k = 17 then ∃ p1, rc.expr x E L pc d.b p1 ∧ VarS P x E L g.s 6 8 10 p1 ∧ pc' = p1 + 1
      else ∃ p1 p2 p3, rc.expr x E L pc g.a p1 ∧ rc.expr x E L p1 g.b p2 ∧ rc.expr x E L p2 d.b p3 ∧ insP P x p3 = some (12, 0) ∧ pc' = p3 + 1
  else if d.k = 5 then ∃ p1, clS ns P rc x E L pc d.a p1 ∧ insP P x p1 = some (25, 0) ∧ insP P x (p1 + 1) = some (25, 0) ∧ pc' = p1 + 2
  else if d.k = 6 then ∃ p1 p2, rc.expr x E L pc d.a p1 ∧ insP P x p1 = some (22, ((p2 + 1 : Nat) : Int)) ∧ blkS ns P rc x E L br (p1 + 1) d.b p2 ∧ insP P x p2 = some (21, (pc' : Int)) ∧ blkS ns P rc x E L br (p2 + 1) d.c pc'
  else if d.k = 7 then ∃ p1 p2, rc.expr x E L pc d.a p1 ∧ insP P x p1 = some (22, (pc' : Int)) ∧ blkS ns P rc x E L (some (L.length, pc')) (p1 + 1) d.b p2 ∧ insP P x p2 = some (21, (pc : Int)) ∧ pc' = p2 + 1
  else if d.k = 8 then ∃ da dl p1 p2 p3, nd ns d.a = some da ∧ nd ns da.next = some dl ∧ rc.expr x E L pc d.a p1 ∧ insP P x p1 = some (6, (L.length : Int)) ∧
      rc.expr x E (L ++ [[]]) (p1 + 1) da.next p2 ∧ insP P x p2 = some (6, ((L.length + 1 : Nat) : Int)) ∧
      (if dl.next ≠ 0 then rc.expr x E (L ++ [[], []]) (p2 + 1) dl.next p3 else ∃ i, insP P x (p2 + 1) = some (1, i) ∧ kP P x i ⟨2, 4607182418800017408, []⟩ ∧ p3 = p2 + 2) ∧ roundS ns P rc x E L d.s d.b p3 pc'
  else if d.k = 9 then ∃ dk dv p1, nd ns d.a = some dk ∧ nd ns dk.next = some dv ∧ rc.expr x E L pc d.b p1 ∧ walkS ns P rc x E L dk.s dv.s d.c p1 pc'
  else if d.k = 10 then ∃ p1 p2, rc.expr x E L pc d.a p1 ∧ rc.expr x E L p1 d.b p2 ∧ insP P x p2 = some (27, 0) ∧ pc' = p2 + 1
  else if d.k = 11 then ∃ (base out p1 : Nat), br = some (base, out) ∧ levS P x base L pc p1 ∧ insP P x p1 = some (21, (out : Int)) ∧ pc' = p1 + 1
  else False
end
def recS (ns : List Nd) (P : List Fs) : Nat → SR
  | 0 => ⟨fun _ _ _ _ _ _ => False, fun _ _ _ _ _ _ _ _ => False⟩
  | m + 1 => ⟨exprS ns P (recS ns P m), stmtS ns P (recS ns P m)⟩
/-- The whole program. -/
def progS (ns : List Nd) (P : List Fs) (root : Int) : Prop := ∃ m f p1, P[0]? = some f ∧ f.ups = [] ∧ blkS ns P (recS ns P m) 0 [] [] none 0 root p1 ∧ insP P 0 p1 = some (2, 0) ∧ insP P 0 (p1 + 1) = some (2, 0) ∧ insP P 0 (p1 + 2) = some (27, 0) ∧ FnX ns P 0 f [] p1
end Go.Wl
