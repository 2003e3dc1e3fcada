/- Plain: a sentence from its text to its program. -/
import Derived.Test.Qxb6500573aGreatDoorBQ
namespace Go.Wl
open Go Go.Sl Go.Proofs
set_option linter.unusedVariables false
def er (d : Nd) : Nd := { d with at_ := 0 }
def nPut (x : Int) (d : Nd) : Nd := if d.k = 15 ∧ d.n = -1 then { d with n := x } else d
/-- The parse, behind the scan. -/
def parT (fuel : Nat) (src : List UInt8) (nodes0 : List Nd) (toks : List Tok) : Option (PR × List Tok × List Nd) := bind1 toks[0]? fun t0 =>
    bind2 ((recP toks fuel).block 12 ⟨0, t0, 0, 0, 0, 0, 0⟩) fun r ps => finS fuel src toks nodes0 (r.getD []) (endS r ps)
def erP (r : PR × List Tok × List Nd) : Option (List Nd × Int) := match r.1 with
  | .ok ns root => if ns.length ≤ 1000000 then some (ns.map er, root) else none
  | .err _ _ => none
theorem parseS_eq {fuel : Nat} {src : List UInt8} {toks0 : List Tok} {nodes0 : List Nd} (h : src.length ≤ 2048) : parseS fuel src toks0 nodes0 = bind1 (scanL fuel src 0 0 []) (parT fuel src nodes0) := by
  unfold parseS
  rw [if_neg (by omega)]
  rfl
/-- A scan that stops where the rest begins. -/
def scanW (w : List UInt8) : Nat → List UInt8 → Nat → Nat → List Tok → Option (Nat × Nat × Nat × List Tok)
  | 0, _, _, _, _ => none
  | n + 1, p, pos, sk, toks => match p with
    | [] => some (n + 1, pos, sk, toks)
    | c :: p' => if 100000 < toks.length then none else if 0 < sk then scanW w n p' (pos + 1) (sk - 1) toks else match lexS (c :: p' ++ w) pos c.toNat with
      | none => none
      | some (.skip e) => scanW w n p' (pos + 1) (e - 1) toks
      | some (.tok e t) => if t.kind = 1 then none else scanW w n p' (pos + 1) (e - 1) (toks ++ [{ t with err := 0 }])
theorem scanW_ok (w : List UInt8) : ∀ (n : Nat) (p : List UInt8) (pos sk : Nat) (toks : List Tok) (n' pos' sk' : Nat) (toks' : List Tok), scanW w n p pos sk toks = some (n', pos', sk', toks') → scanS n (p ++ w) pos sk toks = scanS n' w pos' sk' toks'
  | 0, _, _, _, _, _, _, _, _, h => by cases h
  | n + 1, [], pos, sk, toks, n', pos', sk', toks', h => by
    injection h with h
    injection h with h1 h2
    injection h2 with h2 h3
    injection h3 with h3 h4
    subst h1 h2 h3 h4
    rfl
  | n + 1, c :: p', pos, sk, toks, n', pos', sk', toks', h => by
    unfold scanW at h
    dsimp only at h
    rw [List.cons_append]
    conv => lhs; unfold scanS
    split at h
    · cases h
    · rename_i hc
      rw [if_neg hc]
      dsimp only
      split at h
      · rename_i hs
        rw [if_pos hs]
        exact scanW_ok w n p' _ _ _ _ _ _ _ h
      · rename_i hs
        rw [if_neg hs]
        have e : lexS (c :: p' ++ w) pos ((c.toNat : Nat) : Int) = lexS (c :: (p' ++ w)) pos ((c.toNat : Nat) : Int) := rfl
        rw [e] at h
        cases hx : lexS (c :: (p' ++ w)) pos ((c.toNat : Nat) : Int) with
        | none => rw [hx] at h; cases h
        | some z =>
          rw [hx] at h
          cases z with
          | skip e =>
            dsimp only at h ⊢
            exact scanW_ok w n p' _ _ _ _ _ _ _ h
          | tok e t =>
            dsimp only at h ⊢
            split at h
            · cases h
            · rename_i ht
              rw [if_neg ht]
              exact scanW_ok w n p' _ _ _ _ _ _ _ h
/-- The tokens of a text that ends amid the program. -/
def tkP (n : Nat) (p : List UInt8) (pos : Nat) : List Tok := ((scanS n p pos 0 []).getD []).dropLast
def seeC (s : CS) : Int × List Rw × Nat := (s.np, (s.fs.take s.np.toNat).map rw, s.fs.length)
end Go.Wl
