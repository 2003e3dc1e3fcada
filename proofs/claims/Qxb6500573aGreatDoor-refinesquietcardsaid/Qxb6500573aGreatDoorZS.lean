/- Plain: the two parsers answer alike. -/
import Derived.Test.Qxb6500573aGreatDoorZR
namespace Go.Zm
open Go Go.Sl Go.Wl Go.Nm Go.Proofs
set_option linter.unusedVariables false
set_option linter.unusedSectionVars false
theorem rec_stop {toks : List Tok} : ∀ (n : Nat) {room least : Int} {s : PS} {t : T} {s' : PS}, 1 ≤ least → (recP toks n).expr room least s = some (t, s') → t.isNil = false → (rk s'.cur.kind).1 < least
  | 0, _, _, _, _, _, _, h, _ => by cases h
  | n + 1, room, least, s, t, s', hl, h, ht => by
    change exprP toks (recP toks n) n room least s = _ at h
    unfold exprP at h
    obtain ⟨_, h⟩ := Wl.grd h
    obtain ⟨x, s1, _, h⟩ := bnd2 h
    exact exl_stop hl _ _ _ _ _ h ht
theorem rec_deep {toks : List Tok} : ∀ (n : Nat) {room : Int} {s : PS} {t : T} {s' : PS}, room ≤ 0 → (recP toks n).unary room s = some (t, s') → t = .nil ∧ s' = failP 16 s
  | 0, _, _, _, _, _, h => by cases h
  | n + 1, room, s, t, s', hr, h => by
    change unaryP toks (recP toks n) n room s = _ at h
    unfold unaryP at h
    obtain ⟨_, h⟩ := Wl.grd h
    rw [if_pos hr] at h
    injection h with h; injection h with h1 h2
    exact ⟨h1.symm, h2.symm⟩
theorem rec_ih {src : List UInt8} {toks : List Tok} (hT : TOk toks) : ∀ n, IH src toks (recP toks n)
  | 0 => ⟨fun _ _ _ h => (by cases h), fun _ _ h => (by cases h), fun _ _ h => (by cases h), fun _ _ h => (by cases h)⟩
  | n + 1 => ⟨fun h1 h2 h3 h => expr_eq hT (rec_ih hT n) h1 h2 (rec_stop n) (rec_deep n) (lf := n) h3 h, fun h1 h3 h => unary_eq hT (rec_ih hT n) h1 (lf := n) h3 h, fun h1 h3 h => block_eq hT (rec_ih hT n) h1 (lf := n) h3 h, fun h1 h3 h => if_eq hT (rec_ih hT n) h1 h3 h⟩
/-! More fuel for the flattening turns nothing. -/
structure Le1 (a b : RecF) : Prop where
  e : ∀ {t : T} {ns : List Nd} {r : Int × List Nd}, a.expr t ns = some r → b.expr t ns = some r
  c : ∀ {l : List T} {ns : List Nd} {r : Int × List Nd}, a.chain l ns = some r → b.chain l ns = some r
section
variable {a b : RecF} (hab : Le1 a b)
include hab
theorem opt_mono {t : T} {ns : List Nd} {r : Int × List Nd} (h : optF a t ns = some r) : optF b t ns = some r := by
  unfold optF at h ⊢
  split at h
  · rename_i c; rw [if_pos c]; exact h
  · rename_i c; rw [if_neg c]; exact hab.e h
theorem expr_mono {t : T} {ns : List Nd} {r : Int × List Nd} (h : exprF a t ns = some r) : exprF b t ns = some r := by
  cases t with
  | index x y z =>
    obtain ⟨p, n1, h1, h⟩ := bnd2 h
    obtain ⟨q, n2, h2, h⟩ := bnd2 h
    show bind2 _ _ = _
    rw [hab.e h1, bind2_some, hab.e h2]; exact h
  | call x y z =>
    obtain ⟨p, n1, h1, h⟩ := bnd2 h
    obtain ⟨q, n2, h2, h⟩ := bnd2 h
    show bind2 _ _ = _
    rw [hab.e h1, bind2_some, hab.c h2]; exact h
  | func x y z w =>
    obtain ⟨p, n1, h1, h⟩ := bnd2 h
    obtain ⟨q, n2, h2, h⟩ := bnd2 h
    show bind2 _ _ = _
    rw [hab.c h1, bind2_some, hab.c h2]; exact h
  | table x y =>
    obtain ⟨p, n1, h1, h⟩ := bnd2 h
    show bind2 _ _ = _
    rw [hab.c h1]; exact h
  | bin x y z w v =>
    obtain ⟨p, n1, h1, h⟩ := bnd2 h
    obtain ⟨q, n2, h2, h⟩ := bnd2 h
    show bind2 _ _ = _
    rw [hab.e h1, bind2_some, hab.e h2]; exact h
  | un x y z =>
    obtain ⟨p, n1, h1, h⟩ := bnd2 h
    show bind2 _ _ = _
    rw [hab.e h1]; exact h
  | _ => exact h
theorem stmt_mono {t : T} {ns : List Nd} {r : Int × List Nd} (h : stmtF a t ns = some r) : stmtF b t ns = some r := by
  cases t with
  | loc l v =>
    cases l with
    | nil => exact h
    | cons x rest =>
      cases x with
      | name at_ s =>
        simp only [stmtF] at h ⊢
        split at h
        · rename_i c
          rw [if_pos c]
          obtain ⟨p, n1, h1, h⟩ := bnd2 h
          rw [opt_mono hab h1]; exact h
        · rename_i c
          rw [if_neg c]
          obtain ⟨p, n1, h1, h⟩ := bnd2 h
          obtain ⟨q, n2, h2, h⟩ := bnd2 h
          rw [hab.c h1, bind2_some, hab.e h2]; exact h
      | _ => exact h
  | locFn x y z =>
    obtain ⟨p, n1, h1, h⟩ := bnd2 h
    show bind2 _ _ = _
    rw [hab.e h1]; exact h
  | asg x y z =>
    obtain ⟨p, n1, h1, h⟩ := bnd2 h
    obtain ⟨q, n2, h2, h⟩ := bnd2 h
    show bind2 _ _ = _
    rw [hab.e h1, bind2_some, hab.e h2]; exact h
  | callS c =>
    cases c with
    | call x y z =>
      obtain ⟨p, n1, h1, h⟩ := bnd2 h
      show bind2 _ _ = _
      rw [hab.e h1]; exact h
    | _ => exact h
  | ife x y z w =>
    obtain ⟨p, n1, h1, h⟩ := bnd2 h
    obtain ⟨q, n2, h2, h⟩ := bnd2 h
    obtain ⟨q3, n3, h3, h⟩ := bnd2 h
    show bind2 _ _ = _
    rw [hab.e h1, bind2_some, hab.c h2, bind2_some, hab.c h3]; exact h
  | whl x y z =>
    obtain ⟨p, n1, h1, h⟩ := bnd2 h
    obtain ⟨q, n2, h2, h⟩ := bnd2 h
    show bind2 _ _ = _
    rw [hab.e h1, bind2_some, hab.c h2]; exact h
  | forN x y z w =>
    obtain ⟨p, n1, h1, h⟩ := bnd2 h
    obtain ⟨q, n2, h2, h⟩ := bnd2 h
    show bind2 _ _ = _
    rw [hab.c h1, bind2_some, hab.c h2]; exact h
  | forIn l x y =>
    cases l with
    | nil => exact h
    | cons n rest =>
      cases n with
      | name at_ s =>
        obtain ⟨p, n1, h1, h⟩ := bnd2 h
        obtain ⟨q, n2, h2, h⟩ := bnd2 h
        obtain ⟨q3, n3, h3, h⟩ := bnd2 h
        show bind2 _ _ = _
        rw [hab.c h1, bind2_some, hab.e h2, bind2_some, hab.c h3]; exact h
      | _ => exact h
  | ret x y z =>
    obtain ⟨p, n1, h1, h⟩ := bnd2 h
    obtain ⟨q, n2, h2, h⟩ := bnd2 h
    show bind2 _ _ = _
    rw [opt_mono hab h1, bind2_some, opt_mono hab h2]; exact h
  | _ => exact h
theorem chainL_mono : ∀ {l : List T} {f la : Int} {ns : List Nd} {r : Int × List Nd}, chainL a l f la ns = some r → chainL b l f la ns = some r
  | [], _, _, _, _, h => h
  | t :: l, f, la, ns, r, h => by
    unfold chainL at h ⊢
    obtain ⟨x, n1, h1, h⟩ := bnd2 h
    have h1' : layF b t ns = some (x, n1) := by
      unfold layF at h1 ⊢
      cases e : t.isStmt <;> rw [e] at h1
      · exact expr_mono hab h1
      · exact stmt_mono hab h1
    rw [h1', bind2_some]
    split at h
    · rename_i c; rw [if_pos c]; exact chainL_mono h
    · rename_i c
      rw [if_neg c]
      split at h
      · rename_i c2; rw [dif_pos c2]; exact chainL_mono h
      · cases h
end
theorem recF_le : ∀ n, Le1 (recF n) (recF (n + 1))
  | 0 => ⟨fun h => (by cases h), fun h => (by cases h)⟩
  | n + 1 => ⟨fun h => expr_mono (recF_le n) h, fun {l ns r} h => by
      change chainF (recF n) l ns = _ at h
      show chainF (recF (n + 1)) l ns = _
      unfold chainF at h ⊢
      split at h
      · rename_i c; rw [if_pos c]; exact chainL_mono (recF_le n) h
      · cases h⟩
theorem recF_mono {l : List T} {ns : List Nd} {r : Int × List Nd} : ∀ (k n : Nat), (recF n).chain l ns = some r → (recF (n + k)).chain l ns = some r
  | 0, n, h => h
  | k + 1, n, h => (recF_le (n + k)).c (recF_mono k n h)
theorem LL.eq {l : List T} {ns ns1 : List Nd} {x : Int} (h : LL l ns x ns1) {n : Nat} {r : Int × List Nd} (hr : (recF n).chain l ns = some r) : r = (x, ns1) := by
  obtain ⟨F0, h⟩ := h
  have h1 := recF_mono F0 n hr
  have h2 := h (n + F0) (by omega)
  rw [h1] at h2
  exact Option.some.inj h2
/-- What the other parser answers. -/
def prZ : PR → Option (List Nd × Int) × Int × Int
  | .err e a => (none, e, a)
  | .ok ns root => (some (ns, root), 0, 0)
/-- The whole. -/
theorem parse_eq {src : List UInt8} {toks0 toks : List Tok} {nodes0 ns1 : List Nd} {p : PR} (h : parseS 100000 src toks0 nodes0 = some (p, toks, ns1)) :
    ∃ N0, ∀ N, N0 ≤ N → parseZ src N = some (prZ p) := by
  unfold parseS at h
  by_cases hl : 2048 < src.length
  · rw [if_pos (by omega)] at h
    injection h with h; injection h with h1 h2; subst h1
    exact ⟨0, fun N _ => by unfold parseZ; rw [if_pos hl]; rfl⟩
  · rw [if_neg (by omega)] at h
    obtain ⟨tk, hs, h⟩ := bnd1 h
    obtain ⟨t0, ht0, h⟩ := bnd1 h
    obtain ⟨r, ps, hb, h⟩ := bnd2 h
    obtain ⟨tk', hs', hTk⟩ := scan_ok (src := src) (by omega) 100000 0 0 [] (by omega) (Nat.le_refl _) (Nat.zero_le _) (fun x hx => by cases hx)
    rw [hs] at hs'
    injection hs' with hs'
    subst hs'
    have hT : TOk tk := by
      refine ⟨by have := hTk.len.2; omega, fun t ht hk => ?_⟩
      obtain ⟨i, hi⟩ := List.getElem?_of_mem ht
      have hlt := (List.getElem?_eq_some_iff.1 hi).1
      by_cases c : i + 1 < tk.length
      · have := (hTk.ok i t hi c).kd; omega
      · rcases (hTk.last i t hi (by omega)).kd with q | ⟨_, q⟩
        · omega
        · omega
    have hst := toks_strm hs
    obtain ⟨rest, rfl⟩ : ∃ rest, tk = t0 :: rest := by
      cases tk with
      | nil => cases ht0
      | cons a l => injection ht0 with ht0; subst ht0; exact ⟨l, rfl⟩
    obtain ⟨q1, q2, q3, q4⟩ := hst
    have hR : Rl src (t0 :: rest) ⟨0, t0, 0, 0, 0, 0, 0⟩ ⟨(lexAt src 0).1, (lexAt src 0).2, [nd0], 0, 0, 0, 0, 0⟩ := ⟨rfl, q2, q4, q3, rfl, rfl, rfl, rfl, rfl, ⟨Nat.le_refl _, Nat.le_refl _⟩, Int.le_refl _⟩
    have hnx : nextZ src ⟨0, ⟨0, [], 0, 0, 0⟩, [nd0], 0, 0, 0, 0, 0⟩ = some ⟨(lexAt src 0).1, (lexAt src 0).2, [nd0], 0, 0, 0, 0, 0⟩ := nextZ_eq (Nat.zero_le _)
    obtain ⟨x, m1, ⟨N0, hev⟩, hres⟩ := (rec_ih hT 100000).block (by omega) hR hb
    refine ⟨N0, fun N hN => ?_⟩
    have hE : (recZ src N).block 1 ⟨(lexAt src 0).1, (lexAt src 0).2, [nd0], 0, 0, 0, 0, 0⟩ = some (x, m1) := hev N N0 hN (Nat.le_refl _)
    unfold parseZ
    rw [if_neg hl, hnx]
    show bind2 _ _ = _
    rw [hE, bind2_some]
    generalize hmo : (if m1.err = 0 ∧ m1.tok.k ≠ 0 then failZ 15 m1 else m1) = mo
    dsimp only
    unfold finS at h
    rcases hres with ⟨rfl, hF⟩ | ⟨chunk, rfl, hO⟩
    · have e : endS none ps = ps := rfl
      rw [e, if_pos hF.n] at h
      injection h with h; injection h with h1 h2; subst h1
      obtain rfl : m1 = mo := by rw [← hmo, if_neg (fun q => hF.ne q.1)]
      rw [if_pos hF.ne, hF.e, hF.a]
      rfl
    · unfold endS at h
      dsimp only [Option.getD_some] at h
      by_cases hk : ps.cur.kind ≠ 0
      · have hF := failR hT hO.rl (e := 15) (by decide)
        rw [if_pos hk, if_pos hF.n] at h
        injection h with h; injection h with h1 h2; subst h1
        obtain rfl : failZ 15 m1 = mo := by rw [← hmo, if_pos ⟨hO.rl.er, fun q => hk (hO.rl.tk.k.1.1 q)⟩]
        rw [if_pos hF.ne, hF.e, hF.a]
        rfl
      · have hk' : ps.cur.kind = 0 := Decidable.not_not.1 hk
        rw [if_neg hk, if_neg (fun q => q hO.rl.se)] at h
        obtain rfl : m1 = mo := by rw [← hmo, if_neg (fun q => q.2 (hO.rl.tk.k0 hk'))]
        rw [if_neg (fun q => q hO.rl.er)]
        obtain ⟨root, ns, hc, h⟩ := bnd2 h
        have := LL.eq hO.la hc
        injection this with e1 e2
        subst e1
        subst e2
        have hnb := hO.rl.nb
        have hbd := hO.rl.bd hT
        rw [if_pos (by omega)] at h
        rw [if_neg (by omega)]
        split at h
        · rename_i c3
          injection h with h; injection h with h1 h2; subst h1
          rw [if_pos (by omega)]
          rfl
        · rename_i c3
          injection h with h; injection h with h1 h2; subst h1
          rw [if_neg (by omega)]
          rfl
end Go.Zm
