/- Plain: package vm, the reader. -/
import Derived.Test.Qxb6500573aGreatDoorBD
namespace Go.Wl
open Go Go.Sl Go.Proofs
set_option linter.unusedVariables false
/-- A block with its mark. -/
def blkF (b : Nat) (T : TypeId) (l : List Value) (fz : Nat × Nat) : Seg := [(b, .cells l.toArray T fz)]
theorem Cell.headF {b off : Nat} {T : TypeId} {l : List Value} {fz : Nat × Nat} {H : Hp} {v : Value} (h : l[off]? = some v) : Cell (blkF b T l fz :: H) b off v := ⟨_, _, _, Has.obj b _ H, by simpa using h⟩
theorem Cells.headF {b o : Nat} {T : TypeId} {l : List Value} {fz : Nat × Nat} {H : Hp} {vs : List Value} (h : (l.drop o).take vs.length = vs) : Cells (blkF b T l fz :: H) b o vs :=
  ⟨_, _, _, Has.obj b _ H, fun j v hj => by
    have hlt := (List.getElem?_eq_some_iff.1 hj).1
    rw [← h, List.getElem?_take_of_lt hlt, List.getElem?_drop] at hj
    simpa using hj⟩
structure Rd where
  l : List UInt8
  i : Nat
  bad : Bool
abbrev rdB (rb lb cap : Nat) (r : Rd) : Seg := blk rb 248 [.slice (some ⟨lb, 0, none⟩) r.l.length cap, I r.i, .bool r.bad]
def rdSeg (rb lb cap : Nat) (sp : List Value × (Nat × Nat)) (r : Rd) : Seg := List.flatten [rdB rb lb cap r, blkF lb 5 (bytesV r.l ++ sp.1) sp.2]
abbrev tkOk (r : Rd) (n : Nat) : Prop := (n : Int) ≤ (r.l.length : Int) - r.i
def tkR (r : Rd) (n : Nat) : Rd := if r.bad = true then r else if tkOk r n then { r with i := r.i + n } else { r with bad := true }
def tkV (lb cap : Nat) (r : Rd) (n : Nat) : Value := if r.bad = true then .slice none 0 0 else if tkOk r n then .slice (winA (some ⟨lb, 0, none⟩) 1 cap r.i) n (cap - r.i) else .slice none 0 0
def rdOk (cap : Nat) (r : Rd) : Prop := r.i ≤ r.l.length ∧ r.l.length ≤ cap ∧ r.l.length ≤ 1000000
theorem rdOk.tk {cap : Nat} {r : Rd} (h : rdOk cap r) (n : Nat) : rdOk cap (tkR r n) := by
  unfold tkR
  split
  · exact h
  · split
    · rename_i hk
      unfold tkOk at hk
      obtain ⟨h1, h2, h3⟩ := h
      exact ⟨by dsimp only; omega, h2, h3⟩
    · exact h
theorem rd_bad {rb lb cap : Nat} {sp : List Value × (Nat × Nat)} {r : Rd} {H : Hp} : Cell (rdSeg rb lb cap sp r :: H) rb (0 + 2) (.bool r.bad) := seg_cell (s := rdB rb lb cap r) (by simp) (Cell.head (H := []) rfl)
theorem rd_byte {rb lb cap : Nat} {sp : List Value × (Nat × Nat)} {r : Rd} {H : Hp} {j : Nat} (hj : j < r.l.length) : Cell (rdSeg rb lb cap sp r :: H) lb j (.int .u8 (r.l[j].toNat : Nat)) := seg_cell (s := blkF lb 5 (bytesV r.l ++ sp.1) sp.2) (by simp) (Cell.headF (H := []) (by
  rw [List.getElem?_append_left (by rw [bytesV_len]; exact hj)]
  unfold bytesV
  rw [List.getElem?_map, List.getElem?_eq_getElem hj]
  rfl))
theorem tkR_l (r : Rd) (n : Nat) : (tkR r n).l = r.l := by
  unfold tkR
  split
  · rfl
  · split <;> rfl
theorem tk_good {r : Rd} {n : Nat} (h : (tkR r n).bad = false) : r.bad = false ∧ tkOk r n ∧ tkR r n = { r with i := r.i + n } := by
  unfold tkR at h ⊢
  by_cases hb : r.bad = true
  · rw [if_pos hb] at h
    rw [hb] at h
    cases h
  · rw [if_neg hb] at h ⊢
    by_cases hk : tkOk r n
    · rw [if_pos hk]
      exact ⟨by simpa using hb, hk, rfl⟩
    · rw [if_neg hk] at h
      cases h
theorem tkV_good {lb cap : Nat} {r : Rd} {n : Nat} (hr : rdOk cap r) (hn : 0 < n) (h : (tkR r n).bad = false) : tkV lb cap r n = .slice (some ⟨lb, 0 + r.i * 1, none⟩) n (cap - r.i) := by
  obtain ⟨h1, h2, _⟩ := tk_good h
  obtain ⟨g1, g2, g3⟩ := hr
  unfold tkV
  unfold tkOk at h2
  rw [if_neg (by rw [h1]; decide), if_pos h2, winA_some (by omega)]
def u8M (r : Rd) : Int := if (tkR r 1).bad = true then 0 else ((r.l.getD r.i 0).toNat : Nat)
def u16M (r : Rd) : Int := if (tkR r 2).bad = true then 0 else (((r.l.getD r.i 0).toNat + 256 * (r.l.getD (r.i + 1) 0).toNat : Nat) : Int)
end Go.Wl
