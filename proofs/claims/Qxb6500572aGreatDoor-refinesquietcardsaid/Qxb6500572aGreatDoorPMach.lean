/- The memory: plain, and as it lies in the heap. -/
import Derived.Test.Qxb6500572aGreatDoorSlL
import Derived.Test.Qxb6500572aGreatDoorRepr
namespace Go.Wl
open Go Go.Sl
set_option linter.unusedVariables false
set_option linter.unusedSimpArgs false

structure Mem where
  bytes : List UInt8
  max : Int

def wid (op : Int) : Nat := ([4, 8, 1, 1, 2, 2, 4, 8, 1, 2] : List Nat).getD (op - 19).toNat 0
def reach (m : Mem) (op first last addr off : Int) : Int × Int × Int :=
  if op < first ∨ last < op then (0, 0, 9)
  else if off < 0 ∨ 4294967295 < off ∨ (m.bytes.length : Int) < addr % 4294967296 + off + wid op then (0, 0, 12)
  else (addr % 4294967296 + off, wid op, 0)
def rd (m : Mem) (ea n : Nat) : List UInt8 := (m.bytes.drop ea).take n
def wr (m : Mem) (ea : Nat) (l : List UInt8) : Mem := { m with bytes := m.bytes.take ea ++ l ++ m.bytes.drop (ea + l.length) }
def grow (m : Mem) (n : Int) : Mem × Int :=
  if m.max - (m.bytes.length / 8 : Nat) < n % 4294967296 then (m, -1)
  else ({ m with bytes := m.bytes ++ List.replicate (8 * (n % 4294967296).toNat) 0 }, (m.bytes.length / 8 : Nat))
def le16 (b0 b1 : UInt8) : Int := bitI .or .u16 (IntKind.u16.wrap b0.toNat) (IntKind.u16.wrap (IntKind.u16.wrap b1.toNat * 2 ^ 8))
def le32 (b0 b1 b2 b3 : UInt8) : Int :=
  bitI .or .u32 (bitI .or .u32 (bitI .or .u32 (IntKind.u32.wrap b0.toNat) (IntKind.u32.wrap (IntKind.u32.wrap b1.toNat * 2 ^ 8))) (IntKind.u32.wrap (IntKind.u32.wrap b2.toNat * 2 ^ 16))) (IntKind.u32.wrap (IntKind.u32.wrap b3.toNat * 2 ^ 24))
/-- What a load makes of the window's eight bytes. -/
def loadV (op : Int) (b0 b1 b2 b3 b4 b5 b6 b7 : UInt8) : Int :=
  if op = 21 then IntKind.i64.wrap (IntKind.i8.wrap b0.toNat)
  else if op = 22 then IntKind.i64.wrap b0.toNat
  else if op = 23 then IntKind.i64.wrap (IntKind.i16.wrap (le16 b0 b1))
  else if op = 24 then IntKind.i64.wrap (le16 b0 b1)
  else if op = 19 then IntKind.i64.wrap (IntKind.i32.wrap (le32 b0 b1 b2 b3))
  else IntKind.i64.wrap (bitI .or .u64 (IntKind.u64.wrap (IntKind.u64.wrap (le32 b4 b5 b6 b7) * 2 ^ 32)) (IntKind.u64.wrap (le32 b0 b1 b2 b3)))
def pad8 (l : List UInt8) : List UInt8 := l ++ List.replicate (8 - l.length) 0
def load8 (op : Int) (l : List UInt8) : Int := match l with
  | [b0, b1, b2, b3, b4, b5, b6, b7] => loadV op b0 b1 b2 b3 b4 b5 b6 b7
  | _ => 0
def mload (m : Mem) (op addr off : Int) : Int × Int :=
  if (reach m op 19 24 addr off).2.2 ≠ 0 then (0, (reach m op 19 24 addr off).2.2)
  else (load8 op (pad8 (rd m (reach m op 19 24 addr off).1.toNat (reach m op 19 24 addr off).2.1.toNat)), 0)
def byteAt (v : Int) (i : Nat) : UInt8 := UInt8.ofNat ((v % 18446744073709551616).toNat / 2 ^ (8 * i))
def bytes8 (v : Int) : List UInt8 := (List.range 8).map (byteAt v)
def mstore (m : Mem) (op addr off v : Int) : Mem × Int :=
  if (reach m op 25 28 addr off).2.2 ≠ 0 then (m, (reach m op 25 28 addr off).2.2)
  else (wr m (reach m op 25 28 addr off).1.toNat ((bytes8 v).take (reach m op 25 28 addr off).2.1.toNat), 0)
def showMem (m : Mem) : List UInt8 := numS (m.bytes.length / 8 : Nat) ++ numS m.max ++ m.bytes.flatMap fun c => numS c.toNat

/-! In the heap. -/
def ptrV (o : Option Nat) : Value := .pointer (o.map fun b => ⟨b, 0, none⟩)
def Pages : List (Option Nat) → List UInt8 → Seg → Prop
  | [], bs, s => bs = [] ∧ s = []
  | none :: ps, bs, s => ∃ bs', bs = List.replicate 8 0 ++ bs' ∧ Pages ps bs' s
  | some b :: ps, bs, s => ∃ p bs' s', bs = p ++ bs' ∧ p.length = 8 ∧ s = blk b 5 (bytesV p) ++ s' ∧ Pages ps bs' s'
def isMach (b : Nat) (m : Mem) (s : Seg) : Prop :=
  ∃ pa pc pg sp sg, s = List.flatten [blk b 102 [.slice pa pg.length pc, I m.max, I (pg.countP Option.isSome : Nat)], sp, sg] ∧
    Arr 184 1 pa pg.length pc (pg.map ptrV) sp ∧ Pages pg m.bytes sg ∧ (pg.length : Int) ≤ m.max ∧ m.max ≤ 4
theorem Pages.len : ∀ {pg : List (Option Nat)} {bs : List UInt8} {s : Seg}, Pages pg bs s → bs.length = 8 * pg.length
  | [], _, _, h => by rw [h.1]; rfl
  | none :: ps, _, _, h => by obtain ⟨bs', rfl, h⟩ := h; have := Pages.len h; simp; omega
  | some b :: ps, _, _, h => by obtain ⟨p, bs', s', rfl, hp, rfl, h⟩ := h; have := Pages.len h; simp; omega
/-- The page i. -/
theorem Pages.get : ∀ {pg : List (Option Nat)} {bs : List UInt8} {s : Seg}, Pages pg bs s → ∀ {i : Nat} (hi : i < pg.length),
    (pg[i] = none ∧ (bs.drop (8 * i)).take 8 = List.replicate 8 0) ∨ (∃ b s1 s2, pg[i] = some b ∧ s = List.flatten [s1, blk b 5 (bytesV ((bs.drop (8 * i)).take 8)), s2])
  | [], _, _, h, i, hi => by simp at hi
  | none :: ps, bs, s, h, i, hi => by
    obtain ⟨bs', rfl, h⟩ := h
    cases i with
    | zero => exact .inl ⟨rfl, by simp⟩
    | succ i =>
      have e : List.drop (8 * (i + 1)) (List.replicate 8 0 ++ bs') = bs'.drop (8 * i) := by
        rw [show 8 * (i + 1) = (List.replicate 8 (0 : UInt8)).length + 8 * i by simp; omega, List.drop_append, List.drop_eq_nil_of_le (by simp)]
        simp
      rw [e]
      exact h.get (by simpa using hi)
  | some b :: ps, bs, s, h, i, hi => by
    obtain ⟨p, bs', s', rfl, hp, rfl, h⟩ := h
    cases i with
    | zero => exact .inr ⟨b, [], s', rfl, by simp [List.take_append, hp, List.take_of_length_le (show p.length ≤ 8 by omega)]⟩
    | succ i =>
      have e : List.drop (8 * (i + 1)) (p ++ bs') = bs'.drop (8 * i) := by
        rw [show 8 * (i + 1) = p.length + 8 * i by omega, List.drop_append, List.drop_eq_nil_of_le (by simp)]
        simp
      rw [e]
      rcases h.get (i := i) (by simpa using hi) with h1 | ⟨b1, s1, s2, h1, rfl⟩
      · exact .inl h1
      · exact .inr ⟨b1, blk b 5 (bytesV p) ++ s1, s2, h1, by simp⟩
theorem Pages.snoc : ∀ {pg : List (Option Nat)} {bs : List UInt8} {s : Seg}, Pages pg bs s → ∀ (n : Nat), Pages (pg ++ List.replicate n none) (bs ++ List.replicate (8 * n) 0) s
  | [], _, _, h, n => by
    obtain ⟨rfl, rfl⟩ := h
    induction n with
    | zero => exact ⟨rfl, rfl⟩
    | succ n ih => exact ⟨_, by rw [show 8 * (n + 1) = 8 + 8 * n by omega, ← List.replicate_append_replicate]; rfl, ih⟩
  | none :: ps, _, _, h, n => by obtain ⟨bs', rfl, h⟩ := h; exact ⟨_, by rw [List.append_assoc], h.snoc n⟩
  | some b :: ps, _, _, h, n => by obtain ⟨p, bs', s', rfl, hp, rfl, h⟩ := h; exact ⟨p, _, s', by rw [List.append_assoc], hp, rfl, h.snoc n⟩
/-- A page that stands is written. -/
theorem Pages.put : ∀ {pg : List (Option Nat)} {bs : List UInt8} {s : Seg}, Pages pg bs s → ∀ {i : Nat} (hi : i < pg.length) {b : Nat}, pg[i] = some b → ∃ s1 s2, s = List.flatten [s1, blk b 5 (bytesV ((bs.drop (8 * i)).take 8)), s2] ∧
    ∀ p : List UInt8, p.length = 8 → Pages pg (bs.take (8 * i) ++ p ++ bs.drop (8 * i + 8)) (List.flatten [s1, blk b 5 (bytesV p), s2])
  | [], _, _, h, i, hi, _, _ => by simp at hi
  | none :: ps, bs, s, h, i, hi, b, hb => by
    obtain ⟨bs', rfl, h⟩ := h
    cases i with
    | zero => simp at hb
    | succ i =>
      have e : ∀ k, List.drop (8 + k) (List.replicate 8 0 ++ bs') = bs'.drop k := fun k => by
        rw [show 8 + k = (List.replicate 8 (0 : UInt8)).length + k by simp, List.drop_append, List.drop_eq_nil_of_le (by simp)]; simp
      have e2 : List.take (8 + 8 * i) (List.replicate 8 0 ++ bs') = List.replicate 8 0 ++ bs'.take (8 * i) := by
        rw [List.take_append, List.take_of_length_le (by simp)]; simp
      obtain ⟨s1, s2, rfl, h2⟩ := h.put (i := i) (by simpa using hi) (by simpa using hb)
      refine ⟨s1, s2, by rw [show 8 * (i + 1) = 8 + 8 * i by omega, e], fun p hp => ⟨_, ?_, h2 p hp⟩⟩
      rw [show 8 * (i + 1) = 8 + 8 * i by omega, e2, show 8 + 8 * i + 8 = 8 + (8 * i + 8) by omega, e]; simp
  | some c :: ps, bs, s, h, i, hi, b, hb => by
    obtain ⟨q, bs', s', rfl, hq, rfl, h⟩ := h
    cases i with
    | zero =>
      simp at hb; subst hb
      refine ⟨[], s', by simp [List.take_append, hq, List.take_of_length_le (show q.length ≤ 8 by omega)], fun p hp => ⟨p, bs', s', ?_, hp, by simp, h⟩⟩
      simp [List.drop_append, hq, List.drop_eq_nil_of_le (show q.length ≤ 8 by omega)]
    | succ i =>
      have e : ∀ k, List.drop (8 + k) (q ++ bs') = bs'.drop k := fun k => by
        rw [← hq, List.drop_append, List.drop_eq_nil_of_le (by simp)]; simp
      have e2 : List.take (8 + 8 * i) (q ++ bs') = q ++ bs'.take (8 * i) := by
        rw [List.take_append, List.take_of_length_le (by omega)]; simp [hq]
      obtain ⟨s1, s2, rfl, h2⟩ := h.put (i := i) (by simpa using hi) (by simpa using hb)
      refine ⟨blk c 5 (bytesV q) ++ s1, s2, by rw [show 8 * (i + 1) = 8 + 8 * i by omega, e]; simp, fun p hp => ⟨q, _, _, ?_, hq, ?_, h2 p hp⟩⟩
      · rw [show 8 * (i + 1) = 8 + 8 * i by omega, e2, show 8 + 8 * i + 8 = 8 + (8 * i + 8) by omega, e]; simp
      · simp
/-- A page is made. -/
theorem Pages.made : ∀ {pg : List (Option Nat)} {bs : List UInt8} {s : Seg}, Pages pg bs s → ∀ {i : Nat} (hi : i < pg.length), pg[i] = none → ∀ (b : Nat), ∃ s1 s2, s = List.flatten [s1, s2] ∧
    Pages (pg.set i (some b)) bs (List.flatten [s1, blk b 5 (bytesV (List.replicate 8 0)), s2]) ∧ (pg.set i (some b)).countP Option.isSome = pg.countP Option.isSome + 1
  | [], _, _, h, i, hi, _, _ => by simp at hi
  | none :: ps, bs, s, h, i, hi, hn, b => by
    obtain ⟨bs', rfl, h⟩ := h
    cases i with
    | zero => exact ⟨[], s, by simp, ⟨List.replicate 8 0, bs', s, rfl, by simp, by simp, h⟩, by simp⟩
    | succ i =>
      obtain ⟨s1, s2, rfl, h2, h3⟩ := h.made (i := i) (by simpa using hi) (by simpa using hn) b
      exact ⟨s1, s2, rfl, ⟨bs', rfl, h2⟩, by simp [h3]⟩
  | some c :: ps, bs, s, h, i, hi, hn, b => by
    obtain ⟨q, bs', s', rfl, hq, rfl, h⟩ := h
    cases i with
    | zero => simp at hn
    | succ i =>
      obtain ⟨s1, s2, rfl, h2, h3⟩ := h.made (i := i) (by simpa using hi) (by simpa using hn) b
      exact ⟨blk c 5 (bytesV q) ++ s1, s2, by simp, ⟨q, bs', _, rfl, hq, by simp, h2⟩, by simp [h3]⟩
theorem bytesV_append (a b : List UInt8) : bytesV (a ++ b) = bytesV a ++ bytesV b := List.map_append ..
theorem bytesV_take (a : List UInt8) (k : Nat) : (bytesV a).take k = bytesV (a.take k) := (List.map_take ..).symm
theorem bytesV_drop' (a : List UInt8) (k : Nat) : (bytesV a).drop k = bytesV (a.drop k) := (List.map_drop ..).symm
theorem bytesV_len (a : List UInt8) : (bytesV a).length = a.length := List.length_map ..
theorem bytesV_one (a : List UInt8) : (bytesV a).all Value.oneCell' = true := by simp [bytesV, Value.oneCell']
theorem rd_len {m : Mem} {ea n : Nat} (h : ea + n ≤ m.bytes.length) : (rd m ea n).length = n := by simp [rd]; omega
theorem rd_succ {m : Mem} {ea j k : Nat} : rd m ea (j + k) = rd m ea j ++ rd m (ea + j) k := by
  simp only [rd]; rw [List.take_add, List.drop_drop]
/-- The page's part. -/
theorem rd_page {m : Mem} {ea k : Nat} (h : ea % 8 + k ≤ 8) : rd m ea k = (((m.bytes.drop (8 * (ea / 8))).take 8).drop (ea % 8)).take k := by
  simp only [rd]
  rw [List.drop_take, List.drop_drop, List.take_take]
  rw [show 8 * (ea / 8) + ea % 8 = ea by omega, show min k (8 - ea % 8) = k by omega]
/-- gather: the window behind j bytes. -/
def win (m : Mem) (B : List UInt8) (o ea j : Nat) : List UInt8 := B.take o ++ rd m ea j ++ B.drop (o + j)
theorem win_zero (m : Mem) (B : List UInt8) (o ea : Nat) : win m B o ea 0 = B := by simp [win, rd]
theorem win_nil {m : Mem} {B : List UInt8} {o ea n j k : Nat} (hz : (B.drop o).take n = List.replicate n 0) (hj : j + k ≤ n) (hB : o + n ≤ B.length) (h0 : rd m (ea + j) k = List.replicate k 0) :
    win m B o ea j = win m B o ea (j + k) := by
  simp only [win]
  rw [rd_succ, h0]
  have : B.drop (o + j) = List.replicate k 0 ++ B.drop (o + (j + k)) := by
    have h1 : B.drop (o + j) = (B.drop (o + j)).take k ++ (B.drop (o + j)).drop k := (List.take_append_drop ..).symm
    have h2 : (B.drop (o + j)).take k = List.replicate k 0 := by
      have h3 : ((B.drop o).take n).drop j = List.replicate (n - j) 0 := by rw [hz]; simp
      have h4 : (B.drop (o + j)).take k = (((B.drop o).take n).drop j).take k := by
        rw [List.drop_take, List.drop_drop, List.take_take, show min k (n - j) = k by omega]
      rw [h4, h3, List.take_replicate, show min k (n - j) = k by omega]
    rw [h2, List.drop_drop] at h1
    rw [h1, Nat.add_assoc]
  rw [this]; simp
theorem win_copy {m : Mem} {B : List UInt8} {o ea n j k : Nat} (hj : j + k ≤ n) (hB : o + n ≤ B.length) (hea : ea + n ≤ m.bytes.length) :
    bytesV (win m B o ea (j + k)) = (bytesV (win m B o ea j)).take (o + j) ++ (bytesV (rd m (ea + j) k)).take k ++ (bytesV (win m B o ea j)).drop (o + j + k) := by
  have l1 : (B.take o ++ rd m ea j).length = o + j := by rw [List.length_append, rd_len (by omega)]; simp; omega
  have l2 : (rd m (ea + j) k).length = k := rd_len (by omega)
  rw [bytesV_take, bytesV_take, bytesV_drop', ← bytesV_append, ← bytesV_append]
  congr 1
  simp only [win]
  rw [List.take_append_of_le_length (by omega), List.take_of_length_le (l := B.take o ++ rd m ea j) (by omega), List.take_of_length_le (l := rd m (ea + j) k) (by omega), List.drop_append, List.drop_eq_nil_of_le (as := B.take o ++ rd m ea j) (by omega), rd_succ, l1]
  simp; congr 1; omega
theorem win_len {m : Mem} {B : List UInt8} {o ea n j : Nat} (hj : j ≤ n) (hB : o + n ≤ B.length) (hea : ea + n ≤ m.bytes.length) : (win m B o ea j).length = B.length := by
  simp only [win, List.length_append, rd_len (show ea + j ≤ m.bytes.length by omega)]; simp; omega
/-- scatter: the memory behind j bytes. -/
theorem wr_succ {m : Mem} {ea j k : Nat} {l : List UInt8} (hj : j + k ≤ l.length) (hea : ea + l.length ≤ m.bytes.length) :
    wr m ea (l.take (j + k)) = wr (wr m ea (l.take j)) (ea + j) ((l.drop j).take k) := by
  have h1 : (l.take j).length = j := by simp; omega
  have h2 : (l.take (j + k)).length = j + k := by simp; omega
  have h3 : ((l.drop j).take k).length = k := by simp; omega
  have h4 : (m.bytes.take ea).length = ea := by simp; omega
  simp only [wr, h1, h2, h3]
  congr 1
  rw [List.take_append_of_le_length (by simp; omega), List.take_of_length_le (l := m.bytes.take ea ++ l.take j) (by simp; omega), List.drop_append, List.drop_eq_nil_of_le (as := m.bytes.take ea ++ l.take j) (by simp; omega)]
  simp only [List.length_append, h1, h4, List.nil_append, List.drop_drop, List.take_add, List.append_assoc]
  congr 4; omega
theorem wr_len {m : Mem} {ea : Nat} {l : List UInt8} (h : ea + l.length ≤ m.bytes.length) : (wr m ea l).bytes.length = m.bytes.length := by simp [wr]; omega
theorem wr_nil (m : Mem) (ea : Nat) : wr m ea [] = m := by simp [wr]
/-- A write within one page. -/
theorem wr_page {m : Mem} {ea : Nat} {l : List UInt8} (h : ea % 8 + l.length ≤ 8) (hea : 8 * (ea / 8) + 8 ≤ m.bytes.length) :
    (wr m ea l).bytes = m.bytes.take (8 * (ea / 8)) ++ (((m.bytes.drop (8 * (ea / 8))).take 8).take (ea % 8) ++ l ++ ((m.bytes.drop (8 * (ea / 8))).take 8).drop (ea % 8 + l.length)) ++ m.bytes.drop (8 * (ea / 8) + 8) := by
  simp only [wr]
  have e1 : m.bytes.take ea = m.bytes.take (8 * (ea / 8)) ++ ((m.bytes.drop (8 * (ea / 8))).take 8).take (ea % 8) := by
    rw [List.take_take, show min (ea % 8) 8 = ea % 8 by omega, ← List.take_add, show 8 * (ea / 8) + ea % 8 = ea by omega]
  have e2 : m.bytes.drop (ea + l.length) = ((m.bytes.drop (8 * (ea / 8))).take 8).drop (ea % 8 + l.length) ++ m.bytes.drop (8 * (ea / 8) + 8) := by
    have h1 := (List.take_append_drop 8 (m.bytes.drop (8 * (ea / 8)))).symm
    have h2 : m.bytes.drop (ea + l.length) = (m.bytes.drop (8 * (ea / 8))).drop (ea % 8 + l.length) := by rw [List.drop_drop]; congr 1; omega
    rw [h2]
    conv => lhs; rw [h1]
    rw [List.drop_append_of_le_length (by simp; omega), List.drop_drop]
  rw [e1, e2]; simp
end Go.Wl
