/- Plain: what the compiler lays the machine reads. -/
import Derived.Test.Qxb6500573aGreatDoorBM
namespace Go.Wl
open Go Go.Sl Go.Proofs
set_option linter.unusedVariables false
/-- The reader stands ahead of these bytes. -/
structure At (r : Rd) (w : List UInt8) : Prop where
  bad : r.bad = false
  le : r.i ≤ r.l.length
  w : r.l.drop r.i = w
theorem At.len {r : Rd} {w : List UInt8} (h : At r w) : r.l.length = r.i + w.length := by
  have := congrArg List.length h.w
  rw [List.length_drop] at this
  have := h.le
  omega
theorem At.nx {r : Rd} {a w : List UInt8} (h : At r (a ++ w)) {n : Nat} (hn : a.length = n) : ∃ r', Go.Wl.nx r n = some r' ∧ At r' w := by
  have hl := h.len
  rw [List.length_append] at hl
  have e : tkR r n = { r with i := r.i + n } := by
    unfold tkR
    rw [if_neg (by rw [h.bad]; decide), if_pos (by unfold tkOk; omega)]
  refine ⟨{ r with i := r.i + n }, ?_, ⟨h.bad, by dsimp only; omega, ?_⟩⟩
  · unfold Go.Wl.nx
    rw [e, if_neg (by dsimp only; rw [h.bad]; decide)]
  · dsimp only
    rw [← List.drop_drop, h.w, ← hn, List.drop_left]
theorem At.by {r : Rd} {w : List UInt8} (h : At r w) (j : Nat) : byA r j = (w.getD j 0).toNat := by
  unfold byA
  rw [← h.w, List.getD_eq_getElem?_getD, List.getD_eq_getElem?_getD, List.getElem?_drop]
def leL : List UInt8 → Nat
  | [] => 0
  | c :: l => c.toNat + 256 * leL l
theorem leN_leL : ∀ (k : Nat) (l : List UInt8) (i : Nat), i + k ≤ l.length → leN l i k = leL ((l.drop i).take k)
  | 0, l, i, _ => by simp [leN, leL]
  | k + 1, l, i, h => by
    rw [List.drop_eq_getElem_cons (by omega), List.take_succ_cons]
    unfold leN leL
    rw [leN_leL k l (i + 1) (by omega), List.getD_eq_getElem?_getD, List.getElem?_eq_getElem (by omega)]
    rfl
theorem u8_eq (n : Int) : u8 n = n % 256 := by unfold u8; simp [IntKind.wrap, IntKind.bits, IntKind.signed]
theorem toB_nat {n : Int} (h : 0 ≤ n ∧ n < 256) : (toB n).toNat = n.toNat := by
  unfold toB
  rw [UInt8.toNat_ofNat']
  omega
theorem numB_eq (n : Nat) {i : Nat} (hi : i < 8) : numB (n : Int) i = ((n / 256 ^ i % 256 : Nat) : Int) := by
  unfold numB shrK
  rw [u8_eq]
  have e1 : (8 * (i : Int)).toNat = 8 * i := by omega
  have e2 : min (8 * i) IntKind.u64.bits = 8 * i := by
    have : IntKind.u64.bits = 64 := rfl
    omega
  rw [e1, e2]
  have e3 : (2 : Int) ^ (8 * i) = ((256 ^ i : Nat) : Int) := by
    rw [Int.pow_mul, Int.natCast_pow]
    rfl
  have e4 : ((n : Int)).fdiv ((256 ^ i : Nat) : Int) = ((n / 256 ^ i : Nat) : Int) := by
    rw [Int.fdiv_eq_ediv_of_nonneg _ (Int.natCast_nonneg _)]
    rfl
  rw [e3, e4]
  omega
theorem le_bytes : ∀ (k n : Nat), leL ((List.range k).map fun i => toB ((n / 256 ^ i % 256 : Nat) : Int)) = n % 256 ^ k
  | 0, n => by simp [leL, Nat.mod_one]
  | k + 1, n => by
    rw [List.range_succ_eq_map, List.map_cons, List.map_map]
    unfold leL
    have e : ((fun i => toB ((n / 256 ^ i % 256 : Nat) : Int)) ∘ Nat.succ) = fun i => toB (((n / 256) / 256 ^ i % 256 : Nat) : Int) := by
      funext i
      show toB ((n / 256 ^ (i + 1) % 256 : Nat) : Int) = _
      rw [Nat.pow_succ', ← Nat.div_div_eq_div_mul]
    rw [e, le_bytes k (n / 256), toB_nat (by omega)]
    rw [Nat.pow_zero, Nat.div_one, Nat.pow_succ']
    have := Nat.mod_mul (x := n) (a := 256) (b := 256 ^ k)
    rw [this]
    omega
/-- A constant that the machine takes. -/
def okC (v : V) : Prop := (v.t = 2 ∧ v.s = [] ∧ (0 ≤ v.n ∧ v.n < 18446744073709551616) ∧ (cmpM 2 v.n.toNat v.n.toNat = false ∨ v.n = 9221120237041090561)) ∨ (v.t = 3 ∧ v.n = 0 ∧ v.s.length ≤ 40)
theorem kon_lay {v : V} (hv : okC v) {r : Rd} {w : List UInt8} (h : At r ((layC v).map toB ++ w)) : ∃ r', konM r = some (v, r') ∧ At r' w := by
  obtain ⟨t, n, s⟩ := v
  rcases hv with ⟨h1, h2, h3, h4⟩ | ⟨h1, h2, h3⟩
  · dsimp only at h1 h2 h3 h4
    subst h1 h2
    obtain ⟨n, rfl⟩ : ∃ m : Nat, n = m := ⟨n.toNat, by omega⟩
    have e : (layC ⟨2, (n : Int), []⟩).map toB = [toB 1] ++ (List.range 8).map fun i => toB ((n / 256 ^ i % 256 : Nat) : Int) := by
      unfold layC
      rw [if_pos rfl, List.map_cons, List.map_map]
      show _ :: _ = _ :: _
      congr 1
      apply List.map_congr_left
      intro i hi
      have := List.mem_range.1 hi
      show toB (numB (n : Int) i) = _
      rw [numB_eq n this]
    rw [e, List.append_assoc] at h
    have hb := h.by 0
    obtain ⟨r1, hn1, h5⟩ := h.nx (n := 1) rfl
    have hl1 := h5.len
    have hw1 := h5.w
    obtain ⟨r2, hn2, h6⟩ := h5.nx (n := 8) (by simp)
    refine ⟨r2, ?_, h6⟩
    unfold konM
    rw [hn1]
    dsimp only [bind1]
    rw [if_pos (by rw [hb]; rfl), hn2]
    dsimp only [bind1]
    have hrl := (nx_some hn1).2.2.2.2
    have hle : leN r.l r1.i 8 = n := by
      have hrl' : r1.l = r.l := by rw [hrl]
      rw [leN_leL 8 r.l r1.i (by rw [← hrl', hl1]; simp), ← hrl', hw1, List.take_left' (by simp), le_bytes, Nat.mod_eq_of_lt (by omega)]
    rw [hle, if_neg (by rintro ⟨z1, z2⟩; rcases h4 with h4 | h4
                        · rw [Int.toNat_natCast, z1] at h4; cases h4
                        · omega)]
  · dsimp only at h1 h2 h3
    subst h1 h2
    have e : (layC ⟨3, 0, s⟩).map toB = [toB 2] ++ ([toB (u8 s.length)] ++ s) := by
      unfold layC
      rw [if_neg (by show ¬ ((3 : Int) = 2); decide), List.map_cons, List.map_cons, List.map_map]
      show toB 2 :: toB (u8 s.length) :: _ = toB 2 :: toB (u8 s.length) :: s
      congr 2
      show s.map _ = s
      have : (toB ∘ fun c : UInt8 => (c.toNat : Int)) = id := by
        funext c
        show UInt8.ofNat ((c.toNat : Int).toNat) = c
        rw [Int.toNat_natCast]
        simp
      rw [this, List.map_id]
    rw [e, List.append_assoc, List.append_assoc] at h
    have hb := h.by 0
    obtain ⟨r1, hn1, h5⟩ := h.nx (n := 1) rfl
    have hb1 := h5.by 0
    have hbn : byA r1 0 = s.length := by
      rw [hb1]
      show (toB (u8 s.length)).toNat = _
      rw [u8_eq, toB_nat (by omega)]
      omega
    obtain ⟨r2, hn2, h6⟩ := h5.nx (n := 1) rfl
    have hw2 := h6.w
    obtain ⟨r3, hn3, h7⟩ := h6.nx (n := s.length) rfl
    refine ⟨r3, ?_, h7⟩
    unfold konM
    rw [hn1]
    dsimp only [bind1]
    rw [if_neg (by rw [hb]; show ¬ ((toB 2).toNat = 1); decide), if_pos (by rw [hb]; rfl), hn2]
    dsimp only [bind1]
    rw [hbn, if_pos h3, hn3]
    dsimp only [bind1]
    have hrl : r2.l = r.l := by rw [(nx_some hn2).2.2.2.2, (nx_some hn1).2.2.2.2]
    rw [← hrl, hw2, List.take_left' rfl]
theorem konL_lay : ∀ (vs : List V) {r : Rd} {w : List UInt8} (l : List V), (∀ v, v ∈ vs → okC v) → l.length + vs.length < 1000000 → At r ((vs.flatMap layC).map toB ++ w) → ∃ r', konL vs.length r l = some (l ++ vs, r') ∧ At r' w
  | [], r, w, l, _, _, h => ⟨r, by simp [konL], h⟩
  | v :: vs, r, w, l, hv, hl, h => by
    rw [List.flatMap_cons, List.map_append, List.append_assoc] at h
    obtain ⟨r1, h1, h2⟩ := kon_lay (hv v List.mem_cons_self) h
    simp only [List.length_cons] at hl
    obtain ⟨r2, h3, h4⟩ := konL_lay vs (l ++ [v]) (fun u hu => hv u (List.mem_cons_of_mem _ hu)) (by simp; omega) h2
    refine ⟨r2, ?_, h4⟩
    show (if l.length < 1000000 then bind2 (konM r) fun v r1 => konL vs.length r1 (l ++ [v]) else none) = _
    rw [if_pos (by omega), h1]
    dsimp only [bind2]
    rw [h3]
    simp
theorem dscL_lay : ∀ (ds : List (Int × Int)) {r : Rd} {w : List UInt8} (l : List (Int × Int)), (∀ d, d ∈ ds → (0 ≤ d.1 ∧ d.1 ≤ 1) ∧ 0 ≤ d.2 ∧ d.2 < 256) → l.length + ds.length < 1000000 → At r ((ds.flatMap layU).map toB ++ w) → ∃ r', dscL ds.length r l = some (l ++ ds, r') ∧ At r' w
  | [], r, w, l, _, _, h => ⟨r, by simp [dscL], h⟩
  | d :: ds, r, w, l, hv, hl, h => by
    rw [List.flatMap_cons, List.map_append, List.append_assoc] at h
    have h0 := hv d List.mem_cons_self
    have b0 : byA r 0 = d.1.toNat := by rw [h.by 0]; exact toB_nat (by omega)
    have b1 : byA r 1 = d.2.toNat := by rw [h.by 1]; exact toB_nat (by omega)
    obtain ⟨r1, h1, h2⟩ := h.nx (n := 2) rfl
    simp only [List.length_cons] at hl
    obtain ⟨r2, h3, h4⟩ := dscL_lay ds (l ++ [d]) (fun u hu => hv u (List.mem_cons_of_mem _ hu)) (by simp; omega) h2
    refine ⟨r2, ?_, h4⟩
    show (if l.length < 1000000 then bind1 (Go.Wl.nx r 2) fun r1 => if byA r 0 ≤ 1 then dscL ds.length r1 (l ++ [(((byA r 0 : Nat) : Int), ((byA r 1 : Nat) : Int))]) else none else none) = _
    rw [if_pos (by omega), h1]
    dsimp only [bind1]
    have e : (((byA r 0 : Nat) : Int), ((byA r 1 : Nat) : Int)) = d := by
      obtain ⟨d1, d2⟩ := d
      dsimp only at b0 b1 h0
      rw [b0, b1, Int.toNat_of_nonneg h0.1.1, Int.toNat_of_nonneg h0.2.1]
    rw [if_pos (by rw [b0]; omega), e, h3]
    simp
theorem insL_lay : ∀ (ds : List In) {r : Rd} {w : List UInt8} (l : List In), (∀ d, d ∈ ds → (0 ≤ d.1 ∧ d.1 < 256) ∧ 0 ≤ d.2 ∧ d.2 < 65536) → l.length + ds.length < 1000000 → At r ((ds.flatMap layI).map toB ++ w) → ∃ r', insL ds.length r l = some (l ++ ds, r') ∧ At r' w
  | [], r, w, l, _, _, h => ⟨r, by simp [insL], h⟩
  | d :: ds, r, w, l, hv, hl, h => by
    rw [List.flatMap_cons, List.map_append, List.append_assoc] at h
    have h0 := hv d List.mem_cons_self
    have b0 : byA r 0 = d.1.toNat := by rw [h.by 0]; exact toB_nat (by omega)
    have b1 : byA r 1 = (d.2 % 256).toNat := by rw [h.by 1, ← u8_eq]; exact toB_nat (by rw [u8_eq]; omega)
    have b2 : byA r 2 = (d.2 / 256).toNat := by
      have e : u8 (shrK .u16 d.2 8) = d.2 / 256 := by
        rw [u8_eq]
        unfold shrK
        have : (2 : Int) ^ (min (8 : Int).toNat IntKind.u16.bits) = 256 := by decide
        rw [this, Int.fdiv_eq_ediv_of_nonneg _ (by decide)]
        omega
      rw [h.by 2]
      show (toB (u8 (shrK .u16 d.2 8))).toNat = _
      rw [e]
      exact toB_nat (by omega)
    obtain ⟨r1, h1, h2⟩ := h.nx (n := 3) rfl
    simp only [List.length_cons] at hl
    obtain ⟨r2, h3, h4⟩ := insL_lay ds (l ++ [d]) (fun u hu => hv u (List.mem_cons_of_mem _ hu)) (by simp; omega) h2
    refine ⟨r2, ?_, h4⟩
    show (if l.length < 1000000 then bind1 (Go.Wl.nx r 3) fun r1 => insL ds.length r1 (l ++ [(((byA r 0 : Nat) : Int), ((byA r 1 + 256 * byA r 2 : Nat) : Int))]) else none) = _
    rw [if_pos (by omega), h1]
    dsimp only [bind1]
    have e : (((byA r 0 : Nat) : Int), ((byA r 1 + 256 * byA r 2 : Nat) : Int)) = d := by
      obtain ⟨d1, d2⟩ := d
      dsimp only at b0 b1 b2 h0
      rw [b0, b1, b2, Int.toNat_of_nonneg h0.1.1]
      congr 1
      omega
    rw [e, h3]
    simp
structure okF (f : Fs) : Prop where
  np : 0 ≤ f.nparams ∧ f.nparams ≤ 3 ∧ f.nparams ≤ f.nslots ∧ f.nslots ≤ 12
  ul : f.ups.length ≤ 255
  us : ∀ d, d ∈ f.ups → (0 ≤ d.1 ∧ d.1 ≤ 1) ∧ 0 ≤ d.2 ∧ d.2 < 256
  kl : f.consts.length < 65536
  ks : ∀ v, v ∈ f.consts → okC v
  cl : f.code.length < 65536
  cs : ∀ d, d ∈ f.code → (0 ≤ d.1 ∧ d.1 < 256) ∧ 0 ≤ d.2 ∧ d.2 < 65536
def pgAdd (g : Pg) (f : Fs) : Pg := ⟨g.protos ++ [⟨f.nparams, f.nslots, g.descs.length, f.ups.length, g.consts.length, f.consts.length, g.code.length, f.code.length⟩], g.descs ++ f.ups, g.consts ++ f.consts, g.code ++ f.code⟩
def pgSm (g : Pg) (k : Nat) : Prop := g.protos.length ≤ k ∧ g.descs.length ≤ k * 255 ∧ g.consts.length ≤ k * 65535 ∧ g.code.length ≤ k * 65535
theorem pgSm.add {g : Pg} {f : Fs} {k : Nat} (h : pgSm g k) (hf : okF f) : pgSm (pgAdd g f) (k + 1) := by
  obtain ⟨h1, h2, h3, h4⟩ := h
  have a1 := hf.ul
  have a2 := hf.kl
  have a3 := hf.cl
  unfold pgSm pgAdd
  simp only [List.length_append, List.length_cons, List.length_nil]
  omega
theorem p16_by {n : Nat} (hn : n < 65536) {r : Rd} {w : List UInt8} (h : At r ((p16 (n : Int)).map toB ++ w)) : w16 r = n ∧ ∃ r', Go.Wl.nx r 2 = some r' ∧ At r' w := by
  have b0 : byA r 0 = n % 256 := by
    rw [h.by 0]
    show (toB (u8 (n : Int))).toNat = _
    rw [u8_eq, toB_nat (by omega)]
    omega
  have b1 : byA r 1 = n / 256 := by
    have e : u8 (shrK .i64 (n : Int) 8) = ((n / 256 : Nat) : Int) := by
      rw [u8_eq]
      unfold shrK
      have : (2 : Int) ^ (min (8 : Int).toNat IntKind.i64.bits) = 256 := by decide
      rw [this, Int.fdiv_eq_ediv_of_nonneg _ (by decide)]
      omega
    rw [h.by 1]
    show (toB (u8 (shrK .i64 (n : Int) 8))).toNat = _
    rw [e, toB_nat (by omega)]
    omega
  refine ⟨by unfold w16; rw [b0, b1]; omega, h.nx rfl⟩
theorem prt_lay {f : Fs} (hf : okF f) {g : Pg} {k : Nat} (hg : pgSm g k) (hk : k < 15) {r : Rd} {w : List UInt8} (h : At r ((layFn f).map toB ++ w)) : ∃ r', prtM r g = some (pgAdd g f, r') ∧ At r' w := by
  obtain ⟨g1, g2, g3, g4⟩ := hg
  obtain ⟨a1, a2, a3, a4, a5, a6, a7⟩ := hf
  unfold layFn at h
  simp only [List.map_append, List.append_assoc] at h
  have b0 : byA r 0 = f.nparams.toNat := by
    rw [h.by 0]
    show (toB (u8 f.nparams)).toNat = _
    rw [u8_eq, toB_nat (by omega)]
    omega
  have b1 : byA r 1 = f.nslots.toNat := by
    rw [h.by 1]
    show (toB (u8 f.nslots)).toNat = _
    rw [u8_eq, toB_nat (by omega)]
    omega
  have b2 : byA r 2 = f.ups.length := by
    rw [h.by 2]
    show (toB (u8 f.ups.length)).toNat = _
    rw [u8_eq, toB_nat (by omega)]
    omega
  obtain ⟨r1, n1, h1⟩ := h.nx (n := 3) rfl
  obtain ⟨r2, n2, h2⟩ := dscL_lay f.ups g.descs a3 (by omega) h1
  obtain ⟨w2, r3, n3, h3⟩ := p16_by a4 h2
  obtain ⟨r4, n4, h4⟩ := konL_lay f.consts g.consts a5 (by omega) h3
  obtain ⟨w4, r5, n5, h5⟩ := p16_by a6 h4
  obtain ⟨r6, n6, h6⟩ := insL_lay f.code g.code a7 (by omega) h5
  refine ⟨r6, ?_, h6⟩
  unfold prtM
  rw [n1]
  dsimp only [bind1]
  rw [if_pos (by rw [b0, b1]; omega), b2, n2]
  dsimp only [bind2]
  rw [n3]
  dsimp only [bind1]
  rw [w2, n4]
  dsimp only [bind2]
  rw [n5]
  dsimp only [bind1]
  rw [w4, n6]
  dsimp only [bind2]
  rw [if_pos (by omega), b0, b1, Int.toNat_of_nonneg a1.1, Int.toNat_of_nonneg (by omega)]
  rfl
theorem prtL_lay : ∀ (fs : List Fs) {g : Pg} {k : Nat} {r : Rd} {w : List UInt8}, (∀ f, f ∈ fs → okF f) → pgSm g k → k + fs.length < 15 → At r ((fs.flatMap layFn).map toB ++ w) → ∃ r', prtL fs.length r g = some (fs.foldl pgAdd g, r') ∧ At r' w
  | [], g, k, r, w, _, _, _, h => ⟨r, rfl, h⟩
  | f :: fs, g, k, r, w, hf, hg, hk, h => by
    rw [List.flatMap_cons, List.map_append, List.append_assoc] at h
    simp only [List.length_cons] at hk
    obtain ⟨r1, h1, h2⟩ := prt_lay (hf f List.mem_cons_self) hg (by omega) h
    obtain ⟨r2, h3, h4⟩ := prtL_lay fs (fun u hu => hf u (List.mem_cons_of_mem _ hu)) (hg.add (hf f List.mem_cons_self)) (by omega) h2
    refine ⟨r2, ?_, h4⟩
    show bind2 (prtM r g) (fun g1 r1 => prtL fs.length r1 g1) = _
    rw [h1]
    dsimp only [bind2]
    exact h3
def pgOf (l : List Fs) : Pg := l.foldl pgAdd ⟨[], [], [], []⟩
theorem konM_l {r r' : Rd} {v : V} (h : konM r = some (v, r')) : r'.l = r.l := by
  unfold konM at h
  obtain ⟨r1, h1, h⟩ := bnd1 h
  have e1 : r1.l = r.l := by rw [(nx_some h1).2.2.2.2]
  split at h
  · obtain ⟨r2, h2, h⟩ := bnd1 h
    split at h
    · cases h
    · injection h with h
      injection h with _ h
      subst h
      rw [(nx_some h2).2.2.2.2, e1]
  · split at h
    · obtain ⟨r2, h2, h⟩ := bnd1 h
      split at h
      · obtain ⟨r3, h3, h⟩ := bnd1 h
        injection h with h
        injection h with _ h
        subst h
        rw [(nx_some h3).2.2.2.2, (nx_some h2).2.2.2.2, e1]
      · cases h
    · cases h
theorem dscL_l : ∀ (n : Nat) {r r' : Rd} {l l' : List (Int × Int)}, dscL n r l = some (l', r') → r'.l = r.l
  | 0, r, r', l, l', h => by
    unfold dscL at h
    injection h with h
    injection h with _ h
    rw [h]
  | n + 1, r, r', l, l', h => by
    unfold dscL at h
    split at h
    · obtain ⟨r1, h1, h⟩ := bnd1 h
      split at h
      · rw [dscL_l n h, (nx_some h1).2.2.2.2]
      · cases h
    · cases h
theorem konL_l : ∀ (n : Nat) {r r' : Rd} {l l' : List V}, konL n r l = some (l', r') → r'.l = r.l
  | 0, r, r', l, l', h => by
    unfold konL at h
    injection h with h
    injection h with _ h
    rw [h]
  | n + 1, r, r', l, l', h => by
    unfold konL at h
    split at h
    · obtain ⟨v, r1, h1, h⟩ := bnd2 h
      rw [konL_l n h, konM_l h1]
    · cases h
theorem insL_l : ∀ (n : Nat) {r r' : Rd} {l l' : List In}, insL n r l = some (l', r') → r'.l = r.l
  | 0, r, r', l, l', h => by
    unfold insL at h
    injection h with h
    injection h with _ h
    rw [h]
  | n + 1, r, r', l, l', h => by
    unfold insL at h
    split at h
    · obtain ⟨r1, h1, h⟩ := bnd1 h
      rw [insL_l n h, (nx_some h1).2.2.2.2]
    · cases h
theorem prtM_l {r r' : Rd} {g g' : Pg} (h : prtM r g = some (g', r')) : r'.l = r.l := by
  unfold prtM at h
  obtain ⟨r1, h1, h⟩ := bnd1 h
  split at h
  · obtain ⟨ds, r2, h2, h⟩ := bnd2 h
    obtain ⟨r3, h3, h⟩ := bnd1 h
    obtain ⟨ks, r4, h4, h⟩ := bnd2 h
    obtain ⟨r5, h5, h⟩ := bnd1 h
    obtain ⟨cs, r6, h6, h⟩ := bnd2 h
    split at h
    · injection h with h
      injection h with _ h
      subst h
      rw [insL_l _ h6, (nx_some h5).2.2.2.2]
      show r4.l = r.l
      rw [konL_l _ h4, (nx_some h3).2.2.2.2]
      show r2.l = r.l
      rw [dscL_l _ h2, (nx_some h1).2.2.2.2]
    · cases h
  · cases h
theorem prtL_l : ∀ (n : Nat) {r r' : Rd} {g g' : Pg}, prtL n r g = some (g', r') → r'.l = r.l ∧ True
  | 0, r, r', g, g', h => by
    unfold prtL at h
    injection h with h
    injection h with _ h
    exact ⟨by rw [h], trivial⟩
  | n + 1, r, r', g, g', h => by
    unfold prtL at h
    obtain ⟨g1, r1, h1, h⟩ := bnd2 h
    exact ⟨by rw [(prtL_l n h).1, prtM_l h1], trivial⟩
/-- What is laid is read. -/
theorem dec_lay {s : CS} (hn : 1 ≤ s.np ∧ s.np ≤ 13) (hl : s.np ≤ s.fs.length) (hf : ∀ f, f ∈ s.fs.take s.np.toNat → okF f) (h0 : okPg (pgOf (s.fs.take s.np.toNat)) = true) (hz : (layM s).length ≤ 1000000) : decM ((layM s).map toB) ⟨[], [], [], []⟩ = some (pgOf (s.fs.take s.np.toNat)) := by
  have hA : At ⟨(layM s).map toB, 0, false⟩ ([toB (u8 s.np)] ++ (((s.fs.take s.np.toNat).flatMap layFn).map toB ++ [])) := ⟨rfl, Nat.zero_le _, by
    show (layM s).map toB = _
    unfold layM
    simp⟩
  have b0 : byA ⟨(layM s).map toB, 0, false⟩ 0 = s.np.toNat := by
    rw [hA.by 0]
    show (toB (u8 s.np)).toNat = _
    rw [u8_eq, toB_nat (by omega)]
    omega
  obtain ⟨r1, n1, h1⟩ := hA.nx (n := 1) rfl
  have hlen : (s.fs.take s.np.toNat).length = s.np.toNat := by rw [List.length_take]; omega
  obtain ⟨r2, n2, h2⟩ := prtL_lay (s.fs.take s.np.toNat) (g := ⟨[], [], [], []⟩) (k := 0) hf (by unfold pgSm; simp) (by rw [hlen]; omega) h1
  unfold decM
  rw [if_pos (by rw [List.length_map]; exact hz), n1]
  dsimp only [bind1]
  rw [b0, if_pos (by omega)]
  rw [hlen] at n2
  rw [n2]
  dsimp only [bind2]
  have hr2 : r2.i = ((layM s).map toB).length := by
    have h3 := h2.len
    simp only [List.length_nil, Nat.add_zero] at h3
    rw [← h3]
    have : r2.l = (layM s).map toB := by
      obtain ⟨k1, k2⟩ := prtL_l _ n2
      rw [k1, (nx_some n1).2.2.2.2]
    rw [this]
  rw [if_pos ⟨hr2, h0⟩]
  rfl
end Go.Wl
