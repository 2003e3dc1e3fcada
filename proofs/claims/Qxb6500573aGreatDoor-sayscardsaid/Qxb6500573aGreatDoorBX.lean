/- Plain: sentences with an open number. -/
import Derived.Test.Qxb6500573aGreatDoorBW
set_option linter.unusedSimpArgs false
set_option linter.unusedVariables false
set_option linter.unusedSectionVars false
namespace Go.Wl
open Go Go.Sl Go.Proofs
set_option linter.unusedVariables false
/-- The number and the token -1 change places. -/
def sw (x a : Int) : Int := if a = -1 then x else if a = x then -1 else a
theorem sw_sw {x : Int} (a : Int) : sw x (sw x a) = a := by
  unfold sw
  by_cases h1 : a = -1
  · rw [if_pos h1]
    by_cases h2 : x = -1
    · rw [if_pos h2]; omega
    · rw [if_neg h2, if_pos rfl]; omega
  · rw [if_neg h1]
    by_cases h2 : a = x
    · rw [if_pos h2, if_pos rfl]; omega
    · rw [if_neg h2, if_neg h1, if_neg h2]
theorem sw_inj {x : Int} (a b : Int) (h : sw x a = sw x b) : a = b := by rw [← sw_sw (x := x) a, h, sw_sw]
theorem sw_fix {x a : Int} (h1 : a ≠ -1) (h2 : a ≠ x) : sw x a = a := by unfold sw; rw [if_neg h1, if_neg h2]
def nSw (x : Int) (d : Nd) : Nd := { d with n := if d.k = 15 then sw x d.n else d.n }
theorem nSw_map (x : Int) : NMap (sw x) (nSw x) := ⟨fun _ => rfl, fun _ => rfl, fun _ => rfl, fun _ => rfl, fun _ => rfl, fun _ => rfl, fun _ => rfl⟩
def litN (L : List Int) (d : Nd) : Bool := decide (d.k ≠ 15) || decide (d.n = -1) || L.contains d.n
def litV (L : List Int) (v : V) : Bool := decide (v.t ≠ 2) || decide (v.n = -1) || L.contains v.n
def newX (L : List Int) (x : Int) : Prop := ∀ c, c ∈ L → c ≠ x
theorem nPut_sw {L : List Int} {x : Int} (hx : newX L x) {d : Nd} (h : litN L d = true) : nPut x d = nSw x d := by
  unfold nPut nSw
  unfold litN at h
  by_cases hk : d.k = 15
  · rw [if_pos hk]
    by_cases hn : d.n = -1
    · rw [if_pos ⟨hk, hn⟩, hn]
      have : sw x (-1) = x := by unfold sw; rw [if_pos rfl]
      rw [this]
    · rw [if_neg (fun z => hn z.2)]
      have hc : d.n ∈ L := by
        rw [Bool.or_eq_true, Bool.or_eq_true] at h
        rcases h with (h | h) | h
        · exact absurd hk (of_decide_eq_true h)
        · exact absurd (of_decide_eq_true h) hn
        · exact List.contains_iff_mem.1 h
      rw [sw_fix hn (hx _ hc)]
  · rw [if_neg (fun z => hk z.1), if_neg hk]
theorem vPut_sw {L : List Int} {x : Int} (hx : newX L x) {v : V} (h : litV L v = true) : vMap (sw x) v = vPut x v := by
  unfold vMap vPut
  unfold litV at h
  by_cases ht : v.t = 2
  · rw [if_pos ht]
    by_cases hn : v.n = -1
    · rw [if_pos ⟨ht, hn⟩, hn]
      have : sw x (-1) = x := by unfold sw; rw [if_pos rfl]
      rw [this]
    · rw [if_neg (fun z => hn z.2)]
      have hc : v.n ∈ L := by
        rw [Bool.or_eq_true, Bool.or_eq_true] at h
        rcases h with (h | h) | h
        · exact absurd ht (of_decide_eq_true h)
        · exact absurd (of_decide_eq_true h) hn
        · exact List.contains_iff_mem.1 h
      rw [sw_fix hn (hx _ hc)]
  · rw [if_neg ht, if_neg (fun z => ht z.1)]
theorem sMap_sw {x : Int} (s : CS) : sMap (sw x) (sMap (sw x) s) = s := by
  have hv : ∀ v, vMap (sw x) (vMap (sw x) v) = v := fun v => by
    unfold vMap
    by_cases h : v.t = 2
    · rw [if_pos h, if_pos h, sw_sw]
    · rw [if_neg h, if_neg h]
  have hf : ∀ f, fMap (sw x) (fMap (sw x) f) = f := fun f => by
    have e1 : (f.consts.map (vMap (sw x))).map (vMap (sw x)) = f.consts := by
      rw [List.map_map]
      conv => rhs; rw [← List.map_id f.consts]
      exact List.map_congr_left fun v _ => hv v
    have e2 : (f.nums.map (fun p => (sw x p.1, p.2))).map (fun p => (sw x p.1, p.2)) = f.nums := by
      rw [List.map_map]
      conv => rhs; rw [← List.map_id f.nums]
      exact List.map_congr_left fun p _ => by
        show (sw x (sw x p.1), p.2) = p
        rw [sw_sw]
    show { f with consts := (f.consts.map (vMap (sw x))).map (vMap (sw x)), nums := (f.nums.map (fun p => (sw x p.1, p.2))).map (fun p => (sw x p.1, p.2)) } = f
    rw [e1, e2]
  show (⟨s.np, (s.fs.map (fMap (sw x))).map (fMap (sw x))⟩ : CS) = s
  have : (s.fs.map (fMap (sw x))).map (fMap (sw x)) = s.fs := by
    rw [List.map_map]
    conv => rhs; rw [← List.map_id s.fs]
    exact List.map_congr_left fun f _ => hf f
  rw [this]
theorem l13 {α : Type} {l : List α} (h : l.length = 13) : ∃ r0 r1 r2 r3 r4 r5 r6 r7 r8 r9 r10 r11 r12, l = [r0, r1, r2, r3, r4, r5, r6, r7, r8, r9, r10, r11, r12] := by
  match l, h with
  | [r0, r1, r2, r3, r4, r5, r6, r7, r8, r9, r10, r11, r12], _ => exact ⟨r0, r1, r2, r3, r4, r5, r6, r7, r8, r9, r10, r11, r12, rfl⟩
/-- The compiler, row by row. -/
def CompK (ns : List Nd) (root np : Int) (rows : List Rw) : Prop := ∀ (n : Int) (r0 r1 r2 r3 r4 r5 r6 r7 r8 r9 r10 r11 r12 : Fs), (compM 400 ns root ⟨n, [r0, r1, r2, r3, r4, r5, r6, r7, r8, r9, r10, r11, r12]⟩).map seeC = some (np, rows, 13)
theorem CompK.all {ns : List Nd} {root np : Int} {rows : List Rw} (h : CompK ns root np rows) (s : CS) (hs : s.fs.length = 13) : (compM 400 ns root s).map seeC = some (np, rows, 13) := by
  obtain ⟨n, fs⟩ := s
  obtain ⟨r0, r1, r2, r3, r4, r5, r6, r7, r8, r9, r10, r11, r12, rfl⟩ := l13 hs
  exact h n r0 r1 r2 r3 r4 r5 r6 r7 r8 r9 r10 r11 r12
theorem comp_open {ns : List Nd} {root np : Int} {rows : List Rw} {L : List Int} {x : Int} (h : CompK ns root np rows) (hx : newX L x) (h1 : x ≠ 4607182418800017408) (hn : ns.all (litN L) = true) (hr : rows.all (fun r => r.ks.all (litV L)) = true) (s : CS) (hs : s.fs.length = 13) :
    (compM 400 (ns.map (nPut x)) root s).map seeC = some (np, rows.map (rPut x), 13) := by
  have e1 : ns.map (nPut x) = ns.map (nSw x) := List.map_congr_left fun d hd => nPut_sw hx (List.all_eq_true.1 hn d hd)
  have h2 := compM_map (σ := sw x) sw_inj (sw_fix (by decide) (fun z => h1 z.symm)) (nSw_map x) 400 ns root (sMap (sw x) s)
  rw [sMap_sw] at h2
  rw [e1, h2]
  have h3 := h.all (sMap (sw x) s) (by show (s.fs.map _).length = 13; rw [List.length_map]; exact hs)
  cases hc : compM 400 ns root (sMap (sw x) s) with
  | none => rw [hc] at h3; cases h3
  | some s1 =>
    rw [hc] at h3
    injection h3 with h3
    injection h3 with a1 a2
    injection a2 with a2 a3
    show some (seeC (sMap (sw x) s1)) = _
    have a1' : s1.np = np := a1
    have a2' : (s1.fs.take s1.np.toNat).map rw = rows := a2
    have a3' : s1.fs.length = 13 := a3
    unfold seeC
    show some (s1.np, ((s1.fs.map (fMap (sw x))).take s1.np.toNat).map rw, (s1.fs.map (fMap (sw x))).length) = _
    rw [List.length_map, a3', ← List.map_take, List.map_map, a1']
    congr 3
    rw [← a2', a1', List.map_map]
    apply List.map_congr_left
    intro f hf
    show rw (fMap (sw x) f) = rPut x (rw f)
    have hk : f.consts.map (vMap (sw x)) = f.consts.map (vPut x) := by
      apply List.map_congr_left
      intro v hv
      have hfr : rw f ∈ rows := by rw [← a2', a1']; exact List.mem_map_of_mem hf
      exact vPut_sw hx (List.all_eq_true.1 (List.all_eq_true.1 hr _ hfr) v hv)
    unfold rw rPut fMap
    dsimp only
    rw [hk]
def okCB (v : V) : Bool := (decide (v.t = 2) && v.s.isEmpty && (decide (v.n = -1) || decide (0 ≤ v.n ∧ v.n < 9218868437227405312))) || (decide (v.t = 3) && decide (v.n = 0) && decide (v.s.length ≤ 40))
def okRB (f : Rw) : Bool := decide (0 ≤ f.np ∧ f.np ≤ 3 ∧ f.np ≤ f.ns ∧ f.ns ≤ 12) && decide (f.ups.length ≤ 255) && f.ups.all (fun d => decide ((0 ≤ d.1 ∧ d.1 ≤ 1) ∧ 0 ≤ d.2 ∧ d.2 < 256)) && decide (f.ks.length < 65536) && f.ks.all okCB && decide (f.code.length < 65536) && f.code.all (fun d => decide ((0 ≤ d.1 ∧ d.1 < 256) ∧ 0 ≤ d.2 ∧ d.2 < 65536))
theorem okC_put {x : Nat} (hx : x < 9218868437227405312) {v : V} (h : okCB v = true) : okC (vPut x v) := by
  unfold okCB at h
  rw [Bool.or_eq_true] at h
  rcases h with h | h
  · rw [Bool.and_eq_true, Bool.and_eq_true, Bool.or_eq_true] at h
    obtain ⟨⟨h1, h2⟩, h3⟩ := h
    have h1 := of_decide_eq_true h1
    have h2 : v.s = [] := List.isEmpty_iff.1 h2
    refine .inl ?_
    unfold vPut
    by_cases hn : v.n = -1
    · rw [if_pos ⟨h1, hn⟩]
      exact ⟨h1, h2, by dsimp only; omega, .inl (by dsimp only; rw [Int.toNat_natCast]; exact cmp_self hx)⟩
    · rw [if_neg (fun z => hn z.2)]
      rcases h3 with h3 | h3
      · exact absurd (of_decide_eq_true h3) hn
      · have h3 := of_decide_eq_true h3
        exact ⟨h1, h2, by omega, .inl (cmp_self (by omega))⟩
  · rw [Bool.and_eq_true, Bool.and_eq_true] at h
    obtain ⟨⟨h1, h2⟩, h3⟩ := h
    have h1 := of_decide_eq_true h1
    refine .inr ?_
    unfold vPut
    rw [if_neg (by omega)]
    exact ⟨h1, of_decide_eq_true h2, of_decide_eq_true h3⟩
theorem okR_put {x : Nat} (hx : x < 9218868437227405312) {f : Rw} (h : okRB f = true) : okR (rPut x f) := by
  unfold okRB at h
  simp only [Bool.and_eq_true] at h
  obtain ⟨⟨⟨⟨⟨⟨h1, h2⟩, h3⟩, h4⟩, h5⟩, h6⟩, h7⟩ := h
  refine ⟨of_decide_eq_true h1, of_decide_eq_true h2, fun d hd => of_decide_eq_true (List.all_eq_true.1 h3 d hd), ?_, ?_, of_decide_eq_true h6, fun d hd => of_decide_eq_true (List.all_eq_true.1 h7 d hd)⟩
  · show (f.ks.map (vPut x)).length < 65536
    rw [List.length_map]
    exact of_decide_eq_true h4
  · intro v hv
    have hv' : v ∈ f.ks.map (vPut x) := hv
    obtain ⟨u, hu, rfl⟩ := List.mem_map.1 hv'
    exact okC_put hx (List.all_eq_true.1 h5 u hu)
theorem layC_put (x : Int) (v : V) : (layC (vPut x v)).length = (layC v).length := by
  unfold vPut
  split
  · rename_i h
    unfold layC
    rw [if_pos h.1, if_pos h.1]
    simp
  · rfl
theorem layFn_put (x : Int) (f : Rw) : (layFnR (rPut x f)).length = (layFnR f).length := by
  unfold layFnR rPut
  dsimp only
  have e : ((f.ks.map (vPut x)).flatMap layC).length = (f.ks.flatMap layC).length := by
    rw [List.flatMap_map, List.length_flatMap, List.length_flatMap]
    congr 1
    apply List.map_congr_left
    intro v _
    exact layC_put x v
  simp only [List.length_append, e, List.length_map]
theorem Rows.put {np : Int} {rows : List Rw} {x : Nat} (hx : x < 9218868437227405312) (h1 : 1 ≤ np ∧ np ≤ 13) (h2 : (rows.length : Int) = np) (h3 : rows.all okRB = true) (h4 : okPg (pgR (rows.map (rPut x))) = true) (h5 : (rows.flatMap layFnR).length + 1 ≤ 32768) : Rows np (rows.map (rPut x)) := by
  refine ⟨h1, by rw [List.length_map]; exact h2, fun r hr => ?_, h4, ?_⟩
  · obtain ⟨f, hf, rfl⟩ := List.mem_map.1 hr
    exact okR_put hx (List.all_eq_true.1 h3 f hf)
  · have e : ((rows.map (rPut x)).flatMap layFnR).length = (rows.flatMap layFnR).length := by
      rw [List.flatMap_map, List.length_flatMap, List.length_flatMap]
      congr 1
      apply List.map_congr_left
      intro f _
      exact layFn_put x f
    rw [e]; exact h5
/-- Steps of a scan, from its end. -/
theorem num_step {t q : List UInt8} {x : Nat} (ht : NumT t) (hl : t.length ≤ 22) (hq : stopQ q) (hx : parseM t = some (x, 0)) {n b pos : Nat} {toks r : List Tok} (hk : toks.length < 100000) (h : scanS n q (pos + t.length) 0 (toks ++ [⟨3, pos, [], (x : Nat), 0⟩]) = some r) (hb : n + 22 ≤ b) : scanS b (t ++ q) pos 0 toks = some r := by
  have h1 := scan_num ht hq hx n pos toks hk
  rw [h] at h1
  have h2 := scanS_mono _ h1 (b - (n + t.length))
  rwa [show n + t.length + (b - (n + t.length)) = b from by omega] at h2
theorem pre_step {p w : List UInt8} {a b pos pos' : Nat} {toks toks' r : List Tok} (h : scanW w a p pos 0 toks = some (b, pos', 0, toks')) (h2 : scanS b w pos' 0 toks' = some r) : scanS a (p ++ w) pos 0 toks = some r := by
  rw [scanW_ok w a p pos 0 toks b pos' 0 toks' h]; exact h2
theorem minus_step {w : List UInt8} {n pos : Nat} {toks r : List Tok} (hw : w.take 1 ≠ [45]) (hk : toks.length ≤ 100000) (h : scanS n w (pos + 1) 0 (toks ++ [⟨32, pos, [], 0, 0⟩]) = some r) : scanS (n + 1) (45 :: w) pos 0 toks = some r := by
  have hlex : lexS (45 :: w) pos 45 = some (.tok 1 ⟨32, pos, [], 0, 13⟩) := by
    unfold lexS
    rw [if_neg (by decide), if_neg (by rintro ⟨_, z⟩; exact hw z), if_neg (by decide), if_neg (by decide), if_neg (by decide)]
    rfl
  show (if 100000 < toks.length then none else if 0 < 0 then _ else match lexS (45 :: w) pos 45 with
      | none => none
      | some (.skip e) => scanS n w (pos + 1) (e - 1) toks
      | some (.tok e t) => if t.kind = 1 then some (toks ++ [t]) else scanS n w (pos + 1) (e - 1) (toks ++ [{ t with err := 0 }])) = _
  rw [if_neg (by omega), if_neg (by omega), hlex]
  dsimp only
  rw [if_neg (by decide)]
  exact h
theorem ascii_app {a b : List UInt8} (ha : ascii a) (hb : ascii b) : ascii (a ++ b) := fun c hc => (List.mem_append.1 hc).elim (ha c) (hb c)
theorem num_ascii {t : List UInt8} (ht : NumT t) : ascii t := by
  have hd : ∀ {a : List UInt8}, dgL a → ascii a := fun h c hc => by have := digit_rng (h.2 c hc); omega
  cases ht with
  | int ha => exact hd ha
  | pos ha hb => exact ascii_app (hd ha) (fun c hc => (List.mem_cons.1 hc).elim (fun e => by subst e; decide) (hd hb c))
  | neg ha hb => exact ascii_app (hd ha) (fun c hc => (List.mem_cons.1 hc).elim (fun e => by subst e; decide) fun hc => (List.mem_cons.1 hc).elim (fun e => by subst e; decide) (hd hb c))
def asciiB (l : List UInt8) : Bool := l.all fun c => decide (c.toNat < 128)
theorem ascii_of {l : List UInt8} (h : asciiB l = true) : ascii l := fun c hc => of_decide_eq_true (List.all_eq_true.1 h c hc)
/-- The whole parse, by the scan's suffixes. -/
theorem parse_of {src : List UInt8} {r : List Tok} {ns : List Nd} {root : Int} (ha : ascii src) (hs : scanS 400 src 0 0 [] = some r) (nodes0 : List Nd) (hp : bind1 (parT 400 src nodes0 r) erP = some (ns, root)) : bind1 (bind1 (scanL 400 src 0 0 []) (parT 400 src nodes0)) erP = some (ns, root) := by
  have h := scan_drop ha 400 0 0 [] (Nat.zero_le _)
  rw [h, List.drop_zero, hs]
  exact hp
end Go.Wl
