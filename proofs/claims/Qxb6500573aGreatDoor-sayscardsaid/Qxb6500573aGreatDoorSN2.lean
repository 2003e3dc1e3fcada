/- Plain: sentences (made by program). -/
import Derived.Test.Qxb6500573aGreatDoorBY
set_option linter.unusedSimpArgs false
set_option linter.unusedVariables false
set_option linter.unusedSectionVars false
namespace Go.Wl
open Go Go.Sl Go.Proofs
set_option linter.unusedVariables false
set_option linter.unusedSimpArgs false
set_option maxRecDepth 100000
def ns3 : List Nd := [⟨0, 0, 0, 0, 0, 0, [], 0⟩, ⟨15, 0, 0, 0, 0, 0, [], 0⟩, ⟨1, 1, 0, 0, 4, 0, [97], 0⟩, ⟨15, 0, 0, 0, 0, -1, [], 0⟩, ⟨1, 3, 0, 0, 8, 0, [97], 0⟩, ⟨17, 0, 0, 0, 0, 0, [112, 114, 105, 110, 116], 0⟩, ⟨17, 0, 0, 0, 0, 0, [97], 0⟩, ⟨19, 5, 6, 0, 0, 0, [], 0⟩, ⟨5, 7, 0, 0, 0, 0, [], 0⟩]
def root3 : Int := 2
def rows3 : List Rw := [⟨0, 2, [], [⟨2, 0, []⟩, ⟨2, -1, []⟩, ⟨3, 0, [112, 114, 105, 110, 116]⟩], [(1, 0), (6, 0), (1, 1), (6, 1), (9, 2), (5, 1), (26, 1), (25, 0), (25, 0), (29, 0), (2, 0), (2, 0), (27, 0)]⟩]
def q3a (x : Nat) (t : List UInt8) : HQ := [some ⟨t, [], [], 0⟩]
def o3a (x : Nat) (t : List UInt8) : List Ob := [.txt ⟨2, ((x : Nat) : Int), []⟩ t, .out [] t]
def u3a (t : List UInt8) : List UInt8 := (([] ++ t) ++ [10])
def q3b (x : Nat) (t : List UInt8) : HQ := [none]
def o3b (x : Nat) (t : List UInt8) : List Ob := []
def u3b (t : List UInt8) : List UInt8 := []
theorem cp3 : CompK ns3 root3 1 rows3 := by
  intro n r0 r1 r2 r3 r4 r5 r6 r7 r8 r9 r10 r11 r12
  kernel_rfl
def p3_0 : List UInt8 := [108, 111, 99, 97, 108, 32, 97, 32, 61, 32, 48, 32, 108, 111, 99, 97, 108, 32, 97, 32, 61, 32]
def p3_1 : List UInt8 := [32, 112, 114, 105, 110, 116, 40, 97, 41]
theorem lx3 (w : List UInt8) : scanW w 400 p3_0 0 0 [] = some (378, 22, 0, tkP 400 p3_0 0) := by kernel_rfl
theorem pr3 (x len : Nat) (src : List UInt8) (nodes0 : List Nd) : bind1 (bind1 (scanS 200 p3_1 (22 + len) 0 (tkP 400 p3_0 0 ++ [⟨3, 22, [], ((x : Nat) : Int), 0⟩])) (parT 400 src nodes0)) erP = some (ns3.map (nPut x), root3) := by kernel_rfl
theorem fr3 {x : Nat} {t : List UInt8} (hx : x < 9218868437227405312) (hn : NumT t) (hl : t.length ≤ 22) (hp : parseM t = some (x, 0)) (hL : newX [0, 4607182418800017408] x) : Front (say3 t).src 1 (rows3.map (rPut x)) := by
  refine front_mk (ns := ns3.map (nPut x)) (root := root3) ?_ (Rows.put hx (by decide) (by decide) (by kernel_rfl) (by kernel_rfl) (of_decide_eq_true (by kernel_rfl))) (fun nodes0 => ?_) (comp_open cp3 hL (fun z => hL 4607182418800017408 (by simp) z.symm) (by kernel_rfl) (by kernel_rfl))
  · show (((p3_0 ++ t) ++ p3_1)).length ≤ 2048
    simp only [List.length_append]
    have e : p3_0.length + p3_1.length ≤ 1000 := of_decide_eq_true (by kernel_rfl)
    omega
  · show bind1 (bind1 (scanL 400 ((p3_0 ++ t) ++ p3_1) 0 0 []) (parT 400 ((p3_0 ++ t) ++ p3_1) nodes0)) erP = _
    have h := pr3 x t.length ((p3_0 ++ t) ++ p3_1) nodes0
    obtain ⟨z, hz, h⟩ := bnd1 h
    obtain ⟨r, hr, hz⟩ := bnd1 hz
    refine parse_of (r := r) (ascii_app (ascii_app (ascii_of (by kernel_rfl)) (num_ascii hn)) (ascii_of (by kernel_rfl))) ?_ nodes0 ?_
    · rw [List.append_assoc]
      exact pre_step (lx3 _) (num_step hn hl (by refine ⟨?_, ?_, ?_⟩ <;> decide) hp (of_decide_eq_true (by kernel_rfl)) hr (by decide))
    · rw [hz]; exact h
theorem v3a (x : Nat) (t : List UInt8) : endR (coLA 1000 40 60 0 V.nil V.nil 0 (q3a x t) (ld1 (pgR (rows3.map (rPut x))) ts0 1)) = some ((⟨1, V.nil, 0⟩, 0, u3a t, 0, 1), [], o3a x t) := by kernel_rfl
theorem ob3a {x : Nat} {t : List UInt8} (hx : x < 9218868437227405312) (hf : formatM x = some t) (hg : formatM (negM x) = some ([45] ++ t)) (hl : t.length ≤ 22) (hp : parseM t = some (x, 0)) : allOb (o3a x t) := by
  unfold o3a
  exact allOb_cons (txt_num (Nat.lt_trans hx (by decide)) hf) (allOb_cons (by show List.length _ + List.length _ + 1 ≤ 200; simp only [List.length_append, List.length_cons, List.length_nil]; omega) (allOb_nil))
theorem v3b (x : Nat) (t : List UInt8) : endR (coLA 1000 40 60 0 V.nil V.nil 0 (q3b x t) (ld1 (pgR (rows3.map (rPut x))) ts0 0)) = some ((⟨3, V.nil, 9⟩, 0, u3b t, 0, 1), [], o3b x t) := by kernel_rfl
theorem ob3b {x : Nat} {t : List UInt8} (hx : x < 9218868437227405312) (hf : formatM x = some t) (hg : formatM (negM x) = some ([45] ++ t)) (hl : t.length ≤ 22) (hp : parseM t = some (x, 0)) : allOb (o3b x t) := by
  unfold o3b
  exact allOb_nil
theorem op3 {x : Nat} {t : List UInt8} (hx : x < 9218868437227405312) (hf : formatM x = some t) (hL : newX [0, 4607182418800017408] x) (c : CSt) (m : VM) (hJ : JJ c m) : Two say3 0 0 t c m := by
  obtain ⟨t', f1, hn, hl, hp, hg⟩ := fmt_all hx
  rw [hf] at f1
  injection f1 with f1
  subst f1
  have ua : u3a t = (say3 t).out := by simp [u3a, say3]
  have ub : u3b t = (say3 t).short := by simp [u3b, say3]
  exact two_mk (run_mk (fr3 hx hn hl hp hL) (v3a x t) (ob3a hx hf hg hl hp) (by decide) (.inl ⟨rfl, by rw [ua]⟩)) (run_mk (fr3 hx hn hl hp hL) (v3b x t) (ob3b hx hf hg hl hp) (by decide) (.inr ⟨rfl, by rw [ub]⟩)) c m hJ
def nsC3x0 : List Nd := [⟨0, 0, 0, 0, 0, 0, [], 0⟩, ⟨15, 0, 0, 0, 0, 0, [], 0⟩, ⟨1, 1, 0, 0, 4, 0, [97], 0⟩, ⟨15, 0, 0, 0, 0, 0, [], 0⟩, ⟨1, 3, 0, 0, 8, 0, [97], 0⟩, ⟨17, 0, 0, 0, 0, 0, [112, 114, 105, 110, 116], 0⟩, ⟨17, 0, 0, 0, 0, 0, [97], 0⟩, ⟨19, 5, 6, 0, 0, 0, [], 0⟩, ⟨5, 7, 0, 0, 0, 0, [], 0⟩]
def rootC3x0 : Int := 2
def rowsC3x0 : List Rw := [⟨0, 2, [], [⟨2, 0, []⟩, ⟨3, 0, [112, 114, 105, 110, 116]⟩], [(1, 0), (6, 0), (1, 0), (6, 1), (9, 1), (5, 1), (26, 1), (25, 0), (25, 0), (29, 0), (2, 0), (2, 0), (27, 0)]⟩]
def srcC3x0 : List UInt8 := [108, 111, 99, 97, 108, 32, 97, 32, 61, 32, 48, 32, 108, 111, 99, 97, 108, 32, 97, 32, 61, 32, 48, 32, 112, 114, 105, 110, 116, 40, 97, 41]
def qC3x0a : HQ := List.replicate 1 none
def oC3x0a : List Ob := []
def uC3x0a : List UInt8 := [48, 10]
def qC3x0b : HQ := List.replicate 1 none
def oC3x0b : List Ob := []
def uC3x0b : List UInt8 := []
theorem cpC3x0 : CompK nsC3x0 rootC3x0 1 rowsC3x0 := by
  intro n r0 r1 r2 r3 r4 r5 r6 r7 r8 r9 r10 r11 r12
  kernel_rfl
theorem prC3x0 (src : List UInt8) (nodes0 : List Nd) : bind1 (bind1 (scanS 400 srcC3x0 0 0 []) (parT 400 src nodes0)) erP = some (nsC3x0, rootC3x0) := by kernel_rfl
theorem frC3x0 : Front srcC3x0 1 rowsC3x0 := by
  have e : rowsC3x0.map (rPut ((0 : Nat) : Int)) = rowsC3x0 := by kernel_rfl
  refine front_mk (ns := nsC3x0) (root := rootC3x0) (of_decide_eq_true (by kernel_rfl)) (e ▸ Rows.put (x := 0) (by decide) (by decide) (by decide) (by kernel_rfl) (by kernel_rfl) (of_decide_eq_true (by kernel_rfl))) (fun nodes0 => ?_) cpC3x0.all
  obtain ⟨z, hz, h⟩ := bnd1 (prC3x0 srcC3x0 nodes0)
  obtain ⟨r, hr, hz⟩ := bnd1 hz
  exact parse_of (ascii_of (by kernel_rfl)) hr nodes0 (by rw [hz]; exact h)
theorem vC3x0a : endR (coLA 1000 40 60 0 V.nil V.nil 0 qC3x0a (ld1 (pgR rowsC3x0) ts0 1)) = some ((⟨1, V.nil, 0⟩, 0, uC3x0a, 0, 1), [], oC3x0a) := by kernel_rfl
theorem obC3x0a : allOb oC3x0a := by
  unfold oC3x0a
  exact allOb_nil
theorem vC3x0b : endR (coLA 1000 40 60 0 V.nil V.nil 0 qC3x0b (ld1 (pgR rowsC3x0) ts0 0)) = some ((⟨3, V.nil, 9⟩, 0, uC3x0b, 0, 1), [], oC3x0b) := by kernel_rfl
theorem obC3x0b : allOb oC3x0b := by
  unfold oC3x0b
  exact allOb_nil
theorem opC3x0 (c : CSt) (m : VM) (hJ : JJ c m) : Two say3 0 0 [48] c m := by
  exact two_mk (src := srcC3x0) (run_mk frC3x0 vC3x0a obC3x0a (by decide) (.inl ⟨rfl, rfl⟩)) (run_mk frC3x0 vC3x0b obC3x0b (by decide) (.inr ⟨rfl, rfl⟩)) c m hJ
def nsC3x1 : List Nd := [⟨0, 0, 0, 0, 0, 0, [], 0⟩, ⟨15, 0, 0, 0, 0, 0, [], 0⟩, ⟨1, 1, 0, 0, 4, 0, [97], 0⟩, ⟨15, 0, 0, 0, 0, 4607182418800017408, [], 0⟩, ⟨1, 3, 0, 0, 8, 0, [97], 0⟩, ⟨17, 0, 0, 0, 0, 0, [112, 114, 105, 110, 116], 0⟩, ⟨17, 0, 0, 0, 0, 0, [97], 0⟩, ⟨19, 5, 6, 0, 0, 0, [], 0⟩, ⟨5, 7, 0, 0, 0, 0, [], 0⟩]
def rootC3x1 : Int := 2
def rowsC3x1 : List Rw := [⟨0, 2, [], [⟨2, 0, []⟩, ⟨2, 4607182418800017408, []⟩, ⟨3, 0, [112, 114, 105, 110, 116]⟩], [(1, 0), (6, 0), (1, 1), (6, 1), (9, 2), (5, 1), (26, 1), (25, 0), (25, 0), (29, 0), (2, 0), (2, 0), (27, 0)]⟩]
def srcC3x1 : List UInt8 := [108, 111, 99, 97, 108, 32, 97, 32, 61, 32, 48, 32, 108, 111, 99, 97, 108, 32, 97, 32, 61, 32, 49, 32, 112, 114, 105, 110, 116, 40, 97, 41]
def qC3x1a : HQ := List.replicate 1 none
def oC3x1a : List Ob := []
def uC3x1a : List UInt8 := [49, 10]
def qC3x1b : HQ := List.replicate 1 none
def oC3x1b : List Ob := []
def uC3x1b : List UInt8 := []
theorem cpC3x1 : CompK nsC3x1 rootC3x1 1 rowsC3x1 := by
  intro n r0 r1 r2 r3 r4 r5 r6 r7 r8 r9 r10 r11 r12
  kernel_rfl
theorem prC3x1 (src : List UInt8) (nodes0 : List Nd) : bind1 (bind1 (scanS 400 srcC3x1 0 0 []) (parT 400 src nodes0)) erP = some (nsC3x1, rootC3x1) := by kernel_rfl
theorem frC3x1 : Front srcC3x1 1 rowsC3x1 := by
  have e : rowsC3x1.map (rPut ((0 : Nat) : Int)) = rowsC3x1 := by kernel_rfl
  refine front_mk (ns := nsC3x1) (root := rootC3x1) (of_decide_eq_true (by kernel_rfl)) (e ▸ Rows.put (x := 0) (by decide) (by decide) (by decide) (by kernel_rfl) (by kernel_rfl) (of_decide_eq_true (by kernel_rfl))) (fun nodes0 => ?_) cpC3x1.all
  obtain ⟨z, hz, h⟩ := bnd1 (prC3x1 srcC3x1 nodes0)
  obtain ⟨r, hr, hz⟩ := bnd1 hz
  exact parse_of (ascii_of (by kernel_rfl)) hr nodes0 (by rw [hz]; exact h)
theorem vC3x1a : endR (coLA 1000 40 60 0 V.nil V.nil 0 qC3x1a (ld1 (pgR rowsC3x1) ts0 1)) = some ((⟨1, V.nil, 0⟩, 0, uC3x1a, 0, 1), [], oC3x1a) := by kernel_rfl
theorem obC3x1a : allOb oC3x1a := by
  unfold oC3x1a
  exact allOb_nil
theorem vC3x1b : endR (coLA 1000 40 60 0 V.nil V.nil 0 qC3x1b (ld1 (pgR rowsC3x1) ts0 0)) = some ((⟨3, V.nil, 9⟩, 0, uC3x1b, 0, 1), [], oC3x1b) := by kernel_rfl
theorem obC3x1b : allOb oC3x1b := by
  unfold oC3x1b
  exact allOb_nil
theorem opC3x1 (c : CSt) (m : VM) (hJ : JJ c m) : Two say3 0 0 [49] c m := by
  exact two_mk (src := srcC3x1) (run_mk frC3x1 vC3x1a obC3x1a (by decide) (.inl ⟨rfl, rfl⟩)) (run_mk frC3x1 vC3x1b obC3x1b (by decide) (.inr ⟨rfl, rfl⟩)) c m hJ
theorem one3 {x : Nat} {t : List UInt8} (hx : x < 9218868437227405312) (hf : formatM x = some t) (c : CSt) (m : VM) (hJ : JJ c m) : Two say3 0 0 t c m := by
  by_cases h0 : x = 0
  · subst h0
    have e : formatM 0 = some [48] := by kernel_rfl
    rw [e] at hf
    injection hf with hf
    subst hf
    exact opC3x0 c m hJ
  by_cases h1 : x = 4607182418800017408
  · subst h1
    have e : formatM 4607182418800017408 = some [49] := by kernel_rfl
    rw [e] at hf
    injection hf with hf
    subst hf
    exact opC3x1 c m hJ
  refine op3 hx hf ?_ c m hJ
  intro z hz
  simp only [List.mem_cons, List.not_mem_nil, or_false] at hz
  rcases hz with rfl | rfl <;> omega
def nsC12x0 : List Nd := [⟨0, 0, 0, 0, 0, 0, [], 0⟩, ⟨15, 0, 0, 0, 0, 0, [], 0⟩, ⟨1, 1, 0, 0, 11, 0, [110], 0⟩, ⟨17, 0, 0, 0, 0, 0, [110], 0⟩, ⟨17, 0, 0, 0, 0, 0, [110], 0⟩, ⟨15, 0, 0, 0, 0, 4607182418800017408, [], 0⟩, ⟨22, 4, 5, 0, 0, 1, [], 0⟩, ⟨4, 3, 6, 0, 9, 0, [], 0⟩, ⟨15, 0, 0, 0, 0, 4611686018427387904, [], 0⟩, ⟨10, 8, 0, 0, 0, 0, [], 0⟩, ⟨20, 0, 7, 0, 0, 1, [], 0⟩, ⟨3, 10, 0, 0, 15, 0, [102], 0⟩, ⟨15, 0, 0, 0, 14, 4607182418800017408, [], 0⟩, ⟨17, 0, 0, 0, 0, 0, [102], 0⟩, ⟨19, 13, 0, 0, 0, 0, [], 0⟩, ⟨8, 12, 0, 0, 19, 0, [105], 0⟩, ⟨17, 0, 0, 0, 0, 0, [112, 114, 105, 110, 116], 0⟩, ⟨17, 0, 0, 0, 0, 0, [110], 0⟩, ⟨19, 16, 17, 0, 0, 0, [], 0⟩, ⟨5, 18, 0, 0, 0, 0, [], 0⟩]
def rootC12x0 : Int := 2
def rowsC12x0 : List Rw := [⟨0, 6, [], [⟨2, 0, []⟩, ⟨2, 4607182418800017408, []⟩, ⟨3, 0, [112, 114, 105, 110, 116]⟩], [(1, 0), (6, 0), (28, 1), (6, 1), (1, 1), (6, 2), (5, 1), (26, 0), (25, 0), (6, 3), (1, 1), (6, 4), (30, 2), (31, 2), (22, 23), (5, 2), (6, 5), (29, 5), (5, 2), (5, 4), (15, 1), (6, 2), (21, 13), (29, 2), (9, 2), (5, 0), (26, 1), (25, 0), (25, 0), (29, 0), (2, 0), (2, 0), (27, 0)]⟩, ⟨0, 0, [(1, 0)], [⟨2, 4607182418800017408, []⟩, ⟨2, 4611686018427387904, []⟩], [(7, 0), (1, 0), (15, 1), (8, 0), (1, 1), (2, 0), (27, 0), (2, 0), (2, 0), (27, 0)]⟩]
def srcC12x0 : List UInt8 := [108, 111, 99, 97, 108, 32, 110, 32, 61, 32, 48, 32, 108, 111, 99, 97, 108, 32, 102, 117, 110, 99, 116, 105, 111, 110, 32, 102, 40, 41, 32, 110, 32, 61, 32, 110, 32, 43, 32, 49, 32, 114, 101, 116, 117, 114, 110, 32, 50, 32, 101, 110, 100, 32, 102, 111, 114, 32, 105, 32, 61, 32, 49, 44, 32, 102, 40, 41, 32, 100, 111, 32, 101, 110, 100, 32, 112, 114, 105, 110, 116, 40, 110, 41]
def qC12x0a : HQ := List.replicate 4 none
def oC12x0a : List Ob := []
def uC12x0a : List UInt8 := [49, 10]
def qC12x0b : HQ := List.replicate 4 none
def oC12x0b : List Ob := []
def uC12x0b : List UInt8 := []
theorem cpC12x0 : CompK nsC12x0 rootC12x0 2 rowsC12x0 := by
  intro n r0 r1 r2 r3 r4 r5 r6 r7 r8 r9 r10 r11 r12
  kernel_rfl
theorem prC12x0 (src : List UInt8) (nodes0 : List Nd) : bind1 (bind1 (scanS 400 srcC12x0 0 0 []) (parT 400 src nodes0)) erP = some (nsC12x0, rootC12x0) := by kernel_rfl
theorem frC12x0 : Front srcC12x0 2 rowsC12x0 := by
  have e : rowsC12x0.map (rPut ((0 : Nat) : Int)) = rowsC12x0 := by kernel_rfl
  refine front_mk (ns := nsC12x0) (root := rootC12x0) (of_decide_eq_true (by kernel_rfl)) (e ▸ Rows.put (x := 0) (by decide) (by decide) (by decide) (by kernel_rfl) (by kernel_rfl) (of_decide_eq_true (by kernel_rfl))) (fun nodes0 => ?_) cpC12x0.all
  obtain ⟨z, hz, h⟩ := bnd1 (prC12x0 srcC12x0 nodes0)
  obtain ⟨r, hr, hz⟩ := bnd1 hz
  exact parse_of (ascii_of (by kernel_rfl)) hr nodes0 (by rw [hz]; exact h)
theorem vC12x0a : endR (coLA 1000 40 60 0 V.nil V.nil 0 qC12x0a (ld1 (pgR rowsC12x0) ts0 4)) = some ((⟨1, V.nil, 0⟩, 0, uC12x0a, 0, 1), [], oC12x0a) := by kernel_rfl
theorem obC12x0a : allOb oC12x0a := by
  unfold oC12x0a
  exact allOb_nil
theorem vC12x0b : endR (coLA 1000 40 60 0 V.nil V.nil 0 qC12x0b (ld1 (pgR rowsC12x0) ts0 3)) = some ((⟨3, V.nil, 9⟩, 0, uC12x0b, 0, 1), [], oC12x0b) := by kernel_rfl
theorem obC12x0b : allOb oC12x0b := by
  unfold oC12x0b
  exact allOb_nil
theorem opC12x0 (t : List UInt8) (c : CSt) (m : VM) (hJ : JJ c m) : Two say12 0 0 t c m := by
  exact two_mk (src := srcC12x0) (run_mk frC12x0 vC12x0a obC12x0a (by decide) (.inl ⟨rfl, rfl⟩)) (run_mk frC12x0 vC12x0b obC12x0b (by decide) (.inr ⟨rfl, rfl⟩)) c m hJ
theorem one12 {x : Nat} {t : List UInt8} (hx : x < 9218868437227405312) (hf : formatM x = some t) (c : CSt) (m : VM) (hJ : JJ c m) : Two say12 0 0 t c m := opC12x0 t c m hJ
def nsC21x0 : List Nd := [⟨0, 0, 0, 0, 0, 0, [], 0⟩, ⟨17, 0, 0, 0, 0, 0, [112, 114, 105, 110, 116], 0⟩, ⟨15, 0, 0, 0, 0, 4607182418800017408, [], 0⟩, ⟨15, 0, 0, 0, 0, 4607182418800017408, [], 0⟩, ⟨22, 2, 3, 0, 0, 14, [], 0⟩, ⟨19, 1, 4, 0, 0, 0, [], 0⟩, ⟨5, 5, 0, 0, 12, 0, [], 0⟩, ⟨17, 0, 0, 0, 0, 0, [112, 114, 105, 110, 116], 0⟩, ⟨15, 0, 0, 0, 0, 4607182418800017408, [], 0⟩, ⟨15, 0, 0, 0, 0, 4607182418800017408, [], 0⟩, ⟨22, 8, 9, 0, 0, 12, [], 0⟩, ⟨19, 7, 10, 0, 0, 0, [], 0⟩, ⟨5, 11, 0, 0, 18, 0, [], 0⟩, ⟨17, 0, 0, 0, 0, 0, [112, 114, 105, 110, 116], 0⟩, ⟨15, 0, 0, 0, 0, 4611686018427387904, [], 0⟩, ⟨15, 0, 0, 0, 0, 4607182418800017408, [], 0⟩, ⟨22, 14, 15, 0, 0, 16, [], 0⟩, ⟨19, 13, 16, 0, 0, 0, [], 0⟩, ⟨5, 17, 0, 0, 24, 0, [], 0⟩, ⟨17, 0, 0, 0, 0, 0, [112, 114, 105, 110, 116], 0⟩, ⟨15, 0, 0, 0, 0, 4607182418800017408, [], 0⟩, ⟨15, 0, 0, 0, 0, 4607182418800017408, [], 0⟩, ⟨22, 20, 21, 0, 0, 13, [], 0⟩, ⟨19, 19, 22, 0, 0, 0, [], 0⟩, ⟨5, 23, 0, 0, 30, 0, [], 0⟩, ⟨17, 0, 0, 0, 0, 0, [112, 114, 105, 110, 116], 0⟩, ⟨15, 0, 0, 0, 0, 4611686018427387904, [], 0⟩, ⟨15, 0, 0, 0, 0, 4607182418800017408, [], 0⟩, ⟨22, 26, 27, 0, 0, 15, [], 0⟩, ⟨19, 25, 28, 0, 0, 0, [], 0⟩, ⟨5, 29, 0, 0, 36, 0, [], 0⟩, ⟨17, 0, 0, 0, 0, 0, [112, 114, 105, 110, 116], 0⟩, ⟨15, 0, 0, 0, 0, 4607182418800017408, [], 0⟩, ⟨15, 0, 0, 0, 0, 4607182418800017408, [], 0⟩, ⟨22, 32, 33, 0, 0, 11, [], 0⟩, ⟨19, 31, 34, 0, 0, 0, [], 0⟩, ⟨5, 35, 0, 0, 0, 0, [], 0⟩]
def rootC21x0 : Int := 6
def rowsC21x0 : List Rw := [⟨0, 0, [], [⟨3, 0, [112, 114, 105, 110, 116]⟩, ⟨2, 4607182418800017408, []⟩, ⟨2, 4611686018427387904, []⟩], [(9, 0), (1, 1), (1, 1), (16, 4), (26, 1), (25, 0), (25, 0), (9, 0), (1, 1), (1, 1), (16, 2), (26, 1), (25, 0), (25, 0), (9, 0), (1, 2), (1, 1), (16, 6), (26, 1), (25, 0), (25, 0), (9, 0), (1, 1), (1, 1), (16, 3), (26, 1), (25, 0), (25, 0), (9, 0), (1, 2), (1, 1), (16, 5), (26, 1), (25, 0), (25, 0), (9, 0), (1, 1), (1, 1), (16, 1), (26, 1), (25, 0), (25, 0), (2, 0), (2, 0), (27, 0)]⟩]
def srcC21x0 : List UInt8 := [112, 114, 105, 110, 116, 40, 49, 32, 60, 61, 32, 49, 41, 32, 112, 114, 105, 110, 116, 40, 49, 32, 126, 61, 32, 49, 41, 32, 112, 114, 105, 110, 116, 40, 50, 32, 62, 61, 32, 49, 41, 32, 112, 114, 105, 110, 116, 40, 49, 32, 60, 32, 49, 41, 32, 112, 114, 105, 110, 116, 40, 50, 32, 62, 32, 49, 41, 32, 112, 114, 105, 110, 116, 40, 49, 32, 61, 61, 32, 49, 41]
def qC21x0a : HQ := List.replicate 6 none
def oC21x0a : List Ob := []
def uC21x0a : List UInt8 := [116, 114, 117, 101, 10, 102, 97, 108, 115, 101, 10, 116, 114, 117, 101, 10, 102, 97, 108, 115, 101, 10, 116, 114, 117, 101, 10, 116, 114, 117, 101, 10]
def qC21x0b : HQ := List.replicate 6 none
def oC21x0b : List Ob := []
def uC21x0b : List UInt8 := [116, 114, 117, 101, 10, 102, 97, 108, 115, 101, 10, 116, 114, 117, 101, 10, 102, 97, 108, 115, 101, 10, 116, 114, 117, 101, 10]
theorem cpC21x0 : CompK nsC21x0 rootC21x0 1 rowsC21x0 := by
  intro n r0 r1 r2 r3 r4 r5 r6 r7 r8 r9 r10 r11 r12
  kernel_rfl
theorem prC21x0 (src : List UInt8) (nodes0 : List Nd) : bind1 (bind1 (scanS 400 srcC21x0 0 0 []) (parT 400 src nodes0)) erP = some (nsC21x0, rootC21x0) := by kernel_rfl
theorem frC21x0 : Front srcC21x0 1 rowsC21x0 := by
  have e : rowsC21x0.map (rPut ((0 : Nat) : Int)) = rowsC21x0 := by kernel_rfl
  refine front_mk (ns := nsC21x0) (root := rootC21x0) (of_decide_eq_true (by kernel_rfl)) (e ▸ Rows.put (x := 0) (by decide) (by decide) (by decide) (by kernel_rfl) (by kernel_rfl) (of_decide_eq_true (by kernel_rfl))) (fun nodes0 => ?_) cpC21x0.all
  obtain ⟨z, hz, h⟩ := bnd1 (prC21x0 srcC21x0 nodes0)
  obtain ⟨r, hr, hz⟩ := bnd1 hz
  exact parse_of (ascii_of (by kernel_rfl)) hr nodes0 (by rw [hz]; exact h)
theorem vC21x0a : endR (coLA 1000 40 60 0 V.nil V.nil 0 qC21x0a (ld1 (pgR rowsC21x0) ts0 6)) = some ((⟨1, V.nil, 0⟩, 0, uC21x0a, 0, 1), [], oC21x0a) := by kernel_rfl
theorem obC21x0a : allOb oC21x0a := by
  unfold oC21x0a
  exact allOb_nil
theorem vC21x0b : endR (coLA 1000 40 60 0 V.nil V.nil 0 qC21x0b (ld1 (pgR rowsC21x0) ts0 5)) = some ((⟨3, V.nil, 9⟩, 0, uC21x0b, 0, 1), [], oC21x0b) := by kernel_rfl
theorem obC21x0b : allOb oC21x0b := by
  unfold oC21x0b
  exact allOb_nil
theorem opC21x0 (t : List UInt8) (c : CSt) (m : VM) (hJ : JJ c m) : Two say21 0 0 t c m := by
  exact two_mk (src := srcC21x0) (run_mk frC21x0 vC21x0a obC21x0a (by decide) (.inl ⟨rfl, rfl⟩)) (run_mk frC21x0 vC21x0b obC21x0b (by decide) (.inr ⟨rfl, rfl⟩)) c m hJ
theorem one21 {x : Nat} {t : List UInt8} (hx : x < 9218868437227405312) (hf : formatM x = some t) (c : CSt) (m : VM) (hJ : JJ c m) : Two say21 0 0 t c m := opC21x0 t c m hJ
def ns30 : List Nd := [⟨0, 0, 0, 0, 0, 0, [], 0⟩, ⟨15, 0, 0, 0, 2, 4607182418800017408, [], 0⟩, ⟨15, 0, 0, 0, 0, 4613937818241073152, [], 0⟩, ⟨17, 0, 0, 0, 0, 0, [105], 0⟩, ⟨15, 0, 0, 0, 0, 4611686018427387904, [], 0⟩, ⟨22, 3, 4, 0, 0, 11, [], 0⟩, ⟨11, 0, 0, 0, 0, 0, [], 0⟩, ⟨6, 5, 6, 0, 11, 0, [], 0⟩, ⟨17, 0, 0, 0, 0, 0, [112, 114, 105, 110, 116], 0⟩, ⟨17, 0, 0, 0, 0, 0, [105], 0⟩, ⟨19, 8, 9, 0, 0, 0, [], 0⟩, ⟨5, 10, 0, 0, 0, 0, [], 0⟩, ⟨8, 1, 7, 0, 16, 0, [105], 0⟩, ⟨17, 0, 0, 0, 0, 0, [112, 114, 105, 110, 116], 0⟩, ⟨15, 0, 0, 0, 0, -1, [], 0⟩, ⟨19, 13, 14, 0, 0, 0, [], 0⟩, ⟨5, 15, 0, 0, 0, 0, [], 0⟩]
def root30 : Int := 12
def rows30 : List Rw := [⟨0, 4, [], [⟨2, 4607182418800017408, []⟩, ⟨2, 4613937818241073152, []⟩, ⟨2, 4611686018427387904, []⟩, ⟨3, 0, [112, 114, 105, 110, 116]⟩, ⟨2, -1, []⟩], [(1, 0), (6, 0), (1, 1), (6, 1), (1, 0), (6, 2), (30, 0), (31, 0), (22, 29), (5, 0), (6, 3), (5, 3), (1, 2), (16, 1), (22, 18), (29, 0), (21, 29), (21, 18), (9, 3), (5, 3), (26, 1), (25, 0), (25, 0), (29, 3), (5, 0), (5, 2), (15, 1), (6, 0), (21, 7), (29, 0), (9, 3), (1, 4), (26, 1), (25, 0), (25, 0), (2, 0), (2, 0), (27, 0)]⟩]
def q30a (x : Nat) (t : List UInt8) : HQ := [none, none, some ⟨t, [], [], 0⟩]
def o30a (x : Nat) (t : List UInt8) : List Ob := [.txt ⟨2, ((x : Nat) : Int), []⟩ t, .out [49, 10] t]
def u30a (t : List UInt8) : List UInt8 := (([49, 10] ++ t) ++ [10])
def q30b (x : Nat) (t : List UInt8) : HQ := [none, none, none]
def o30b (x : Nat) (t : List UInt8) : List Ob := []
def u30b (t : List UInt8) : List UInt8 := [49, 10]
theorem cp30 : CompK ns30 root30 1 rows30 := by
  intro n r0 r1 r2 r3 r4 r5 r6 r7 r8 r9 r10 r11 r12
  kernel_rfl
def p30_0 : List UInt8 := [102, 111, 114, 32, 105, 32, 61, 32, 49, 44, 32, 51, 32, 100, 111, 32, 105, 102, 32, 105, 32, 61, 61, 32, 50, 32, 116, 104, 101, 110, 32, 98, 114, 101, 97, 107, 32, 101, 110, 100, 32, 112, 114, 105, 110, 116, 40, 105, 41, 32, 101, 110, 100, 32, 112, 114, 105, 110, 116, 40]
def p30_1 : List UInt8 := [41]
theorem lx30 (w : List UInt8) : scanW w 400 p30_0 0 0 [] = some (340, 60, 0, tkP 400 p30_0 0) := by kernel_rfl
theorem pr30 (x len : Nat) (src : List UInt8) (nodes0 : List Nd) : bind1 (bind1 (scanS 200 p30_1 (60 + len) 0 (tkP 400 p30_0 0 ++ [⟨3, 60, [], ((x : Nat) : Int), 0⟩])) (parT 400 src nodes0)) erP = some (ns30.map (nPut x), root30) := by kernel_rfl
theorem fr30 {x : Nat} {t : List UInt8} (hx : x < 9218868437227405312) (hn : NumT t) (hl : t.length ≤ 22) (hp : parseM t = some (x, 0)) (hL : newX [4607182418800017408, 4613937818241073152, 4611686018427387904] x) : Front (say30 t).src 1 (rows30.map (rPut x)) := by
  refine front_mk (ns := ns30.map (nPut x)) (root := root30) ?_ (Rows.put hx (by decide) (by decide) (by kernel_rfl) (by kernel_rfl) (of_decide_eq_true (by kernel_rfl))) (fun nodes0 => ?_) (comp_open cp30 hL (fun z => hL 4607182418800017408 (by simp) z.symm) (by kernel_rfl) (by kernel_rfl))
  · show (((p30_0 ++ t) ++ p30_1)).length ≤ 2048
    simp only [List.length_append]
    have e : p30_0.length + p30_1.length ≤ 1000 := of_decide_eq_true (by kernel_rfl)
    omega
  · show bind1 (bind1 (scanL 400 ((p30_0 ++ t) ++ p30_1) 0 0 []) (parT 400 ((p30_0 ++ t) ++ p30_1) nodes0)) erP = _
    have h := pr30 x t.length ((p30_0 ++ t) ++ p30_1) nodes0
    obtain ⟨z, hz, h⟩ := bnd1 h
    obtain ⟨r, hr, hz⟩ := bnd1 hz
    refine parse_of (r := r) (ascii_app (ascii_app (ascii_of (by kernel_rfl)) (num_ascii hn)) (ascii_of (by kernel_rfl))) ?_ nodes0 ?_
    · rw [List.append_assoc]
      exact pre_step (lx30 _) (num_step hn hl (by refine ⟨?_, ?_, ?_⟩ <;> decide) hp (of_decide_eq_true (by kernel_rfl)) hr (by decide))
    · rw [hz]; exact h
theorem v30a (x : Nat) (t : List UInt8) : endR (coLA 1000 40 60 0 V.nil V.nil 0 (q30a x t) (ld1 (pgR (rows30.map (rPut x))) ts0 3)) = some ((⟨1, V.nil, 0⟩, 0, u30a t, 0, 1), [], o30a x t) := by kernel_rfl
theorem ob30a {x : Nat} {t : List UInt8} (hx : x < 9218868437227405312) (hf : formatM x = some t) (hg : formatM (negM x) = some ([45] ++ t)) (hl : t.length ≤ 22) (hp : parseM t = some (x, 0)) : allOb (o30a x t) := by
  unfold o30a
  exact allOb_cons (txt_num (Nat.lt_trans hx (by decide)) hf) (allOb_cons (by show List.length _ + List.length _ + 1 ≤ 200; simp only [List.length_append, List.length_cons, List.length_nil]; omega) (allOb_nil))
theorem v30b (x : Nat) (t : List UInt8) : endR (coLA 1000 40 60 0 V.nil V.nil 0 (q30b x t) (ld1 (pgR (rows30.map (rPut x))) ts0 2)) = some ((⟨3, V.nil, 9⟩, 0, u30b t, 0, 1), [], o30b x t) := by kernel_rfl
theorem ob30b {x : Nat} {t : List UInt8} (hx : x < 9218868437227405312) (hf : formatM x = some t) (hg : formatM (negM x) = some ([45] ++ t)) (hl : t.length ≤ 22) (hp : parseM t = some (x, 0)) : allOb (o30b x t) := by
  unfold o30b
  exact allOb_nil
theorem op30 {x : Nat} {t : List UInt8} (hx : x < 9218868437227405312) (hf : formatM x = some t) (hL : newX [4607182418800017408, 4613937818241073152, 4611686018427387904] x) (c : CSt) (m : VM) (hJ : JJ c m) : Two say30 0 0 t c m := by
  obtain ⟨t', f1, hn, hl, hp, hg⟩ := fmt_all hx
  rw [hf] at f1
  injection f1 with f1
  subst f1
  have ua : u30a t = (say30 t).out := by simp [u30a, say30]
  have ub : u30b t = (say30 t).short := by simp [u30b, say30]
  exact two_mk (run_mk (fr30 hx hn hl hp hL) (v30a x t) (ob30a hx hf hg hl hp) (by decide) (.inl ⟨rfl, by rw [ua]⟩)) (run_mk (fr30 hx hn hl hp hL) (v30b x t) (ob30b hx hf hg hl hp) (by decide) (.inr ⟨rfl, by rw [ub]⟩)) c m hJ
def nsC30x0 : List Nd := [⟨0, 0, 0, 0, 0, 0, [], 0⟩, ⟨15, 0, 0, 0, 2, 4607182418800017408, [], 0⟩, ⟨15, 0, 0, 0, 0, 4613937818241073152, [], 0⟩, ⟨17, 0, 0, 0, 0, 0, [105], 0⟩, ⟨15, 0, 0, 0, 0, 4611686018427387904, [], 0⟩, ⟨22, 3, 4, 0, 0, 11, [], 0⟩, ⟨11, 0, 0, 0, 0, 0, [], 0⟩, ⟨6, 5, 6, 0, 11, 0, [], 0⟩, ⟨17, 0, 0, 0, 0, 0, [112, 114, 105, 110, 116], 0⟩, ⟨17, 0, 0, 0, 0, 0, [105], 0⟩, ⟨19, 8, 9, 0, 0, 0, [], 0⟩, ⟨5, 10, 0, 0, 0, 0, [], 0⟩, ⟨8, 1, 7, 0, 16, 0, [105], 0⟩, ⟨17, 0, 0, 0, 0, 0, [112, 114, 105, 110, 116], 0⟩, ⟨15, 0, 0, 0, 0, 4607182418800017408, [], 0⟩, ⟨19, 13, 14, 0, 0, 0, [], 0⟩, ⟨5, 15, 0, 0, 0, 0, [], 0⟩]
def rootC30x0 : Int := 12
def rowsC30x0 : List Rw := [⟨0, 4, [], [⟨2, 4607182418800017408, []⟩, ⟨2, 4613937818241073152, []⟩, ⟨2, 4611686018427387904, []⟩, ⟨3, 0, [112, 114, 105, 110, 116]⟩], [(1, 0), (6, 0), (1, 1), (6, 1), (1, 0), (6, 2), (30, 0), (31, 0), (22, 29), (5, 0), (6, 3), (5, 3), (1, 2), (16, 1), (22, 18), (29, 0), (21, 29), (21, 18), (9, 3), (5, 3), (26, 1), (25, 0), (25, 0), (29, 3), (5, 0), (5, 2), (15, 1), (6, 0), (21, 7), (29, 0), (9, 3), (1, 0), (26, 1), (25, 0), (25, 0), (2, 0), (2, 0), (27, 0)]⟩]
def srcC30x0 : List UInt8 := [102, 111, 114, 32, 105, 32, 61, 32, 49, 44, 32, 51, 32, 100, 111, 32, 105, 102, 32, 105, 32, 61, 61, 32, 50, 32, 116, 104, 101, 110, 32, 98, 114, 101, 97, 107, 32, 101, 110, 100, 32, 112, 114, 105, 110, 116, 40, 105, 41, 32, 101, 110, 100, 32, 112, 114, 105, 110, 116, 40, 49, 41]
def qC30x0a : HQ := List.replicate 3 none
def oC30x0a : List Ob := []
def uC30x0a : List UInt8 := [49, 10, 49, 10]
def qC30x0b : HQ := List.replicate 3 none
def oC30x0b : List Ob := []
def uC30x0b : List UInt8 := [49, 10]
theorem cpC30x0 : CompK nsC30x0 rootC30x0 1 rowsC30x0 := by
  intro n r0 r1 r2 r3 r4 r5 r6 r7 r8 r9 r10 r11 r12
  kernel_rfl
theorem prC30x0 (src : List UInt8) (nodes0 : List Nd) : bind1 (bind1 (scanS 400 srcC30x0 0 0 []) (parT 400 src nodes0)) erP = some (nsC30x0, rootC30x0) := by kernel_rfl
theorem frC30x0 : Front srcC30x0 1 rowsC30x0 := by
  have e : rowsC30x0.map (rPut ((0 : Nat) : Int)) = rowsC30x0 := by kernel_rfl
  refine front_mk (ns := nsC30x0) (root := rootC30x0) (of_decide_eq_true (by kernel_rfl)) (e ▸ Rows.put (x := 0) (by decide) (by decide) (by decide) (by kernel_rfl) (by kernel_rfl) (of_decide_eq_true (by kernel_rfl))) (fun nodes0 => ?_) cpC30x0.all
  obtain ⟨z, hz, h⟩ := bnd1 (prC30x0 srcC30x0 nodes0)
  obtain ⟨r, hr, hz⟩ := bnd1 hz
  exact parse_of (ascii_of (by kernel_rfl)) hr nodes0 (by rw [hz]; exact h)
theorem vC30x0a : endR (coLA 1000 40 60 0 V.nil V.nil 0 qC30x0a (ld1 (pgR rowsC30x0) ts0 3)) = some ((⟨1, V.nil, 0⟩, 0, uC30x0a, 0, 1), [], oC30x0a) := by kernel_rfl
theorem obC30x0a : allOb oC30x0a := by
  unfold oC30x0a
  exact allOb_nil
theorem vC30x0b : endR (coLA 1000 40 60 0 V.nil V.nil 0 qC30x0b (ld1 (pgR rowsC30x0) ts0 2)) = some ((⟨3, V.nil, 9⟩, 0, uC30x0b, 0, 1), [], oC30x0b) := by kernel_rfl
theorem obC30x0b : allOb oC30x0b := by
  unfold oC30x0b
  exact allOb_nil
theorem opC30x0 (c : CSt) (m : VM) (hJ : JJ c m) : Two say30 0 0 [49] c m := by
  exact two_mk (src := srcC30x0) (run_mk frC30x0 vC30x0a obC30x0a (by decide) (.inl ⟨rfl, rfl⟩)) (run_mk frC30x0 vC30x0b obC30x0b (by decide) (.inr ⟨rfl, rfl⟩)) c m hJ
def nsC30x1 : List Nd := [⟨0, 0, 0, 0, 0, 0, [], 0⟩, ⟨15, 0, 0, 0, 2, 4607182418800017408, [], 0⟩, ⟨15, 0, 0, 0, 0, 4613937818241073152, [], 0⟩, ⟨17, 0, 0, 0, 0, 0, [105], 0⟩, ⟨15, 0, 0, 0, 0, 4611686018427387904, [], 0⟩, ⟨22, 3, 4, 0, 0, 11, [], 0⟩, ⟨11, 0, 0, 0, 0, 0, [], 0⟩, ⟨6, 5, 6, 0, 11, 0, [], 0⟩, ⟨17, 0, 0, 0, 0, 0, [112, 114, 105, 110, 116], 0⟩, ⟨17, 0, 0, 0, 0, 0, [105], 0⟩, ⟨19, 8, 9, 0, 0, 0, [], 0⟩, ⟨5, 10, 0, 0, 0, 0, [], 0⟩, ⟨8, 1, 7, 0, 16, 0, [105], 0⟩, ⟨17, 0, 0, 0, 0, 0, [112, 114, 105, 110, 116], 0⟩, ⟨15, 0, 0, 0, 0, 4613937818241073152, [], 0⟩, ⟨19, 13, 14, 0, 0, 0, [], 0⟩, ⟨5, 15, 0, 0, 0, 0, [], 0⟩]
def rootC30x1 : Int := 12
def rowsC30x1 : List Rw := [⟨0, 4, [], [⟨2, 4607182418800017408, []⟩, ⟨2, 4613937818241073152, []⟩, ⟨2, 4611686018427387904, []⟩, ⟨3, 0, [112, 114, 105, 110, 116]⟩], [(1, 0), (6, 0), (1, 1), (6, 1), (1, 0), (6, 2), (30, 0), (31, 0), (22, 29), (5, 0), (6, 3), (5, 3), (1, 2), (16, 1), (22, 18), (29, 0), (21, 29), (21, 18), (9, 3), (5, 3), (26, 1), (25, 0), (25, 0), (29, 3), (5, 0), (5, 2), (15, 1), (6, 0), (21, 7), (29, 0), (9, 3), (1, 1), (26, 1), (25, 0), (25, 0), (2, 0), (2, 0), (27, 0)]⟩]
def srcC30x1 : List UInt8 := [102, 111, 114, 32, 105, 32, 61, 32, 49, 44, 32, 51, 32, 100, 111, 32, 105, 102, 32, 105, 32, 61, 61, 32, 50, 32, 116, 104, 101, 110, 32, 98, 114, 101, 97, 107, 32, 101, 110, 100, 32, 112, 114, 105, 110, 116, 40, 105, 41, 32, 101, 110, 100, 32, 112, 114, 105, 110, 116, 40, 51, 41]
def qC30x1a : HQ := List.replicate 3 none
def oC30x1a : List Ob := []
def uC30x1a : List UInt8 := [49, 10, 51, 10]
def qC30x1b : HQ := List.replicate 3 none
def oC30x1b : List Ob := []
def uC30x1b : List UInt8 := [49, 10]
theorem cpC30x1 : CompK nsC30x1 rootC30x1 1 rowsC30x1 := by
  intro n r0 r1 r2 r3 r4 r5 r6 r7 r8 r9 r10 r11 r12
  kernel_rfl
theorem prC30x1 (src : List UInt8) (nodes0 : List Nd) : bind1 (bind1 (scanS 400 srcC30x1 0 0 []) (parT 400 src nodes0)) erP = some (nsC30x1, rootC30x1) := by kernel_rfl
theorem frC30x1 : Front srcC30x1 1 rowsC30x1 := by
  have e : rowsC30x1.map (rPut ((0 : Nat) : Int)) = rowsC30x1 := by kernel_rfl
  refine front_mk (ns := nsC30x1) (root := rootC30x1) (of_decide_eq_true (by kernel_rfl)) (e ▸ Rows.put (x := 0) (by decide) (by decide) (by decide) (by kernel_rfl) (by kernel_rfl) (of_decide_eq_true (by kernel_rfl))) (fun nodes0 => ?_) cpC30x1.all
  obtain ⟨z, hz, h⟩ := bnd1 (prC30x1 srcC30x1 nodes0)
  obtain ⟨r, hr, hz⟩ := bnd1 hz
  exact parse_of (ascii_of (by kernel_rfl)) hr nodes0 (by rw [hz]; exact h)
theorem vC30x1a : endR (coLA 1000 40 60 0 V.nil V.nil 0 qC30x1a (ld1 (pgR rowsC30x1) ts0 3)) = some ((⟨1, V.nil, 0⟩, 0, uC30x1a, 0, 1), [], oC30x1a) := by kernel_rfl
theorem obC30x1a : allOb oC30x1a := by
  unfold oC30x1a
  exact allOb_nil
theorem vC30x1b : endR (coLA 1000 40 60 0 V.nil V.nil 0 qC30x1b (ld1 (pgR rowsC30x1) ts0 2)) = some ((⟨3, V.nil, 9⟩, 0, uC30x1b, 0, 1), [], oC30x1b) := by kernel_rfl
theorem obC30x1b : allOb oC30x1b := by
  unfold oC30x1b
  exact allOb_nil
theorem opC30x1 (c : CSt) (m : VM) (hJ : JJ c m) : Two say30 0 0 [51] c m := by
  exact two_mk (src := srcC30x1) (run_mk frC30x1 vC30x1a obC30x1a (by decide) (.inl ⟨rfl, rfl⟩)) (run_mk frC30x1 vC30x1b obC30x1b (by decide) (.inr ⟨rfl, rfl⟩)) c m hJ
def nsC30x2 : List Nd := [⟨0, 0, 0, 0, 0, 0, [], 0⟩, ⟨15, 0, 0, 0, 2, 4607182418800017408, [], 0⟩, ⟨15, 0, 0, 0, 0, 4613937818241073152, [], 0⟩, ⟨17, 0, 0, 0, 0, 0, [105], 0⟩, ⟨15, 0, 0, 0, 0, 4611686018427387904, [], 0⟩, ⟨22, 3, 4, 0, 0, 11, [], 0⟩, ⟨11, 0, 0, 0, 0, 0, [], 0⟩, ⟨6, 5, 6, 0, 11, 0, [], 0⟩, ⟨17, 0, 0, 0, 0, 0, [112, 114, 105, 110, 116], 0⟩, ⟨17, 0, 0, 0, 0, 0, [105], 0⟩, ⟨19, 8, 9, 0, 0, 0, [], 0⟩, ⟨5, 10, 0, 0, 0, 0, [], 0⟩, ⟨8, 1, 7, 0, 16, 0, [105], 0⟩, ⟨17, 0, 0, 0, 0, 0, [112, 114, 105, 110, 116], 0⟩, ⟨15, 0, 0, 0, 0, 4611686018427387904, [], 0⟩, ⟨19, 13, 14, 0, 0, 0, [], 0⟩, ⟨5, 15, 0, 0, 0, 0, [], 0⟩]
def rootC30x2 : Int := 12
def rowsC30x2 : List Rw := [⟨0, 4, [], [⟨2, 4607182418800017408, []⟩, ⟨2, 4613937818241073152, []⟩, ⟨2, 4611686018427387904, []⟩, ⟨3, 0, [112, 114, 105, 110, 116]⟩], [(1, 0), (6, 0), (1, 1), (6, 1), (1, 0), (6, 2), (30, 0), (31, 0), (22, 29), (5, 0), (6, 3), (5, 3), (1, 2), (16, 1), (22, 18), (29, 0), (21, 29), (21, 18), (9, 3), (5, 3), (26, 1), (25, 0), (25, 0), (29, 3), (5, 0), (5, 2), (15, 1), (6, 0), (21, 7), (29, 0), (9, 3), (1, 2), (26, 1), (25, 0), (25, 0), (2, 0), (2, 0), (27, 0)]⟩]
def srcC30x2 : List UInt8 := [102, 111, 114, 32, 105, 32, 61, 32, 49, 44, 32, 51, 32, 100, 111, 32, 105, 102, 32, 105, 32, 61, 61, 32, 50, 32, 116, 104, 101, 110, 32, 98, 114, 101, 97, 107, 32, 101, 110, 100, 32, 112, 114, 105, 110, 116, 40, 105, 41, 32, 101, 110, 100, 32, 112, 114, 105, 110, 116, 40, 50, 41]
def qC30x2a : HQ := List.replicate 3 none
def oC30x2a : List Ob := []
def uC30x2a : List UInt8 := [49, 10, 50, 10]
def qC30x2b : HQ := List.replicate 3 none
def oC30x2b : List Ob := []
def uC30x2b : List UInt8 := [49, 10]
theorem cpC30x2 : CompK nsC30x2 rootC30x2 1 rowsC30x2 := by
  intro n r0 r1 r2 r3 r4 r5 r6 r7 r8 r9 r10 r11 r12
  kernel_rfl
theorem prC30x2 (src : List UInt8) (nodes0 : List Nd) : bind1 (bind1 (scanS 400 srcC30x2 0 0 []) (parT 400 src nodes0)) erP = some (nsC30x2, rootC30x2) := by kernel_rfl
theorem frC30x2 : Front srcC30x2 1 rowsC30x2 := by
  have e : rowsC30x2.map (rPut ((0 : Nat) : Int)) = rowsC30x2 := by kernel_rfl
  refine front_mk (ns := nsC30x2) (root := rootC30x2) (of_decide_eq_true (by kernel_rfl)) (e ▸ Rows.put (x := 0) (by decide) (by decide) (by decide) (by kernel_rfl) (by kernel_rfl) (of_decide_eq_true (by kernel_rfl))) (fun nodes0 => ?_) cpC30x2.all
  obtain ⟨z, hz, h⟩ := bnd1 (prC30x2 srcC30x2 nodes0)
  obtain ⟨r, hr, hz⟩ := bnd1 hz
  exact parse_of (ascii_of (by kernel_rfl)) hr nodes0 (by rw [hz]; exact h)
theorem vC30x2a : endR (coLA 1000 40 60 0 V.nil V.nil 0 qC30x2a (ld1 (pgR rowsC30x2) ts0 3)) = some ((⟨1, V.nil, 0⟩, 0, uC30x2a, 0, 1), [], oC30x2a) := by kernel_rfl
theorem obC30x2a : allOb oC30x2a := by
  unfold oC30x2a
  exact allOb_nil
theorem vC30x2b : endR (coLA 1000 40 60 0 V.nil V.nil 0 qC30x2b (ld1 (pgR rowsC30x2) ts0 2)) = some ((⟨3, V.nil, 9⟩, 0, uC30x2b, 0, 1), [], oC30x2b) := by kernel_rfl
theorem obC30x2b : allOb oC30x2b := by
  unfold oC30x2b
  exact allOb_nil
theorem opC30x2 (c : CSt) (m : VM) (hJ : JJ c m) : Two say30 0 0 [50] c m := by
  exact two_mk (src := srcC30x2) (run_mk frC30x2 vC30x2a obC30x2a (by decide) (.inl ⟨rfl, rfl⟩)) (run_mk frC30x2 vC30x2b obC30x2b (by decide) (.inr ⟨rfl, rfl⟩)) c m hJ
theorem one30 {x : Nat} {t : List UInt8} (hx : x < 9218868437227405312) (hf : formatM x = some t) (c : CSt) (m : VM) (hJ : JJ c m) : Two say30 0 0 t c m := by
  by_cases h0 : x = 4607182418800017408
  · subst h0
    have e : formatM 4607182418800017408 = some [49] := by kernel_rfl
    rw [e] at hf
    injection hf with hf
    subst hf
    exact opC30x0 c m hJ
  by_cases h1 : x = 4613937818241073152
  · subst h1
    have e : formatM 4613937818241073152 = some [51] := by kernel_rfl
    rw [e] at hf
    injection hf with hf
    subst hf
    exact opC30x1 c m hJ
  by_cases h2 : x = 4611686018427387904
  · subst h2
    have e : formatM 4611686018427387904 = some [50] := by kernel_rfl
    rw [e] at hf
    injection hf with hf
    subst hf
    exact opC30x2 c m hJ
  refine op30 hx hf ?_ c m hJ
  intro z hz
  simp only [List.mem_cons, List.not_mem_nil, or_false] at hz
  rcases hz with rfl | rfl | rfl <;> omega
def nsC39x0 : List Nd := [⟨0, 0, 0, 0, 0, 0, [], 0⟩, ⟨16, 0, 0, 0, 0, 0, [], 0⟩, ⟨1, 1, 0, 0, 12, 0, [115], 0⟩, ⟨17, 0, 0, 0, 0, 0, [120], 0⟩, ⟨17, 0, 0, 0, 0, 0, [115], 0⟩, ⟨17, 0, 0, 0, 0, 0, [115], 0⟩, ⟨17, 0, 0, 0, 0, 0, [120], 0⟩, ⟨22, 5, 6, 0, 0, 20, [], 0⟩, ⟨4, 4, 7, 0, 10, 0, [], 0⟩, ⟨17, 0, 0, 0, 0, 0, [120], 0⟩, ⟨10, 9, 0, 0, 0, 0, [], 0⟩, ⟨20, 3, 8, 0, 0, 1, [], 0⟩, ⟨3, 11, 0, 0, 24, 0, [102], 0⟩, ⟨17, 0, 0, 0, 0, 0, [102], 0⟩, ⟨15, 0, 0, 0, 0, 4607182418800017408, [], 0⟩, ⟨19, 13, 14, 0, 0, 0, [], 0⟩, ⟨17, 0, 0, 0, 0, 0, [102], 0⟩, ⟨15, 0, 0, 0, 0, 4611686018427387904, [], 0⟩, ⟨19, 16, 17, 0, 0, 0, [], 0⟩, ⟨17, 0, 0, 0, 0, 0, [102], 0⟩, ⟨15, 0, 0, 0, 0, 4613937818241073152, [], 0⟩, ⟨19, 19, 20, 0, 0, 0, [], 0⟩, ⟨22, 18, 21, 0, 0, 3, [], 0⟩, ⟨22, 15, 22, 0, 0, 1, [], 0⟩, ⟨1, 23, 0, 0, 28, 0, [97], 0⟩, ⟨17, 0, 0, 0, 0, 0, [112, 114, 105, 110, 116], 0⟩, ⟨17, 0, 0, 0, 0, 0, [115], 0⟩, ⟨19, 25, 26, 0, 0, 0, [], 0⟩, ⟨5, 27, 0, 0, 0, 0, [], 0⟩]
def rootC39x0 : Int := 2
def rowsC39x0 : List Rw := [⟨0, 3, [], [⟨3, 0, []⟩, ⟨2, 4607182418800017408, []⟩, ⟨2, 4611686018427387904, []⟩, ⟨2, 4613937818241073152, []⟩, ⟨3, 0, [112, 114, 105, 110, 116]⟩], [(1, 0), (6, 0), (28, 1), (6, 1), (5, 1), (1, 1), (26, 1), (25, 0), (5, 1), (1, 2), (26, 1), (25, 0), (5, 1), (1, 3), (26, 1), (25, 0), (15, 3), (15, 1), (6, 2), (9, 4), (5, 0), (26, 1), (25, 0), (25, 0), (29, 0), (2, 0), (2, 0), (27, 0)]⟩, ⟨1, 1, [(1, 0)], [], [(7, 0), (5, 0), (17, 0), (8, 0), (5, 0), (2, 0), (27, 0), (2, 0), (2, 0), (27, 0)]⟩]
def srcC39x0 : List UInt8 := [108, 111, 99, 97, 108, 32, 115, 32, 61, 32, 34, 34, 32, 108, 111, 99, 97, 108, 32, 102, 117, 110, 99, 116, 105, 111, 110, 32, 102, 40, 120, 41, 32, 115, 32, 61, 32, 115, 32, 46, 46, 32, 120, 32, 114, 101, 116, 117, 114, 110, 32, 120, 32, 101, 110, 100, 32, 108, 111, 99, 97, 108, 32, 97, 32, 61, 32, 102, 40, 49, 41, 32, 43, 32, 102, 40, 50, 41, 32, 42, 32, 102, 40, 51, 41, 32, 112, 114, 105, 110, 116, 40, 115, 41]
def qC39x0a : HQ := List.replicate 6 none
def oC39x0a : List Ob := []
def uC39x0a : List UInt8 := [49, 50, 51, 10]
def qC39x0b : HQ := List.replicate 6 none
def oC39x0b : List Ob := []
def uC39x0b : List UInt8 := []
theorem cpC39x0 : CompK nsC39x0 rootC39x0 2 rowsC39x0 := by
  intro n r0 r1 r2 r3 r4 r5 r6 r7 r8 r9 r10 r11 r12
  kernel_rfl
theorem prC39x0 (src : List UInt8) (nodes0 : List Nd) : bind1 (bind1 (scanS 400 srcC39x0 0 0 []) (parT 400 src nodes0)) erP = some (nsC39x0, rootC39x0) := by kernel_rfl
theorem frC39x0 : Front srcC39x0 2 rowsC39x0 := by
  have e : rowsC39x0.map (rPut ((0 : Nat) : Int)) = rowsC39x0 := by kernel_rfl
  refine front_mk (ns := nsC39x0) (root := rootC39x0) (of_decide_eq_true (by kernel_rfl)) (e ▸ Rows.put (x := 0) (by decide) (by decide) (by decide) (by kernel_rfl) (by kernel_rfl) (of_decide_eq_true (by kernel_rfl))) (fun nodes0 => ?_) cpC39x0.all
  obtain ⟨z, hz, h⟩ := bnd1 (prC39x0 srcC39x0 nodes0)
  obtain ⟨r, hr, hz⟩ := bnd1 hz
  exact parse_of (ascii_of (by kernel_rfl)) hr nodes0 (by rw [hz]; exact h)
theorem vC39x0a : endR (coLA 1000 40 60 0 V.nil V.nil 0 qC39x0a (ld1 (pgR rowsC39x0) ts0 4)) = some ((⟨1, V.nil, 0⟩, 0, uC39x0a, 0, 1), [], oC39x0a) := by kernel_rfl
theorem obC39x0a : allOb oC39x0a := by
  unfold oC39x0a
  exact allOb_nil
theorem vC39x0b : endR (coLA 1000 40 60 0 V.nil V.nil 0 qC39x0b (ld1 (pgR rowsC39x0) ts0 3)) = some ((⟨3, V.nil, 9⟩, 0, uC39x0b, 0, 1), [], oC39x0b) := by kernel_rfl
theorem obC39x0b : allOb oC39x0b := by
  unfold oC39x0b
  exact allOb_nil
theorem opC39x0 (t : List UInt8) (c : CSt) (m : VM) (hJ : JJ c m) : Two say39 0 0 t c m := by
  exact two_mk (src := srcC39x0) (run_mk frC39x0 vC39x0a obC39x0a (by decide) (.inl ⟨rfl, rfl⟩)) (run_mk frC39x0 vC39x0b obC39x0b (by decide) (.inr ⟨rfl, rfl⟩)) c m hJ
theorem one39 {x : Nat} {t : List UInt8} (hx : x < 9218868437227405312) (hf : formatM x = some t) (c : CSt) (m : VM) (hJ : JJ c m) : Two say39 0 0 t c m := opC39x0 t c m hJ
def ns48 : List Nd := [⟨0, 0, 0, 0, 0, 0, [], 0⟩, ⟨21, 0, 0, 0, 0, 0, [], 0⟩, ⟨1, 1, 0, 0, 7, 0, [116], 0⟩, ⟨17, 0, 0, 0, 0, 0, [116], 0⟩, ⟨16, 0, 0, 0, 0, 0, [97], 0⟩, ⟨18, 3, 4, 0, 0, 0, [], 0⟩, ⟨15, 0, 0, 0, 0, -1, [], 0⟩, ⟨4, 5, 6, 0, 12, 0, [], 0⟩, ⟨17, 0, 0, 0, 0, 0, [116], 0⟩, ⟨13, 0, 0, 0, 0, 0, [], 0⟩, ⟨18, 8, 9, 0, 0, 0, [], 0⟩, ⟨15, 0, 0, 0, 0, 4607182418800017408, [], 0⟩, ⟨4, 10, 11, 0, 18, 0, [], 0⟩, ⟨17, 0, 0, 0, 0, 0, [112, 114, 105, 110, 116], 0⟩, ⟨17, 0, 0, 0, 0, 0, [116], 0⟩, ⟨16, 0, 0, 0, 0, 0, [97], 0⟩, ⟨18, 14, 15, 0, 0, 0, [], 0⟩, ⟨19, 13, 16, 0, 0, 0, [], 0⟩, ⟨5, 17, 0, 0, 24, 0, [], 0⟩, ⟨17, 0, 0, 0, 0, 0, [112, 114, 105, 110, 116], 0⟩, ⟨17, 0, 0, 0, 0, 0, [116], 0⟩, ⟨13, 0, 0, 0, 0, 0, [], 0⟩, ⟨18, 20, 21, 0, 0, 0, [], 0⟩, ⟨19, 19, 22, 0, 0, 0, [], 0⟩, ⟨5, 23, 0, 0, 30, 0, [], 0⟩, ⟨17, 0, 0, 0, 0, 0, [112, 114, 105, 110, 116], 0⟩, ⟨17, 0, 0, 0, 0, 0, [116], 0⟩, ⟨16, 0, 0, 0, 0, 0, [98], 0⟩, ⟨18, 26, 27, 0, 0, 0, [], 0⟩, ⟨19, 25, 28, 0, 0, 0, [], 0⟩, ⟨5, 29, 0, 0, 0, 0, [], 0⟩]
def root48 : Int := 2
def rows48 : List Rw := [⟨0, 1, [], [⟨3, 0, [97]⟩, ⟨2, -1, []⟩, ⟨2, 4607182418800017408, []⟩, ⟨3, 0, [112, 114, 105, 110, 116]⟩, ⟨3, 0, [98]⟩], [(14, 0), (6, 0), (5, 0), (1, 0), (1, 1), (12, 0), (5, 0), (3, 0), (1, 2), (12, 0), (9, 3), (5, 0), (1, 0), (11, 0), (26, 1), (25, 0), (25, 0), (9, 3), (5, 0), (3, 0), (11, 0), (26, 1), (25, 0), (25, 0), (9, 3), (5, 0), (1, 4), (11, 0), (26, 1), (25, 0), (25, 0), (29, 0), (2, 0), (2, 0), (27, 0)]⟩]
def q48a (x : Nat) (t : List UInt8) : HQ := [some ⟨t, [], [], 0⟩, some ⟨[], [], [], 1⟩, some ⟨[], [], [], 1⟩]
def o48a (x : Nat) (t : List UInt8) : List Ob := [.txt ⟨2, ((x : Nat) : Int), []⟩ t, .out [] t, .out (([] ++ t) ++ [10]) [49], .out (((([] ++ t) ++ [10]) ++ [49]) ++ [10]) [110, 105, 108]]
def u48a (t : List UInt8) : List UInt8 := (((((([] ++ t) ++ [10]) ++ [49]) ++ [10]) ++ [110, 105, 108]) ++ [10])
def q48b (x : Nat) (t : List UInt8) : HQ := [some ⟨t, [], [], 0⟩, some ⟨[], [], [], 1⟩, none]
def o48b (x : Nat) (t : List UInt8) : List Ob := [.txt ⟨2, ((x : Nat) : Int), []⟩ t, .out [] t, .out (([] ++ t) ++ [10]) [49]]
def u48b (t : List UInt8) : List UInt8 := (((([] ++ t) ++ [10]) ++ [49]) ++ [10])
theorem cp48 : CompK ns48 root48 1 rows48 := by
  intro n r0 r1 r2 r3 r4 r5 r6 r7 r8 r9 r10 r11 r12
  kernel_rfl
def p48_0 : List UInt8 := [108, 111, 99, 97, 108, 32, 116, 32, 61, 32, 123, 125, 32, 116, 46, 97, 32, 61, 32]
def p48_1 : List UInt8 := [32, 116, 91, 116, 114, 117, 101, 93, 32, 61, 32, 49, 32, 112, 114, 105, 110, 116, 40, 116, 46, 97, 41, 32, 112, 114, 105, 110, 116, 40, 116, 91, 116, 114, 117, 101, 93, 41, 32, 112, 114, 105, 110, 116, 40, 116, 46, 98, 41]
theorem lx48 (w : List UInt8) : scanW w 400 p48_0 0 0 [] = some (381, 19, 0, tkP 400 p48_0 0) := by kernel_rfl
theorem pr48 (x len : Nat) (src : List UInt8) (nodes0 : List Nd) : bind1 (bind1 (scanS 200 p48_1 (19 + len) 0 (tkP 400 p48_0 0 ++ [⟨3, 19, [], ((x : Nat) : Int), 0⟩])) (parT 400 src nodes0)) erP = some (ns48.map (nPut x), root48) := by kernel_rfl
theorem fr48 {x : Nat} {t : List UInt8} (hx : x < 9218868437227405312) (hn : NumT t) (hl : t.length ≤ 22) (hp : parseM t = some (x, 0)) (hL : newX [4607182418800017408] x) : Front (say48 t).src 1 (rows48.map (rPut x)) := by
  refine front_mk (ns := ns48.map (nPut x)) (root := root48) ?_ (Rows.put hx (by decide) (by decide) (by kernel_rfl) (by kernel_rfl) (of_decide_eq_true (by kernel_rfl))) (fun nodes0 => ?_) (comp_open cp48 hL (fun z => hL 4607182418800017408 (by simp) z.symm) (by kernel_rfl) (by kernel_rfl))
  · show (((p48_0 ++ t) ++ p48_1)).length ≤ 2048
    simp only [List.length_append]
    have e : p48_0.length + p48_1.length ≤ 1000 := of_decide_eq_true (by kernel_rfl)
    omega
  · show bind1 (bind1 (scanL 400 ((p48_0 ++ t) ++ p48_1) 0 0 []) (parT 400 ((p48_0 ++ t) ++ p48_1) nodes0)) erP = _
    have h := pr48 x t.length ((p48_0 ++ t) ++ p48_1) nodes0
    obtain ⟨z, hz, h⟩ := bnd1 h
    obtain ⟨r, hr, hz⟩ := bnd1 hz
    refine parse_of (r := r) (ascii_app (ascii_app (ascii_of (by kernel_rfl)) (num_ascii hn)) (ascii_of (by kernel_rfl))) ?_ nodes0 ?_
    · rw [List.append_assoc]
      exact pre_step (lx48 _) (num_step hn hl (by refine ⟨?_, ?_, ?_⟩ <;> decide) hp (of_decide_eq_true (by kernel_rfl)) hr (by decide))
    · rw [hz]; exact h
theorem v48a (x : Nat) (t : List UInt8) : endR (coLA 1000 40 60 0 V.nil V.nil 0 (q48a x t) (ld1 (pgR (rows48.map (rPut x))) ts0 3)) = some ((⟨1, V.nil, 0⟩, 0, u48a t, 0, 2), [], o48a x t) := by kernel_rfl
theorem ob48a {x : Nat} {t : List UInt8} (hx : x < 9218868437227405312) (hf : formatM x = some t) (hg : formatM (negM x) = some ([45] ++ t)) (hl : t.length ≤ 22) (hp : parseM t = some (x, 0)) : allOb (o48a x t) := by
  unfold o48a
  exact allOb_cons (txt_num (Nat.lt_trans hx (by decide)) hf) (allOb_cons (by show List.length _ + List.length _ + 1 ≤ 200; simp only [List.length_append, List.length_cons, List.length_nil]; omega) (allOb_cons (by show List.length _ + List.length _ + 1 ≤ 200; simp only [List.length_append, List.length_cons, List.length_nil]; omega) (allOb_cons (by show List.length _ + List.length _ + 1 ≤ 200; simp only [List.length_append, List.length_cons, List.length_nil]; omega) (allOb_nil))))
theorem v48b (x : Nat) (t : List UInt8) : endR (coLA 1000 40 60 0 V.nil V.nil 0 (q48b x t) (ld1 (pgR (rows48.map (rPut x))) ts0 2)) = some ((⟨3, V.nil, 9⟩, 0, u48b t, 0, 2), [], o48b x t) := by kernel_rfl
theorem ob48b {x : Nat} {t : List UInt8} (hx : x < 9218868437227405312) (hf : formatM x = some t) (hg : formatM (negM x) = some ([45] ++ t)) (hl : t.length ≤ 22) (hp : parseM t = some (x, 0)) : allOb (o48b x t) := by
  unfold o48b
  exact allOb_cons (txt_num (Nat.lt_trans hx (by decide)) hf) (allOb_cons (by show List.length _ + List.length _ + 1 ≤ 200; simp only [List.length_append, List.length_cons, List.length_nil]; omega) (allOb_cons (by show List.length _ + List.length _ + 1 ≤ 200; simp only [List.length_append, List.length_cons, List.length_nil]; omega) (allOb_nil)))
theorem op48 {x : Nat} {t : List UInt8} (hx : x < 9218868437227405312) (hf : formatM x = some t) (hL : newX [4607182418800017408] x) (c : CSt) (m : VM) (hJ : JJ c m) : Two say48 (say48 t).m (say48 t).ms t c m := by
  obtain ⟨t', f1, hn, hl, hp, hg⟩ := fmt_all hx
  rw [hf] at f1
  injection f1 with f1
  subst f1
  have ua : u48a t = (say48 t).out := by simp [u48a, say48]
  have ub : u48b t = (say48 t).short := by simp [u48b, say48]
  exact two_mk (run_mk (fr48 hx hn hl hp hL) (v48a x t) (ob48a hx hf hg hl hp) (by decide) (.inl ⟨rfl, by rw [ua]⟩)) (run_mk (fr48 hx hn hl hp hL) (v48b x t) (ob48b hx hf hg hl hp) (by decide) (.inr ⟨rfl, by rw [ub]⟩)) c m hJ
def nsC48x0 : List Nd := [⟨0, 0, 0, 0, 0, 0, [], 0⟩, ⟨21, 0, 0, 0, 0, 0, [], 0⟩, ⟨1, 1, 0, 0, 7, 0, [116], 0⟩, ⟨17, 0, 0, 0, 0, 0, [116], 0⟩, ⟨16, 0, 0, 0, 0, 0, [97], 0⟩, ⟨18, 3, 4, 0, 0, 0, [], 0⟩, ⟨15, 0, 0, 0, 0, 4607182418800017408, [], 0⟩, ⟨4, 5, 6, 0, 12, 0, [], 0⟩, ⟨17, 0, 0, 0, 0, 0, [116], 0⟩, ⟨13, 0, 0, 0, 0, 0, [], 0⟩, ⟨18, 8, 9, 0, 0, 0, [], 0⟩, ⟨15, 0, 0, 0, 0, 4607182418800017408, [], 0⟩, ⟨4, 10, 11, 0, 18, 0, [], 0⟩, ⟨17, 0, 0, 0, 0, 0, [112, 114, 105, 110, 116], 0⟩, ⟨17, 0, 0, 0, 0, 0, [116], 0⟩, ⟨16, 0, 0, 0, 0, 0, [97], 0⟩, ⟨18, 14, 15, 0, 0, 0, [], 0⟩, ⟨19, 13, 16, 0, 0, 0, [], 0⟩, ⟨5, 17, 0, 0, 24, 0, [], 0⟩, ⟨17, 0, 0, 0, 0, 0, [112, 114, 105, 110, 116], 0⟩, ⟨17, 0, 0, 0, 0, 0, [116], 0⟩, ⟨13, 0, 0, 0, 0, 0, [], 0⟩, ⟨18, 20, 21, 0, 0, 0, [], 0⟩, ⟨19, 19, 22, 0, 0, 0, [], 0⟩, ⟨5, 23, 0, 0, 30, 0, [], 0⟩, ⟨17, 0, 0, 0, 0, 0, [112, 114, 105, 110, 116], 0⟩, ⟨17, 0, 0, 0, 0, 0, [116], 0⟩, ⟨16, 0, 0, 0, 0, 0, [98], 0⟩, ⟨18, 26, 27, 0, 0, 0, [], 0⟩, ⟨19, 25, 28, 0, 0, 0, [], 0⟩, ⟨5, 29, 0, 0, 0, 0, [], 0⟩]
def rootC48x0 : Int := 2
def rowsC48x0 : List Rw := [⟨0, 1, [], [⟨3, 0, [97]⟩, ⟨2, 4607182418800017408, []⟩, ⟨3, 0, [112, 114, 105, 110, 116]⟩, ⟨3, 0, [98]⟩], [(14, 0), (6, 0), (5, 0), (1, 0), (1, 1), (12, 0), (5, 0), (3, 0), (1, 1), (12, 0), (9, 2), (5, 0), (1, 0), (11, 0), (26, 1), (25, 0), (25, 0), (9, 2), (5, 0), (3, 0), (11, 0), (26, 1), (25, 0), (25, 0), (9, 2), (5, 0), (1, 3), (11, 0), (26, 1), (25, 0), (25, 0), (29, 0), (2, 0), (2, 0), (27, 0)]⟩]
def srcC48x0 : List UInt8 := [108, 111, 99, 97, 108, 32, 116, 32, 61, 32, 123, 125, 32, 116, 46, 97, 32, 61, 32, 49, 32, 116, 91, 116, 114, 117, 101, 93, 32, 61, 32, 49, 32, 112, 114, 105, 110, 116, 40, 116, 46, 97, 41, 32, 112, 114, 105, 110, 116, 40, 116, 91, 116, 114, 117, 101, 93, 41, 32, 112, 114, 105, 110, 116, 40, 116, 46, 98, 41]
def qC48x0a : HQ := List.replicate 3 none
def oC48x0a : List Ob := []
def uC48x0a : List UInt8 := [49, 10, 49, 10, 110, 105, 108, 10]
def qC48x0b : HQ := List.replicate 3 none
def oC48x0b : List Ob := []
def uC48x0b : List UInt8 := [49, 10, 49, 10]
theorem cpC48x0 : CompK nsC48x0 rootC48x0 1 rowsC48x0 := by
  intro n r0 r1 r2 r3 r4 r5 r6 r7 r8 r9 r10 r11 r12
  kernel_rfl
theorem prC48x0 (src : List UInt8) (nodes0 : List Nd) : bind1 (bind1 (scanS 400 srcC48x0 0 0 []) (parT 400 src nodes0)) erP = some (nsC48x0, rootC48x0) := by kernel_rfl
theorem frC48x0 : Front srcC48x0 1 rowsC48x0 := by
  have e : rowsC48x0.map (rPut ((0 : Nat) : Int)) = rowsC48x0 := by kernel_rfl
  refine front_mk (ns := nsC48x0) (root := rootC48x0) (of_decide_eq_true (by kernel_rfl)) (e ▸ Rows.put (x := 0) (by decide) (by decide) (by decide) (by kernel_rfl) (by kernel_rfl) (of_decide_eq_true (by kernel_rfl))) (fun nodes0 => ?_) cpC48x0.all
  obtain ⟨z, hz, h⟩ := bnd1 (prC48x0 srcC48x0 nodes0)
  obtain ⟨r, hr, hz⟩ := bnd1 hz
  exact parse_of (ascii_of (by kernel_rfl)) hr nodes0 (by rw [hz]; exact h)
theorem vC48x0a : endR (coLA 1000 40 60 0 V.nil V.nil 0 qC48x0a (ld1 (pgR rowsC48x0) ts0 3)) = some ((⟨1, V.nil, 0⟩, 0, uC48x0a, 0, 2), [], oC48x0a) := by kernel_rfl
theorem obC48x0a : allOb oC48x0a := by
  unfold oC48x0a
  exact allOb_nil
theorem vC48x0b : endR (coLA 1000 40 60 0 V.nil V.nil 0 qC48x0b (ld1 (pgR rowsC48x0) ts0 2)) = some ((⟨3, V.nil, 9⟩, 0, uC48x0b, 0, 2), [], oC48x0b) := by kernel_rfl
theorem obC48x0b : allOb oC48x0b := by
  unfold oC48x0b
  exact allOb_nil
theorem opC48x0 (c : CSt) (m : VM) (hJ : JJ c m) : Two say48 (say48 [49]).m (say48 [49]).ms [49] c m := by
  exact two_mk (src := srcC48x0) (run_mk frC48x0 vC48x0a obC48x0a (by decide) (.inl ⟨rfl, rfl⟩)) (run_mk frC48x0 vC48x0b obC48x0b (by decide) (.inr ⟨rfl, rfl⟩)) c m hJ
theorem one48 {x : Nat} {t : List UInt8} (hx : x < 9218868437227405312) (hf : formatM x = some t) (c : CSt) (m : VM) (hJ : JJ c m) : Two say48 (say48 t).m (say48 t).ms t c m := by
  by_cases h0 : x = 4607182418800017408
  · subst h0
    have e : formatM 4607182418800017408 = some [49] := by kernel_rfl
    rw [e] at hf
    injection hf with hf
    subst hf
    exact opC48x0 c m hJ
  refine op48 hx hf ?_ c m hJ
  intro z hz
  simp only [List.mem_cons, List.not_mem_nil, or_false] at hz
  rcases hz with rfl <;> omega
end Go.Wl
