/- Plain: sentences (made by program). -/
import Derived.Test.Qxb6500573aGreatDoorBY
set_option linter.unusedSimpArgs false
set_option linter.unusedVariables false
set_option linter.unusedSectionVars false
namespace Go.Wl
open Go Go.Sl Go.Proofs
set_option linter.unusedVariables false
set_option linter.unusedSimpArgs false
set_option maxRecDepth 100000
def ns1 : List Nd := [⟨0, 0, 0, 0, 0, 0, [], 0⟩, ⟨17, 0, 0, 0, 0, 0, [112, 114, 105, 110, 116], 0⟩, ⟨15, 0, 0, 0, 0, -1, [], 0⟩, ⟨19, 1, 2, 0, 0, 0, [], 0⟩, ⟨5, 3, 0, 0, 0, 0, [], 0⟩]
def root1 : Int := 4
def rows1 : List Rw := [⟨0, 0, [], [⟨3, 0, [112, 114, 105, 110, 116]⟩, ⟨2, -1, []⟩], [(9, 0), (1, 1), (26, 1), (25, 0), (25, 0), (2, 0), (2, 0), (27, 0)]⟩]
def q1a (x : Nat) (t : List UInt8) : HQ := [some ⟨t, [], [], 0⟩]
def o1a (x : Nat) (t : List UInt8) : List Ob := [.txt ⟨2, ((x : Nat) : Int), []⟩ t, .out [] t]
def u1a (t : List UInt8) : List UInt8 := (([] ++ t) ++ [10])
def q1b (x : Nat) (t : List UInt8) : HQ := [none]
def o1b (x : Nat) (t : List UInt8) : List Ob := []
def u1b (t : List UInt8) : List UInt8 := []
theorem cp1 : CompK ns1 root1 1 rows1 := by
  intro n r0 r1 r2 r3 r4 r5 r6 r7 r8 r9 r10 r11 r12
  kernel_rfl
def p1_0 : List UInt8 := [112, 114, 105, 110, 116, 40]
def p1_1 : List UInt8 := [41]
theorem lx1 (w : List UInt8) : scanW w 400 p1_0 0 0 [] = some (394, 6, 0, tkP 400 p1_0 0) := by kernel_rfl
theorem pr1 (x len : Nat) (src : List UInt8) (nodes0 : List Nd) : bind1 (bind1 (scanS 200 p1_1 (6 + len) 0 (tkP 400 p1_0 0 ++ [⟨3, 6, [], ((x : Nat) : Int), 0⟩])) (parT 400 src nodes0)) erP = some (ns1.map (nPut x), root1) := by kernel_rfl
theorem fr1 {x : Nat} {t : List UInt8} (hx : x < 9218868437227405312) (hn : NumT t) (hl : t.length ≤ 22) (hp : parseM t = some (x, 0)) (hL : newX [4607182418800017408] x) : Front (say1 t).src 1 (rows1.map (rPut x)) := by
  refine front_mk (ns := ns1.map (nPut x)) (root := root1) ?_ (Rows.put hx (by decide) (by decide) (by kernel_rfl) (by kernel_rfl) (of_decide_eq_true (by kernel_rfl))) (fun nodes0 => ?_) (comp_open cp1 hL (fun z => hL 4607182418800017408 (by simp) z.symm) (by kernel_rfl) (by kernel_rfl))
  · show (((p1_0 ++ t) ++ p1_1)).length ≤ 2048
    simp only [List.length_append]
    have e : p1_0.length + p1_1.length ≤ 1000 := of_decide_eq_true (by kernel_rfl)
    omega
  · show bind1 (bind1 (scanL 400 ((p1_0 ++ t) ++ p1_1) 0 0 []) (parT 400 ((p1_0 ++ t) ++ p1_1) nodes0)) erP = _
    have h := pr1 x t.length ((p1_0 ++ t) ++ p1_1) nodes0
    obtain ⟨z, hz, h⟩ := bnd1 h
    obtain ⟨r, hr, hz⟩ := bnd1 hz
    refine parse_of (r := r) (ascii_app (ascii_app (ascii_of (by kernel_rfl)) (num_ascii hn)) (ascii_of (by kernel_rfl))) ?_ nodes0 ?_
    · rw [List.append_assoc]
      exact pre_step (lx1 _) (num_step hn hl (by refine ⟨?_, ?_, ?_⟩ <;> decide) hp (of_decide_eq_true (by kernel_rfl)) hr (by decide))
    · rw [hz]; exact h
theorem v1a (x : Nat) (t : List UInt8) : endR (coLA 1000 40 60 0 V.nil V.nil 0 (q1a x t) (ld1 (pgR (rows1.map (rPut x))) ts0 1)) = some ((⟨1, V.nil, 0⟩, 0, u1a t, 0, 1), [], o1a x t) := by kernel_rfl
theorem ob1a {x : Nat} {t : List UInt8} (hx : x < 9218868437227405312) (hf : formatM x = some t) (hg : formatM (negM x) = some ([45] ++ t)) (hl : t.length ≤ 22) (hp : parseM t = some (x, 0)) : allOb (o1a x t) := by
  unfold o1a
  exact allOb_cons (txt_num (Nat.lt_trans hx (by decide)) hf) (allOb_cons (by show List.length _ + List.length _ + 1 ≤ 200; simp only [List.length_append, List.length_cons, List.length_nil]; omega) (allOb_nil))
theorem v1b (x : Nat) (t : List UInt8) : endR (coLA 1000 40 60 0 V.nil V.nil 0 (q1b x t) (ld1 (pgR (rows1.map (rPut x))) ts0 0)) = some ((⟨3, V.nil, 9⟩, 0, u1b t, 0, 1), [], o1b x t) := by kernel_rfl
theorem ob1b {x : Nat} {t : List UInt8} (hx : x < 9218868437227405312) (hf : formatM x = some t) (hg : formatM (negM x) = some ([45] ++ t)) (hl : t.length ≤ 22) (hp : parseM t = some (x, 0)) : allOb (o1b x t) := by
  unfold o1b
  exact allOb_nil
theorem op1 {x : Nat} {t : List UInt8} (hx : x < 9218868437227405312) (hf : formatM x = some t) (hL : newX [4607182418800017408] x) (c : CSt) (m : VM) (hJ : JJ c m) : Two say1 0 0 t c m := by
  obtain ⟨t', f1, hn, hl, hp, hg⟩ := fmt_all hx
  rw [hf] at f1
  injection f1 with f1
  subst f1
  have ua : u1a t = (say1 t).out := by simp [u1a, say1]
  have ub : u1b t = (say1 t).short := by simp [u1b, say1]
  exact two_mk (run_mk (fr1 hx hn hl hp hL) (v1a x t) (ob1a hx hf hg hl hp) (by decide) (.inl ⟨rfl, by rw [ua]⟩)) (run_mk (fr1 hx hn hl hp hL) (v1b x t) (ob1b hx hf hg hl hp) (by decide) (.inr ⟨rfl, by rw [ub]⟩)) c m hJ
def nsC1x0 : List Nd := [⟨0, 0, 0, 0, 0, 0, [], 0⟩, ⟨17, 0, 0, 0, 0, 0, [112, 114, 105, 110, 116], 0⟩, ⟨15, 0, 0, 0, 0, 4607182418800017408, [], 0⟩, ⟨19, 1, 2, 0, 0, 0, [], 0⟩, ⟨5, 3, 0, 0, 0, 0, [], 0⟩]
def rootC1x0 : Int := 4
def rowsC1x0 : List Rw := [⟨0, 0, [], [⟨3, 0, [112, 114, 105, 110, 116]⟩, ⟨2, 4607182418800017408, []⟩], [(9, 0), (1, 1), (26, 1), (25, 0), (25, 0), (2, 0), (2, 0), (27, 0)]⟩]
def srcC1x0 : List UInt8 := [112, 114, 105, 110, 116, 40, 49, 41]
def qC1x0a : HQ := List.replicate 1 none
def oC1x0a : List Ob := []
def uC1x0a : List UInt8 := [49, 10]
def qC1x0b : HQ := List.replicate 1 none
def oC1x0b : List Ob := []
def uC1x0b : List UInt8 := []
theorem cpC1x0 : CompK nsC1x0 rootC1x0 1 rowsC1x0 := by
  intro n r0 r1 r2 r3 r4 r5 r6 r7 r8 r9 r10 r11 r12
  kernel_rfl
theorem prC1x0 (src : List UInt8) (nodes0 : List Nd) : bind1 (bind1 (scanS 400 srcC1x0 0 0 []) (parT 400 src nodes0)) erP = some (nsC1x0, rootC1x0) := by kernel_rfl
theorem frC1x0 : Front srcC1x0 1 rowsC1x0 := by
  have e : rowsC1x0.map (rPut ((0 : Nat) : Int)) = rowsC1x0 := by kernel_rfl
  refine front_mk (ns := nsC1x0) (root := rootC1x0) (of_decide_eq_true (by kernel_rfl)) (e ▸ Rows.put (x := 0) (by decide) (by decide) (by decide) (by kernel_rfl) (by kernel_rfl) (of_decide_eq_true (by kernel_rfl))) (fun nodes0 => ?_) cpC1x0.all
  obtain ⟨z, hz, h⟩ := bnd1 (prC1x0 srcC1x0 nodes0)
  obtain ⟨r, hr, hz⟩ := bnd1 hz
  exact parse_of (ascii_of (by kernel_rfl)) hr nodes0 (by rw [hz]; exact h)
theorem vC1x0a : endR (coLA 1000 40 60 0 V.nil V.nil 0 qC1x0a (ld1 (pgR rowsC1x0) ts0 1)) = some ((⟨1, V.nil, 0⟩, 0, uC1x0a, 0, 1), [], oC1x0a) := by kernel_rfl
theorem obC1x0a : allOb oC1x0a := by
  unfold oC1x0a
  exact allOb_nil
theorem vC1x0b : endR (coLA 1000 40 60 0 V.nil V.nil 0 qC1x0b (ld1 (pgR rowsC1x0) ts0 0)) = some ((⟨3, V.nil, 9⟩, 0, uC1x0b, 0, 1), [], oC1x0b) := by kernel_rfl
theorem obC1x0b : allOb oC1x0b := by
  unfold oC1x0b
  exact allOb_nil
theorem opC1x0 (c : CSt) (m : VM) (hJ : JJ c m) : Two say1 0 0 [49] c m := by
  exact two_mk (src := srcC1x0) (run_mk frC1x0 vC1x0a obC1x0a (by decide) (.inl ⟨rfl, rfl⟩)) (run_mk frC1x0 vC1x0b obC1x0b (by decide) (.inr ⟨rfl, rfl⟩)) c m hJ
theorem one1 {x : Nat} {t : List UInt8} (hx : x < 9218868437227405312) (hf : formatM x = some t) (c : CSt) (m : VM) (hJ : JJ c m) : Two say1 0 0 t c m := by
  by_cases h0 : x = 4607182418800017408
  · subst h0
    have e : formatM 4607182418800017408 = some [49] := by kernel_rfl
    rw [e] at hf
    injection hf with hf
    subst hf
    exact opC1x0 c m hJ
  refine op1 hx hf ?_ c m hJ
  intro z hz
  simp only [List.mem_cons, List.not_mem_nil, or_false] at hz
  rcases hz with rfl <;> omega
def nsC10x0 : List Nd := [⟨0, 0, 0, 0, 0, 0, [], 0⟩, ⟨16, 0, 0, 0, 0, 0, [], 0⟩, ⟨1, 1, 0, 0, 12, 0, [115], 0⟩, ⟨17, 0, 0, 0, 0, 0, [120], 0⟩, ⟨17, 0, 0, 0, 0, 0, [115], 0⟩, ⟨17, 0, 0, 0, 0, 0, [115], 0⟩, ⟨17, 0, 0, 0, 0, 0, [120], 0⟩, ⟨22, 5, 6, 0, 0, 20, [], 0⟩, ⟨4, 4, 7, 0, 10, 0, [], 0⟩, ⟨17, 0, 0, 0, 0, 0, [120], 0⟩, ⟨10, 9, 0, 0, 0, 0, [], 0⟩, ⟨20, 3, 8, 0, 0, 1, [], 0⟩, ⟨3, 11, 0, 0, 21, 0, [102], 0⟩, ⟨17, 0, 0, 0, 0, 0, [116, 121, 112, 101], 0⟩, ⟨17, 0, 0, 0, 0, 0, [102], 0⟩, ⟨15, 0, 0, 0, 0, 4607182418800017408, [], 0⟩, ⟨19, 14, 15, 0, 19, 0, [], 0⟩, ⟨17, 0, 0, 0, 0, 0, [102], 0⟩, ⟨15, 0, 0, 0, 0, 4611686018427387904, [], 0⟩, ⟨19, 17, 18, 0, 0, 0, [], 0⟩, ⟨19, 13, 16, 0, 0, 0, [], 0⟩, ⟨5, 20, 0, 0, 25, 0, [], 0⟩, ⟨17, 0, 0, 0, 0, 0, [112, 114, 105, 110, 116], 0⟩, ⟨17, 0, 0, 0, 0, 0, [115], 0⟩, ⟨19, 22, 23, 0, 0, 0, [], 0⟩, ⟨5, 24, 0, 0, 0, 0, [], 0⟩]
def rootC10x0 : Int := 2
def rowsC10x0 : List Rw := [⟨0, 2, [], [⟨3, 0, []⟩, ⟨3, 0, [116, 121, 112, 101]⟩, ⟨2, 4607182418800017408, []⟩, ⟨2, 4611686018427387904, []⟩, ⟨3, 0, [112, 114, 105, 110, 116]⟩], [(1, 0), (6, 0), (28, 1), (6, 1), (9, 1), (5, 1), (1, 2), (26, 1), (25, 0), (5, 1), (1, 3), (26, 1), (25, 0), (26, 2), (25, 0), (25, 0), (9, 4), (5, 0), (26, 1), (25, 0), (25, 0), (29, 0), (2, 0), (2, 0), (27, 0)]⟩, ⟨1, 1, [(1, 0)], [], [(7, 0), (5, 0), (17, 0), (8, 0), (5, 0), (2, 0), (27, 0), (2, 0), (2, 0), (27, 0)]⟩]
def srcC10x0 : List UInt8 := [108, 111, 99, 97, 108, 32, 115, 32, 61, 32, 34, 34, 32, 108, 111, 99, 97, 108, 32, 102, 117, 110, 99, 116, 105, 111, 110, 32, 102, 40, 120, 41, 32, 115, 32, 61, 32, 115, 32, 46, 46, 32, 120, 32, 114, 101, 116, 117, 114, 110, 32, 120, 32, 101, 110, 100, 32, 116, 121, 112, 101, 40, 102, 40, 49, 41, 44, 32, 102, 40, 50, 41, 41, 32, 112, 114, 105, 110, 116, 40, 115, 41]
def qC10x0a : HQ := List.replicate 3 none
def oC10x0a : List Ob := []
def uC10x0a : List UInt8 := [49, 50, 10]
def qC10x0b : HQ := List.replicate 3 none
def oC10x0b : List Ob := []
def uC10x0b : List UInt8 := []
theorem cpC10x0 : CompK nsC10x0 rootC10x0 2 rowsC10x0 := by
  intro n r0 r1 r2 r3 r4 r5 r6 r7 r8 r9 r10 r11 r12
  kernel_rfl
theorem prC10x0 (src : List UInt8) (nodes0 : List Nd) : bind1 (bind1 (scanS 400 srcC10x0 0 0 []) (parT 400 src nodes0)) erP = some (nsC10x0, rootC10x0) := by kernel_rfl
theorem frC10x0 : Front srcC10x0 2 rowsC10x0 := by
  have e : rowsC10x0.map (rPut ((0 : Nat) : Int)) = rowsC10x0 := by kernel_rfl
  refine front_mk (ns := nsC10x0) (root := rootC10x0) (of_decide_eq_true (by kernel_rfl)) (e ▸ Rows.put (x := 0) (by decide) (by decide) (by decide) (by kernel_rfl) (by kernel_rfl) (of_decide_eq_true (by kernel_rfl))) (fun nodes0 => ?_) cpC10x0.all
  obtain ⟨z, hz, h⟩ := bnd1 (prC10x0 srcC10x0 nodes0)
  obtain ⟨r, hr, hz⟩ := bnd1 hz
  exact parse_of (ascii_of (by kernel_rfl)) hr nodes0 (by rw [hz]; exact h)
theorem vC10x0a : endR (coLA 1000 40 60 0 V.nil V.nil 0 qC10x0a (ld1 (pgR rowsC10x0) ts0 4)) = some ((⟨1, V.nil, 0⟩, 0, uC10x0a, 0, 1), [], oC10x0a) := by kernel_rfl
theorem obC10x0a : allOb oC10x0a := by
  unfold oC10x0a
  exact allOb_nil
theorem vC10x0b : endR (coLA 1000 40 60 0 V.nil V.nil 0 qC10x0b (ld1 (pgR rowsC10x0) ts0 3)) = some ((⟨3, V.nil, 9⟩, 0, uC10x0b, 0, 1), [], oC10x0b) := by kernel_rfl
theorem obC10x0b : allOb oC10x0b := by
  unfold oC10x0b
  exact allOb_nil
theorem opC10x0 (t : List UInt8) (c : CSt) (m : VM) (hJ : JJ c m) : Two say10 0 0 t c m := by
  exact two_mk (src := srcC10x0) (run_mk frC10x0 vC10x0a obC10x0a (by decide) (.inl ⟨rfl, rfl⟩)) (run_mk frC10x0 vC10x0b obC10x0b (by decide) (.inr ⟨rfl, rfl⟩)) c m hJ
theorem one10 {x : Nat} {t : List UInt8} (hx : x < 9218868437227405312) (hf : formatM x = some t) (c : CSt) (m : VM) (hJ : JJ c m) : Two say10 0 0 t c m := opC10x0 t c m hJ
def nsC19x0 : List Nd := [⟨0, 0, 0, 0, 0, 0, [], 0⟩, ⟨15, 0, 0, 0, 2, 4607182418800017408, [], 0⟩, ⟨15, 0, 0, 0, 0, 4613937818241073152, [], 0⟩, ⟨17, 0, 0, 0, 0, 0, [112, 114, 105, 110, 116], 0⟩, ⟨17, 0, 0, 0, 0, 0, [105], 0⟩, ⟨19, 3, 4, 0, 0, 0, [], 0⟩, ⟨5, 5, 0, 0, 0, 0, [], 0⟩, ⟨8, 1, 6, 0, 0, 0, [105], 0⟩]
def rootC19x0 : Int := 7
def rowsC19x0 : List Rw := [⟨0, 4, [], [⟨2, 4607182418800017408, []⟩, ⟨2, 4613937818241073152, []⟩, ⟨3, 0, [112, 114, 105, 110, 116]⟩], [(1, 0), (6, 0), (1, 1), (6, 1), (1, 0), (6, 2), (30, 0), (31, 0), (22, 22), (5, 0), (6, 3), (9, 2), (5, 3), (26, 1), (25, 0), (25, 0), (29, 3), (5, 0), (5, 2), (15, 1), (6, 0), (21, 7), (29, 0), (2, 0), (2, 0), (27, 0)]⟩]
def srcC19x0 : List UInt8 := [102, 111, 114, 32, 105, 32, 61, 32, 49, 44, 32, 51, 32, 100, 111, 32, 112, 114, 105, 110, 116, 40, 105, 41, 32, 101, 110, 100]
def qC19x0a : HQ := List.replicate 6 none
def oC19x0a : List Ob := []
def uC19x0a : List UInt8 := [49, 10, 50, 10, 51, 10]
def qC19x0b : HQ := List.replicate 6 none
def oC19x0b : List Ob := []
def uC19x0b : List UInt8 := [49, 10, 50, 10, 51, 10]
theorem cpC19x0 : CompK nsC19x0 rootC19x0 1 rowsC19x0 := by
  intro n r0 r1 r2 r3 r4 r5 r6 r7 r8 r9 r10 r11 r12
  kernel_rfl
theorem prC19x0 (src : List UInt8) (nodes0 : List Nd) : bind1 (bind1 (scanS 400 srcC19x0 0 0 []) (parT 400 src nodes0)) erP = some (nsC19x0, rootC19x0) := by kernel_rfl
theorem frC19x0 : Front srcC19x0 1 rowsC19x0 := by
  have e : rowsC19x0.map (rPut ((0 : Nat) : Int)) = rowsC19x0 := by kernel_rfl
  refine front_mk (ns := nsC19x0) (root := rootC19x0) (of_decide_eq_true (by kernel_rfl)) (e ▸ Rows.put (x := 0) (by decide) (by decide) (by decide) (by kernel_rfl) (by kernel_rfl) (of_decide_eq_true (by kernel_rfl))) (fun nodes0 => ?_) cpC19x0.all
  obtain ⟨z, hz, h⟩ := bnd1 (prC19x0 srcC19x0 nodes0)
  obtain ⟨r, hr, hz⟩ := bnd1 hz
  exact parse_of (ascii_of (by kernel_rfl)) hr nodes0 (by rw [hz]; exact h)
theorem vC19x0a : endR (coLA 1000 40 60 0 V.nil V.nil 0 qC19x0a (ld1 (pgR rowsC19x0) ts0 6)) = some ((⟨1, V.nil, 0⟩, 0, uC19x0a, 0, 1), [], oC19x0a) := by kernel_rfl
theorem obC19x0a : allOb oC19x0a := by
  unfold oC19x0a
  exact allOb_nil
theorem vC19x0b : endR (coLA 1000 40 60 0 V.nil V.nil 0 qC19x0b (ld1 (pgR rowsC19x0) ts0 5)) = some ((⟨3, V.nil, 9⟩, 0, uC19x0b, 0, 1), [], oC19x0b) := by kernel_rfl
theorem obC19x0b : allOb oC19x0b := by
  unfold oC19x0b
  exact allOb_nil
theorem opC19x0 (t : List UInt8) (c : CSt) (m : VM) (hJ : JJ c m) : Two say19 0 0 t c m := by
  exact two_mk (src := srcC19x0) (run_mk frC19x0 vC19x0a obC19x0a (by decide) (.inl ⟨rfl, rfl⟩)) (run_mk frC19x0 vC19x0b obC19x0b (by decide) (.inr ⟨rfl, rfl⟩)) c m hJ
theorem one19 {x : Nat} {t : List UInt8} (hx : x < 9218868437227405312) (hf : formatM x = some t) (c : CSt) (m : VM) (hJ : JJ c m) : Two say19 0 0 t c m := opC19x0 t c m hJ
def nsC28x0 : List Nd := [⟨0, 0, 0, 0, 0, 0, [], 0⟩, ⟨1, 0, 0, 0, 5, 0, [97], 0⟩, ⟨17, 0, 0, 0, 0, 0, [112, 114, 105, 110, 116], 0⟩, ⟨17, 0, 0, 0, 0, 0, [97], 0⟩, ⟨19, 2, 3, 0, 0, 0, [], 0⟩, ⟨5, 4, 0, 0, 0, 0, [], 0⟩]
def rootC28x0 : Int := 1
def rowsC28x0 : List Rw := [⟨0, 1, [], [⟨3, 0, [112, 114, 105, 110, 116]⟩], [(2, 0), (6, 0), (9, 0), (5, 0), (26, 1), (25, 0), (25, 0), (29, 0), (2, 0), (2, 0), (27, 0)]⟩]
def srcC28x0 : List UInt8 := [108, 111, 99, 97, 108, 32, 97, 32, 112, 114, 105, 110, 116, 40, 97, 41]
def qC28x0a : HQ := List.replicate 1 none
def oC28x0a : List Ob := []
def uC28x0a : List UInt8 := [110, 105, 108, 10]
def qC28x0b : HQ := List.replicate 1 none
def oC28x0b : List Ob := []
def uC28x0b : List UInt8 := []
theorem cpC28x0 : CompK nsC28x0 rootC28x0 1 rowsC28x0 := by
  intro n r0 r1 r2 r3 r4 r5 r6 r7 r8 r9 r10 r11 r12
  kernel_rfl
theorem prC28x0 (src : List UInt8) (nodes0 : List Nd) : bind1 (bind1 (scanS 400 srcC28x0 0 0 []) (parT 400 src nodes0)) erP = some (nsC28x0, rootC28x0) := by kernel_rfl
theorem frC28x0 : Front srcC28x0 1 rowsC28x0 := by
  have e : rowsC28x0.map (rPut ((0 : Nat) : Int)) = rowsC28x0 := by kernel_rfl
  refine front_mk (ns := nsC28x0) (root := rootC28x0) (of_decide_eq_true (by kernel_rfl)) (e ▸ Rows.put (x := 0) (by decide) (by decide) (by decide) (by kernel_rfl) (by kernel_rfl) (of_decide_eq_true (by kernel_rfl))) (fun nodes0 => ?_) cpC28x0.all
  obtain ⟨z, hz, h⟩ := bnd1 (prC28x0 srcC28x0 nodes0)
  obtain ⟨r, hr, hz⟩ := bnd1 hz
  exact parse_of (ascii_of (by kernel_rfl)) hr nodes0 (by rw [hz]; exact h)
theorem vC28x0a : endR (coLA 1000 40 60 0 V.nil V.nil 0 qC28x0a (ld1 (pgR rowsC28x0) ts0 1)) = some ((⟨1, V.nil, 0⟩, 0, uC28x0a, 0, 1), [], oC28x0a) := by kernel_rfl
theorem obC28x0a : allOb oC28x0a := by
  unfold oC28x0a
  exact allOb_nil
theorem vC28x0b : endR (coLA 1000 40 60 0 V.nil V.nil 0 qC28x0b (ld1 (pgR rowsC28x0) ts0 0)) = some ((⟨3, V.nil, 9⟩, 0, uC28x0b, 0, 1), [], oC28x0b) := by kernel_rfl
theorem obC28x0b : allOb oC28x0b := by
  unfold oC28x0b
  exact allOb_nil
theorem opC28x0 (t : List UInt8) (c : CSt) (m : VM) (hJ : JJ c m) : Two say28 0 0 t c m := by
  exact two_mk (src := srcC28x0) (run_mk frC28x0 vC28x0a obC28x0a (by decide) (.inl ⟨rfl, rfl⟩)) (run_mk frC28x0 vC28x0b obC28x0b (by decide) (.inr ⟨rfl, rfl⟩)) c m hJ
theorem one28 {x : Nat} {t : List UInt8} (hx : x < 9218868437227405312) (hf : formatM x = some t) (c : CSt) (m : VM) (hJ : JJ c m) : Two say28 0 0 t c m := opC28x0 t c m hJ
def nsC37x0 : List Nd := [⟨0, 0, 0, 0, 0, 0, [], 0⟩, ⟨16, 0, 0, 0, 0, 0, [], 0⟩, ⟨1, 1, 0, 0, 12, 0, [115], 0⟩, ⟨17, 0, 0, 0, 0, 0, [120], 0⟩, ⟨17, 0, 0, 0, 0, 0, [115], 0⟩, ⟨17, 0, 0, 0, 0, 0, [115], 0⟩, ⟨17, 0, 0, 0, 0, 0, [120], 0⟩, ⟨22, 5, 6, 0, 0, 20, [], 0⟩, ⟨4, 4, 7, 0, 10, 0, [], 0⟩, ⟨17, 0, 0, 0, 0, 0, [120], 0⟩, ⟨10, 9, 0, 0, 0, 0, [], 0⟩, ⟨20, 3, 8, 0, 0, 1, [], 0⟩, ⟨3, 11, 0, 0, 26, 0, [102], 0⟩, ⟨17, 0, 0, 0, 0, 0, [102], 0⟩, ⟨15, 0, 0, 0, 0, 4607182418800017408, [], 0⟩, ⟨19, 13, 14, 0, 18, 0, [], 0⟩, ⟨17, 0, 0, 0, 0, 0, [102], 0⟩, ⟨15, 0, 0, 0, 0, 4611686018427387904, [], 0⟩, ⟨19, 16, 17, 0, 21, 0, [], 0⟩, ⟨17, 0, 0, 0, 0, 0, [102], 0⟩, ⟨15, 0, 0, 0, 0, 4613937818241073152, [], 0⟩, ⟨19, 19, 20, 0, 0, 0, [], 0⟩, ⟨17, 0, 0, 0, 0, 0, [112, 114, 105, 110, 116], 0⟩, ⟨17, 0, 0, 0, 0, 0, [105], 0⟩, ⟨19, 22, 23, 0, 0, 0, [], 0⟩, ⟨5, 24, 0, 0, 0, 0, [], 0⟩, ⟨8, 15, 25, 0, 30, 0, [105], 0⟩, ⟨17, 0, 0, 0, 0, 0, [112, 114, 105, 110, 116], 0⟩, ⟨17, 0, 0, 0, 0, 0, [115], 0⟩, ⟨19, 27, 28, 0, 0, 0, [], 0⟩, ⟨5, 29, 0, 0, 0, 0, [], 0⟩]
def rootC37x0 : Int := 2
def rowsC37x0 : List Rw := [⟨0, 6, [], [⟨3, 0, []⟩, ⟨2, 4607182418800017408, []⟩, ⟨2, 4611686018427387904, []⟩, ⟨2, 4613937818241073152, []⟩, ⟨3, 0, [112, 114, 105, 110, 116]⟩], [(1, 0), (6, 0), (28, 1), (6, 1), (5, 1), (1, 1), (26, 1), (25, 0), (6, 2), (5, 1), (1, 2), (26, 1), (25, 0), (6, 3), (5, 1), (1, 3), (26, 1), (25, 0), (6, 4), (30, 2), (31, 2), (22, 35), (5, 2), (6, 5), (9, 4), (5, 5), (26, 1), (25, 0), (25, 0), (29, 5), (5, 2), (5, 4), (15, 1), (6, 2), (21, 20), (29, 2), (9, 4), (5, 0), (26, 1), (25, 0), (25, 0), (29, 0), (2, 0), (2, 0), (27, 0)]⟩, ⟨1, 1, [(1, 0)], [], [(7, 0), (5, 0), (17, 0), (8, 0), (5, 0), (2, 0), (27, 0), (2, 0), (2, 0), (27, 0)]⟩]
def srcC37x0 : List UInt8 := [108, 111, 99, 97, 108, 32, 115, 32, 61, 32, 34, 34, 32, 108, 111, 99, 97, 108, 32, 102, 117, 110, 99, 116, 105, 111, 110, 32, 102, 40, 120, 41, 32, 115, 32, 61, 32, 115, 32, 46, 46, 32, 120, 32, 114, 101, 116, 117, 114, 110, 32, 120, 32, 101, 110, 100, 32, 102, 111, 114, 32, 105, 32, 61, 32, 102, 40, 49, 41, 44, 32, 102, 40, 50, 41, 44, 32, 102, 40, 51, 41, 32, 100, 111, 32, 112, 114, 105, 110, 116, 40, 105, 41, 32, 101, 110, 100, 32, 112, 114, 105, 110, 116, 40, 115, 41]
def qC37x0a : HQ := List.replicate 6 none
def oC37x0a : List Ob := []
def uC37x0a : List UInt8 := [49, 10, 49, 50, 51, 10]
def qC37x0b : HQ := List.replicate 6 none
def oC37x0b : List Ob := []
def uC37x0b : List UInt8 := [49, 10]
theorem cpC37x0 : CompK nsC37x0 rootC37x0 2 rowsC37x0 := by
  intro n r0 r1 r2 r3 r4 r5 r6 r7 r8 r9 r10 r11 r12
  kernel_rfl
theorem prC37x0 (src : List UInt8) (nodes0 : List Nd) : bind1 (bind1 (scanS 400 srcC37x0 0 0 []) (parT 400 src nodes0)) erP = some (nsC37x0, rootC37x0) := by kernel_rfl
theorem frC37x0 : Front srcC37x0 2 rowsC37x0 := by
  have e : rowsC37x0.map (rPut ((0 : Nat) : Int)) = rowsC37x0 := by kernel_rfl
  refine front_mk (ns := nsC37x0) (root := rootC37x0) (of_decide_eq_true (by kernel_rfl)) (e ▸ Rows.put (x := 0) (by decide) (by decide) (by decide) (by kernel_rfl) (by kernel_rfl) (of_decide_eq_true (by kernel_rfl))) (fun nodes0 => ?_) cpC37x0.all
  obtain ⟨z, hz, h⟩ := bnd1 (prC37x0 srcC37x0 nodes0)
  obtain ⟨r, hr, hz⟩ := bnd1 hz
  exact parse_of (ascii_of (by kernel_rfl)) hr nodes0 (by rw [hz]; exact h)
theorem vC37x0a : endR (coLA 1000 40 60 0 V.nil V.nil 0 qC37x0a (ld1 (pgR rowsC37x0) ts0 6)) = some ((⟨1, V.nil, 0⟩, 0, uC37x0a, 0, 1), [], oC37x0a) := by kernel_rfl
theorem obC37x0a : allOb oC37x0a := by
  unfold oC37x0a
  exact allOb_nil
theorem vC37x0b : endR (coLA 1000 40 60 0 V.nil V.nil 0 qC37x0b (ld1 (pgR rowsC37x0) ts0 5)) = some ((⟨3, V.nil, 9⟩, 0, uC37x0b, 0, 1), [], oC37x0b) := by kernel_rfl
theorem obC37x0b : allOb oC37x0b := by
  unfold oC37x0b
  exact allOb_nil
theorem opC37x0 (t : List UInt8) (c : CSt) (m : VM) (hJ : JJ c m) : Two say37 0 0 t c m := by
  exact two_mk (src := srcC37x0) (run_mk frC37x0 vC37x0a obC37x0a (by decide) (.inl ⟨rfl, rfl⟩)) (run_mk frC37x0 vC37x0b obC37x0b (by decide) (.inr ⟨rfl, rfl⟩)) c m hJ
theorem one37 {x : Nat} {t : List UInt8} (hx : x < 9218868437227405312) (hf : formatM x = some t) (c : CSt) (m : VM) (hJ : JJ c m) : Two say37 0 0 t c m := opC37x0 t c m hJ
def ns46 : List Nd := [⟨0, 0, 0, 0, 0, 0, [], 0⟩, ⟨15, 0, 0, 0, 0, 0, [], 0⟩, ⟨1, 1, 0, 0, 26, 0, [110], 0⟩, ⟨17, 0, 0, 0, 0, 0, [99, 114, 101, 97, 116, 101], 0⟩, ⟨15, 0, 0, 0, 0, -1, [], 0⟩, ⟨1, 4, 0, 0, 10, 0, [107], 0⟩, ⟨17, 0, 0, 0, 0, 0, [110], 0⟩, ⟨17, 0, 0, 0, 0, 0, [110], 0⟩, ⟨15, 0, 0, 0, 0, 4607182418800017408, [], 0⟩, ⟨22, 7, 8, 0, 0, 1, [], 0⟩, ⟨4, 6, 9, 0, 14, 0, [], 0⟩, ⟨17, 0, 0, 0, 0, 0, [121, 105, 101, 108, 100], 0⟩, ⟨15, 0, 0, 0, 0, 0, [], 0⟩, ⟨19, 11, 12, 0, 0, 0, [], 0⟩, ⟨5, 13, 0, 0, 19, 0, [], 0⟩, ⟨17, 0, 0, 0, 0, 0, [110], 0⟩, ⟨17, 0, 0, 0, 0, 0, [110], 0⟩, ⟨15, 0, 0, 0, 0, 4607182418800017408, [], 0⟩, ⟨22, 16, 17, 0, 0, 1, [], 0⟩, ⟨4, 15, 18, 0, 23, 0, [], 0⟩, ⟨17, 0, 0, 0, 0, 0, [112, 114, 105, 110, 116], 0⟩, ⟨17, 0, 0, 0, 0, 0, [107], 0⟩, ⟨19, 20, 21, 0, 0, 0, [], 0⟩, ⟨5, 22, 0, 0, 0, 0, [], 0⟩, ⟨20, 0, 5, 0, 0, 1, [], 0⟩, ⟨19, 3, 24, 0, 0, 0, [], 0⟩, ⟨1, 25, 0, 0, 30, 0, [99], 0⟩, ⟨17, 0, 0, 0, 0, 0, [112, 114, 105, 110, 116], 0⟩, ⟨17, 0, 0, 0, 0, 0, [110], 0⟩, ⟨19, 27, 28, 0, 0, 0, [], 0⟩, ⟨5, 29, 0, 0, 34, 0, [], 0⟩, ⟨17, 0, 0, 0, 0, 0, [114, 101, 115, 117, 109, 101], 0⟩, ⟨17, 0, 0, 0, 0, 0, [99], 0⟩, ⟨19, 31, 32, 0, 0, 0, [], 0⟩, ⟨5, 33, 0, 0, 38, 0, [], 0⟩, ⟨17, 0, 0, 0, 0, 0, [112, 114, 105, 110, 116], 0⟩, ⟨17, 0, 0, 0, 0, 0, [110], 0⟩, ⟨19, 35, 36, 0, 0, 0, [], 0⟩, ⟨5, 37, 0, 0, 42, 0, [], 0⟩, ⟨17, 0, 0, 0, 0, 0, [114, 101, 115, 117, 109, 101], 0⟩, ⟨17, 0, 0, 0, 0, 0, [99], 0⟩, ⟨19, 39, 40, 0, 0, 0, [], 0⟩, ⟨5, 41, 0, 0, 46, 0, [], 0⟩, ⟨17, 0, 0, 0, 0, 0, [112, 114, 105, 110, 116], 0⟩, ⟨17, 0, 0, 0, 0, 0, [110], 0⟩, ⟨19, 43, 44, 0, 0, 0, [], 0⟩, ⟨5, 45, 0, 0, 0, 0, [], 0⟩]
def root46 : Int := 2
def rows46 : List Rw := [⟨0, 2, [], [⟨2, 0, []⟩, ⟨3, 0, [99, 114, 101, 97, 116, 101]⟩, ⟨3, 0, [112, 114, 105, 110, 116]⟩, ⟨3, 0, [114, 101, 115, 117, 109, 101]⟩], [(1, 0), (6, 0), (9, 1), (28, 1), (26, 1), (25, 0), (6, 1), (9, 2), (5, 0), (26, 1), (25, 0), (25, 0), (9, 3), (5, 1), (26, 1), (25, 0), (25, 0), (9, 2), (5, 0), (26, 1), (25, 0), (25, 0), (9, 3), (5, 1), (26, 1), (25, 0), (25, 0), (9, 2), (5, 0), (26, 1), (25, 0), (25, 0), (29, 0), (2, 0), (2, 0), (27, 0)]⟩, ⟨0, 1, [(1, 0)], [⟨2, -1, []⟩, ⟨2, 4607182418800017408, []⟩, ⟨3, 0, [121, 105, 101, 108, 100]⟩, ⟨2, 0, []⟩, ⟨3, 0, [112, 114, 105, 110, 116]⟩], [(1, 0), (6, 0), (7, 0), (1, 1), (15, 1), (8, 0), (9, 2), (1, 3), (26, 1), (25, 0), (25, 0), (7, 0), (1, 1), (15, 1), (8, 0), (9, 4), (5, 0), (26, 1), (25, 0), (25, 0), (29, 0), (2, 0), (2, 0), (27, 0)]⟩]
def q46a (x : Nat) (t : List UInt8) : HQ := [none, none, none, none, some ⟨t, [], [], 0⟩, some ⟨[], [], [], 1⟩]
def o46a (x : Nat) (t : List UInt8) : List Ob := [.val ⟨2, 0, []⟩, .txt ⟨2, ((x : Nat) : Int), []⟩ t, .out [48, 10, 49, 10] t, .out (([48, 10, 49, 10] ++ t) ++ [10]) [50]]
def u46a (t : List UInt8) : List UInt8 := (((([48, 10, 49, 10] ++ t) ++ [10]) ++ [50]) ++ [10])
def q46b (x : Nat) (t : List UInt8) : HQ := [none, none, none, none, some ⟨t, [], [], 0⟩, none]
def o46b (x : Nat) (t : List UInt8) : List Ob := [.val ⟨2, 0, []⟩, .txt ⟨2, ((x : Nat) : Int), []⟩ t, .out [48, 10, 49, 10] t]
def u46b (t : List UInt8) : List UInt8 := (([48, 10, 49, 10] ++ t) ++ [10])
theorem cp46 : CompK ns46 root46 2 rows46 := by
  intro n r0 r1 r2 r3 r4 r5 r6 r7 r8 r9 r10 r11 r12
  kernel_rfl
def p46_0 : List UInt8 := [108, 111, 99, 97, 108, 32, 110, 32, 61, 32, 48, 32, 108, 111, 99, 97, 108, 32, 99, 32, 61, 32, 99, 114, 101, 97, 116, 101, 40, 102, 117, 110, 99, 116, 105, 111, 110, 40, 41, 32, 108, 111, 99, 97, 108, 32, 107, 32, 61, 32]
def p46_1 : List UInt8 := [32, 110, 32, 61, 32, 110, 32, 43, 32, 49, 32, 121, 105, 101, 108, 100, 40, 48, 41, 32, 110, 32, 61, 32, 110, 32, 43, 32, 49, 32, 112, 114, 105, 110, 116, 40, 107, 41, 32, 101, 110, 100, 41, 32, 112, 114, 105, 110, 116, 40, 110, 41, 32, 114, 101, 115, 117, 109, 101, 40, 99, 41, 32, 112, 114, 105, 110, 116, 40, 110, 41, 32, 114, 101, 115, 117, 109, 101, 40, 99, 41, 32, 112, 114, 105, 110, 116, 40, 110, 41]
theorem lx46 (w : List UInt8) : scanW w 400 p46_0 0 0 [] = some (350, 50, 0, tkP 400 p46_0 0) := by kernel_rfl
theorem pr46 (x len : Nat) (src : List UInt8) (nodes0 : List Nd) : bind1 (bind1 (scanS 200 p46_1 (50 + len) 0 (tkP 400 p46_0 0 ++ [⟨3, 50, [], ((x : Nat) : Int), 0⟩])) (parT 400 src nodes0)) erP = some (ns46.map (nPut x), root46) := by kernel_rfl
theorem fr46 {x : Nat} {t : List UInt8} (hx : x < 9218868437227405312) (hn : NumT t) (hl : t.length ≤ 22) (hp : parseM t = some (x, 0)) (hL : newX [0, 4607182418800017408] x) : Front (say46 t).src 2 (rows46.map (rPut x)) := by
  refine front_mk (ns := ns46.map (nPut x)) (root := root46) ?_ (Rows.put hx (by decide) (by decide) (by kernel_rfl) (by kernel_rfl) (of_decide_eq_true (by kernel_rfl))) (fun nodes0 => ?_) (comp_open cp46 hL (fun z => hL 4607182418800017408 (by simp) z.symm) (by kernel_rfl) (by kernel_rfl))
  · show (((p46_0 ++ t) ++ p46_1)).length ≤ 2048
    simp only [List.length_append]
    have e : p46_0.length + p46_1.length ≤ 1000 := of_decide_eq_true (by kernel_rfl)
    omega
  · show bind1 (bind1 (scanL 400 ((p46_0 ++ t) ++ p46_1) 0 0 []) (parT 400 ((p46_0 ++ t) ++ p46_1) nodes0)) erP = _
    have h := pr46 x t.length ((p46_0 ++ t) ++ p46_1) nodes0
    obtain ⟨z, hz, h⟩ := bnd1 h
    obtain ⟨r, hr, hz⟩ := bnd1 hz
    refine parse_of (r := r) (ascii_app (ascii_app (ascii_of (by kernel_rfl)) (num_ascii hn)) (ascii_of (by kernel_rfl))) ?_ nodes0 ?_
    · rw [List.append_assoc]
      exact pre_step (lx46 _) (num_step hn hl (by refine ⟨?_, ?_, ?_⟩ <;> decide) hp (of_decide_eq_true (by kernel_rfl)) hr (by decide))
    · rw [hz]; exact h
theorem v46a (x : Nat) (t : List UInt8) : endR (coLA 1000 40 60 0 V.nil V.nil 0 (q46a x t) (ld1 (pgR (rows46.map (rPut x))) ts0 8)) = some ((⟨1, V.nil, 0⟩, 1, u46a t, 0, 1), [], o46a x t) := by kernel_rfl
theorem ob46a {x : Nat} {t : List UInt8} (hx : x < 9218868437227405312) (hf : formatM x = some t) (hg : formatM (negM x) = some ([45] ++ t)) (hl : t.length ≤ 22) (hp : parseM t = some (x, 0)) : allOb (o46a x t) := by
  unfold o46a
  exact allOb_cons (show _ ∧ _ ∧ _ ∧ cmpM _ _ _ = _ from ⟨rfl, rfl, by decide, by kernel_rfl⟩) (allOb_cons (txt_num (Nat.lt_trans hx (by decide)) hf) (allOb_cons (by show List.length _ + List.length _ + 1 ≤ 200; simp only [List.length_append, List.length_cons, List.length_nil]; omega) (allOb_cons (by show List.length _ + List.length _ + 1 ≤ 200; simp only [List.length_append, List.length_cons, List.length_nil]; omega) (allOb_nil))))
theorem v46b (x : Nat) (t : List UInt8) : endR (coLA 1000 40 60 0 V.nil V.nil 0 (q46b x t) (ld1 (pgR (rows46.map (rPut x))) ts0 7)) = some ((⟨3, V.nil, 9⟩, 1, u46b t, 0, 1), [], o46b x t) := by kernel_rfl
theorem ob46b {x : Nat} {t : List UInt8} (hx : x < 9218868437227405312) (hf : formatM x = some t) (hg : formatM (negM x) = some ([45] ++ t)) (hl : t.length ≤ 22) (hp : parseM t = some (x, 0)) : allOb (o46b x t) := by
  unfold o46b
  exact allOb_cons (show _ ∧ _ ∧ _ ∧ cmpM _ _ _ = _ from ⟨rfl, rfl, by decide, by kernel_rfl⟩) (allOb_cons (txt_num (Nat.lt_trans hx (by decide)) hf) (allOb_cons (by show List.length _ + List.length _ + 1 ≤ 200; simp only [List.length_append, List.length_cons, List.length_nil]; omega) (allOb_nil)))
theorem op46 {x : Nat} {t : List UInt8} (hx : x < 9218868437227405312) (hf : formatM x = some t) (hL : newX [0, 4607182418800017408] x) (c : CSt) (m : VM) (hJ : JJ c m) : Two say46 (say46 t).m (say46 t).ms t c m := by
  obtain ⟨t', f1, hn, hl, hp, hg⟩ := fmt_all hx
  rw [hf] at f1
  injection f1 with f1
  subst f1
  have ua : u46a t = (say46 t).out := by simp [u46a, say46]
  have ub : u46b t = (say46 t).short := by simp [u46b, say46]
  exact two_mk (run_mk (fr46 hx hn hl hp hL) (v46a x t) (ob46a hx hf hg hl hp) (by decide) (.inl ⟨rfl, by rw [ua]⟩)) (run_mk (fr46 hx hn hl hp hL) (v46b x t) (ob46b hx hf hg hl hp) (by decide) (.inr ⟨rfl, by rw [ub]⟩)) c m hJ
def nsC46x0 : List Nd := [⟨0, 0, 0, 0, 0, 0, [], 0⟩, ⟨15, 0, 0, 0, 0, 0, [], 0⟩, ⟨1, 1, 0, 0, 26, 0, [110], 0⟩, ⟨17, 0, 0, 0, 0, 0, [99, 114, 101, 97, 116, 101], 0⟩, ⟨15, 0, 0, 0, 0, 0, [], 0⟩, ⟨1, 4, 0, 0, 10, 0, [107], 0⟩, ⟨17, 0, 0, 0, 0, 0, [110], 0⟩, ⟨17, 0, 0, 0, 0, 0, [110], 0⟩, ⟨15, 0, 0, 0, 0, 4607182418800017408, [], 0⟩, ⟨22, 7, 8, 0, 0, 1, [], 0⟩, ⟨4, 6, 9, 0, 14, 0, [], 0⟩, ⟨17, 0, 0, 0, 0, 0, [121, 105, 101, 108, 100], 0⟩, ⟨15, 0, 0, 0, 0, 0, [], 0⟩, ⟨19, 11, 12, 0, 0, 0, [], 0⟩, ⟨5, 13, 0, 0, 19, 0, [], 0⟩, ⟨17, 0, 0, 0, 0, 0, [110], 0⟩, ⟨17, 0, 0, 0, 0, 0, [110], 0⟩, ⟨15, 0, 0, 0, 0, 4607182418800017408, [], 0⟩, ⟨22, 16, 17, 0, 0, 1, [], 0⟩, ⟨4, 15, 18, 0, 23, 0, [], 0⟩, ⟨17, 0, 0, 0, 0, 0, [112, 114, 105, 110, 116], 0⟩, ⟨17, 0, 0, 0, 0, 0, [107], 0⟩, ⟨19, 20, 21, 0, 0, 0, [], 0⟩, ⟨5, 22, 0, 0, 0, 0, [], 0⟩, ⟨20, 0, 5, 0, 0, 1, [], 0⟩, ⟨19, 3, 24, 0, 0, 0, [], 0⟩, ⟨1, 25, 0, 0, 30, 0, [99], 0⟩, ⟨17, 0, 0, 0, 0, 0, [112, 114, 105, 110, 116], 0⟩, ⟨17, 0, 0, 0, 0, 0, [110], 0⟩, ⟨19, 27, 28, 0, 0, 0, [], 0⟩, ⟨5, 29, 0, 0, 34, 0, [], 0⟩, ⟨17, 0, 0, 0, 0, 0, [114, 101, 115, 117, 109, 101], 0⟩, ⟨17, 0, 0, 0, 0, 0, [99], 0⟩, ⟨19, 31, 32, 0, 0, 0, [], 0⟩, ⟨5, 33, 0, 0, 38, 0, [], 0⟩, ⟨17, 0, 0, 0, 0, 0, [112, 114, 105, 110, 116], 0⟩, ⟨17, 0, 0, 0, 0, 0, [110], 0⟩, ⟨19, 35, 36, 0, 0, 0, [], 0⟩, ⟨5, 37, 0, 0, 42, 0, [], 0⟩, ⟨17, 0, 0, 0, 0, 0, [114, 101, 115, 117, 109, 101], 0⟩, ⟨17, 0, 0, 0, 0, 0, [99], 0⟩, ⟨19, 39, 40, 0, 0, 0, [], 0⟩, ⟨5, 41, 0, 0, 46, 0, [], 0⟩, ⟨17, 0, 0, 0, 0, 0, [112, 114, 105, 110, 116], 0⟩, ⟨17, 0, 0, 0, 0, 0, [110], 0⟩, ⟨19, 43, 44, 0, 0, 0, [], 0⟩, ⟨5, 45, 0, 0, 0, 0, [], 0⟩]
def rootC46x0 : Int := 2
def rowsC46x0 : List Rw := [⟨0, 2, [], [⟨2, 0, []⟩, ⟨3, 0, [99, 114, 101, 97, 116, 101]⟩, ⟨3, 0, [112, 114, 105, 110, 116]⟩, ⟨3, 0, [114, 101, 115, 117, 109, 101]⟩], [(1, 0), (6, 0), (9, 1), (28, 1), (26, 1), (25, 0), (6, 1), (9, 2), (5, 0), (26, 1), (25, 0), (25, 0), (9, 3), (5, 1), (26, 1), (25, 0), (25, 0), (9, 2), (5, 0), (26, 1), (25, 0), (25, 0), (9, 3), (5, 1), (26, 1), (25, 0), (25, 0), (9, 2), (5, 0), (26, 1), (25, 0), (25, 0), (29, 0), (2, 0), (2, 0), (27, 0)]⟩, ⟨0, 1, [(1, 0)], [⟨2, 0, []⟩, ⟨2, 4607182418800017408, []⟩, ⟨3, 0, [121, 105, 101, 108, 100]⟩, ⟨3, 0, [112, 114, 105, 110, 116]⟩], [(1, 0), (6, 0), (7, 0), (1, 1), (15, 1), (8, 0), (9, 2), (1, 0), (26, 1), (25, 0), (25, 0), (7, 0), (1, 1), (15, 1), (8, 0), (9, 3), (5, 0), (26, 1), (25, 0), (25, 0), (29, 0), (2, 0), (2, 0), (27, 0)]⟩]
def srcC46x0 : List UInt8 := [108, 111, 99, 97, 108, 32, 110, 32, 61, 32, 48, 32, 108, 111, 99, 97, 108, 32, 99, 32, 61, 32, 99, 114, 101, 97, 116, 101, 40, 102, 117, 110, 99, 116, 105, 111, 110, 40, 41, 32, 108, 111, 99, 97, 108, 32, 107, 32, 61, 32, 48, 32, 110, 32, 61, 32, 110, 32, 43, 32, 49, 32, 121, 105, 101, 108, 100, 40, 48, 41, 32, 110, 32, 61, 32, 110, 32, 43, 32, 49, 32, 112, 114, 105, 110, 116, 40, 107, 41, 32, 101, 110, 100, 41, 32, 112, 114, 105, 110, 116, 40, 110, 41, 32, 114, 101, 115, 117, 109, 101, 40, 99, 41, 32, 112, 114, 105, 110, 116, 40, 110, 41, 32, 114, 101, 115, 117, 109, 101, 40, 99, 41, 32, 112, 114, 105, 110, 116, 40, 110, 41]
def qC46x0a : HQ := List.replicate 6 none
def oC46x0a : List Ob := [.val ⟨2, 0, []⟩]
def uC46x0a : List UInt8 := [48, 10, 49, 10, 48, 10, 50, 10]
def qC46x0b : HQ := List.replicate 6 none
def oC46x0b : List Ob := [.val ⟨2, 0, []⟩]
def uC46x0b : List UInt8 := [48, 10, 49, 10, 48, 10]
theorem cpC46x0 : CompK nsC46x0 rootC46x0 2 rowsC46x0 := by
  intro n r0 r1 r2 r3 r4 r5 r6 r7 r8 r9 r10 r11 r12
  kernel_rfl
theorem prC46x0 (src : List UInt8) (nodes0 : List Nd) : bind1 (bind1 (scanS 400 srcC46x0 0 0 []) (parT 400 src nodes0)) erP = some (nsC46x0, rootC46x0) := by kernel_rfl
theorem frC46x0 : Front srcC46x0 2 rowsC46x0 := by
  have e : rowsC46x0.map (rPut ((0 : Nat) : Int)) = rowsC46x0 := by kernel_rfl
  refine front_mk (ns := nsC46x0) (root := rootC46x0) (of_decide_eq_true (by kernel_rfl)) (e ▸ Rows.put (x := 0) (by decide) (by decide) (by decide) (by kernel_rfl) (by kernel_rfl) (of_decide_eq_true (by kernel_rfl))) (fun nodes0 => ?_) cpC46x0.all
  obtain ⟨z, hz, h⟩ := bnd1 (prC46x0 srcC46x0 nodes0)
  obtain ⟨r, hr, hz⟩ := bnd1 hz
  exact parse_of (ascii_of (by kernel_rfl)) hr nodes0 (by rw [hz]; exact h)
theorem vC46x0a : endR (coLA 1000 40 60 0 V.nil V.nil 0 qC46x0a (ld1 (pgR rowsC46x0) ts0 8)) = some ((⟨1, V.nil, 0⟩, 1, uC46x0a, 0, 1), [], oC46x0a) := by kernel_rfl
theorem obC46x0a : allOb oC46x0a := by
  unfold oC46x0a
  exact allOb_cons (show _ ∧ _ ∧ _ ∧ cmpM _ _ _ = _ from ⟨rfl, rfl, by decide, by kernel_rfl⟩) (allOb_nil)
theorem vC46x0b : endR (coLA 1000 40 60 0 V.nil V.nil 0 qC46x0b (ld1 (pgR rowsC46x0) ts0 7)) = some ((⟨3, V.nil, 9⟩, 1, uC46x0b, 0, 1), [], oC46x0b) := by kernel_rfl
theorem obC46x0b : allOb oC46x0b := by
  unfold oC46x0b
  exact allOb_cons (show _ ∧ _ ∧ _ ∧ cmpM _ _ _ = _ from ⟨rfl, rfl, by decide, by kernel_rfl⟩) (allOb_nil)
theorem opC46x0 (c : CSt) (m : VM) (hJ : JJ c m) : Two say46 (say46 [48]).m (say46 [48]).ms [48] c m := by
  exact two_mk (src := srcC46x0) (run_mk frC46x0 vC46x0a obC46x0a (by decide) (.inl ⟨rfl, rfl⟩)) (run_mk frC46x0 vC46x0b obC46x0b (by decide) (.inr ⟨rfl, rfl⟩)) c m hJ
def nsC46x1 : List Nd := [⟨0, 0, 0, 0, 0, 0, [], 0⟩, ⟨15, 0, 0, 0, 0, 0, [], 0⟩, ⟨1, 1, 0, 0, 26, 0, [110], 0⟩, ⟨17, 0, 0, 0, 0, 0, [99, 114, 101, 97, 116, 101], 0⟩, ⟨15, 0, 0, 0, 0, 4607182418800017408, [], 0⟩, ⟨1, 4, 0, 0, 10, 0, [107], 0⟩, ⟨17, 0, 0, 0, 0, 0, [110], 0⟩, ⟨17, 0, 0, 0, 0, 0, [110], 0⟩, ⟨15, 0, 0, 0, 0, 4607182418800017408, [], 0⟩, ⟨22, 7, 8, 0, 0, 1, [], 0⟩, ⟨4, 6, 9, 0, 14, 0, [], 0⟩, ⟨17, 0, 0, 0, 0, 0, [121, 105, 101, 108, 100], 0⟩, ⟨15, 0, 0, 0, 0, 0, [], 0⟩, ⟨19, 11, 12, 0, 0, 0, [], 0⟩, ⟨5, 13, 0, 0, 19, 0, [], 0⟩, ⟨17, 0, 0, 0, 0, 0, [110], 0⟩, ⟨17, 0, 0, 0, 0, 0, [110], 0⟩, ⟨15, 0, 0, 0, 0, 4607182418800017408, [], 0⟩, ⟨22, 16, 17, 0, 0, 1, [], 0⟩, ⟨4, 15, 18, 0, 23, 0, [], 0⟩, ⟨17, 0, 0, 0, 0, 0, [112, 114, 105, 110, 116], 0⟩, ⟨17, 0, 0, 0, 0, 0, [107], 0⟩, ⟨19, 20, 21, 0, 0, 0, [], 0⟩, ⟨5, 22, 0, 0, 0, 0, [], 0⟩, ⟨20, 0, 5, 0, 0, 1, [], 0⟩, ⟨19, 3, 24, 0, 0, 0, [], 0⟩, ⟨1, 25, 0, 0, 30, 0, [99], 0⟩, ⟨17, 0, 0, 0, 0, 0, [112, 114, 105, 110, 116], 0⟩, ⟨17, 0, 0, 0, 0, 0, [110], 0⟩, ⟨19, 27, 28, 0, 0, 0, [], 0⟩, ⟨5, 29, 0, 0, 34, 0, [], 0⟩, ⟨17, 0, 0, 0, 0, 0, [114, 101, 115, 117, 109, 101], 0⟩, ⟨17, 0, 0, 0, 0, 0, [99], 0⟩, ⟨19, 31, 32, 0, 0, 0, [], 0⟩, ⟨5, 33, 0, 0, 38, 0, [], 0⟩, ⟨17, 0, 0, 0, 0, 0, [112, 114, 105, 110, 116], 0⟩, ⟨17, 0, 0, 0, 0, 0, [110], 0⟩, ⟨19, 35, 36, 0, 0, 0, [], 0⟩, ⟨5, 37, 0, 0, 42, 0, [], 0⟩, ⟨17, 0, 0, 0, 0, 0, [114, 101, 115, 117, 109, 101], 0⟩, ⟨17, 0, 0, 0, 0, 0, [99], 0⟩, ⟨19, 39, 40, 0, 0, 0, [], 0⟩, ⟨5, 41, 0, 0, 46, 0, [], 0⟩, ⟨17, 0, 0, 0, 0, 0, [112, 114, 105, 110, 116], 0⟩, ⟨17, 0, 0, 0, 0, 0, [110], 0⟩, ⟨19, 43, 44, 0, 0, 0, [], 0⟩, ⟨5, 45, 0, 0, 0, 0, [], 0⟩]
def rootC46x1 : Int := 2
def rowsC46x1 : List Rw := [⟨0, 2, [], [⟨2, 0, []⟩, ⟨3, 0, [99, 114, 101, 97, 116, 101]⟩, ⟨3, 0, [112, 114, 105, 110, 116]⟩, ⟨3, 0, [114, 101, 115, 117, 109, 101]⟩], [(1, 0), (6, 0), (9, 1), (28, 1), (26, 1), (25, 0), (6, 1), (9, 2), (5, 0), (26, 1), (25, 0), (25, 0), (9, 3), (5, 1), (26, 1), (25, 0), (25, 0), (9, 2), (5, 0), (26, 1), (25, 0), (25, 0), (9, 3), (5, 1), (26, 1), (25, 0), (25, 0), (9, 2), (5, 0), (26, 1), (25, 0), (25, 0), (29, 0), (2, 0), (2, 0), (27, 0)]⟩, ⟨0, 1, [(1, 0)], [⟨2, 4607182418800017408, []⟩, ⟨3, 0, [121, 105, 101, 108, 100]⟩, ⟨2, 0, []⟩, ⟨3, 0, [112, 114, 105, 110, 116]⟩], [(1, 0), (6, 0), (7, 0), (1, 0), (15, 1), (8, 0), (9, 1), (1, 2), (26, 1), (25, 0), (25, 0), (7, 0), (1, 0), (15, 1), (8, 0), (9, 3), (5, 0), (26, 1), (25, 0), (25, 0), (29, 0), (2, 0), (2, 0), (27, 0)]⟩]
def srcC46x1 : List UInt8 := [108, 111, 99, 97, 108, 32, 110, 32, 61, 32, 48, 32, 108, 111, 99, 97, 108, 32, 99, 32, 61, 32, 99, 114, 101, 97, 116, 101, 40, 102, 117, 110, 99, 116, 105, 111, 110, 40, 41, 32, 108, 111, 99, 97, 108, 32, 107, 32, 61, 32, 49, 32, 110, 32, 61, 32, 110, 32, 43, 32, 49, 32, 121, 105, 101, 108, 100, 40, 48, 41, 32, 110, 32, 61, 32, 110, 32, 43, 32, 49, 32, 112, 114, 105, 110, 116, 40, 107, 41, 32, 101, 110, 100, 41, 32, 112, 114, 105, 110, 116, 40, 110, 41, 32, 114, 101, 115, 117, 109, 101, 40, 99, 41, 32, 112, 114, 105, 110, 116, 40, 110, 41, 32, 114, 101, 115, 117, 109, 101, 40, 99, 41, 32, 112, 114, 105, 110, 116, 40, 110, 41]
def qC46x1a : HQ := List.replicate 6 none
def oC46x1a : List Ob := [.val ⟨2, 0, []⟩]
def uC46x1a : List UInt8 := [48, 10, 49, 10, 49, 10, 50, 10]
def qC46x1b : HQ := List.replicate 6 none
def oC46x1b : List Ob := [.val ⟨2, 0, []⟩]
def uC46x1b : List UInt8 := [48, 10, 49, 10, 49, 10]
theorem cpC46x1 : CompK nsC46x1 rootC46x1 2 rowsC46x1 := by
  intro n r0 r1 r2 r3 r4 r5 r6 r7 r8 r9 r10 r11 r12
  kernel_rfl
theorem prC46x1 (src : List UInt8) (nodes0 : List Nd) : bind1 (bind1 (scanS 400 srcC46x1 0 0 []) (parT 400 src nodes0)) erP = some (nsC46x1, rootC46x1) := by kernel_rfl
theorem frC46x1 : Front srcC46x1 2 rowsC46x1 := by
  have e : rowsC46x1.map (rPut ((0 : Nat) : Int)) = rowsC46x1 := by kernel_rfl
  refine front_mk (ns := nsC46x1) (root := rootC46x1) (of_decide_eq_true (by kernel_rfl)) (e ▸ Rows.put (x := 0) (by decide) (by decide) (by decide) (by kernel_rfl) (by kernel_rfl) (of_decide_eq_true (by kernel_rfl))) (fun nodes0 => ?_) cpC46x1.all
  obtain ⟨z, hz, h⟩ := bnd1 (prC46x1 srcC46x1 nodes0)
  obtain ⟨r, hr, hz⟩ := bnd1 hz
  exact parse_of (ascii_of (by kernel_rfl)) hr nodes0 (by rw [hz]; exact h)
theorem vC46x1a : endR (coLA 1000 40 60 0 V.nil V.nil 0 qC46x1a (ld1 (pgR rowsC46x1) ts0 8)) = some ((⟨1, V.nil, 0⟩, 1, uC46x1a, 0, 1), [], oC46x1a) := by kernel_rfl
theorem obC46x1a : allOb oC46x1a := by
  unfold oC46x1a
  exact allOb_cons (show _ ∧ _ ∧ _ ∧ cmpM _ _ _ = _ from ⟨rfl, rfl, by decide, by kernel_rfl⟩) (allOb_nil)
theorem vC46x1b : endR (coLA 1000 40 60 0 V.nil V.nil 0 qC46x1b (ld1 (pgR rowsC46x1) ts0 7)) = some ((⟨3, V.nil, 9⟩, 1, uC46x1b, 0, 1), [], oC46x1b) := by kernel_rfl
theorem obC46x1b : allOb oC46x1b := by
  unfold oC46x1b
  exact allOb_cons (show _ ∧ _ ∧ _ ∧ cmpM _ _ _ = _ from ⟨rfl, rfl, by decide, by kernel_rfl⟩) (allOb_nil)
theorem opC46x1 (c : CSt) (m : VM) (hJ : JJ c m) : Two say46 (say46 [49]).m (say46 [49]).ms [49] c m := by
  exact two_mk (src := srcC46x1) (run_mk frC46x1 vC46x1a obC46x1a (by decide) (.inl ⟨rfl, rfl⟩)) (run_mk frC46x1 vC46x1b obC46x1b (by decide) (.inr ⟨rfl, rfl⟩)) c m hJ
theorem one46 {x : Nat} {t : List UInt8} (hx : x < 9218868437227405312) (hf : formatM x = some t) (c : CSt) (m : VM) (hJ : JJ c m) : Two say46 (say46 t).m (say46 t).ms t c m := by
  by_cases h0 : x = 0
  · subst h0
    have e : formatM 0 = some [48] := by kernel_rfl
    rw [e] at hf
    injection hf with hf
    subst hf
    exact opC46x0 c m hJ
  by_cases h1 : x = 4607182418800017408
  · subst h1
    have e : formatM 4607182418800017408 = some [49] := by kernel_rfl
    rw [e] at hf
    injection hf with hf
    subst hf
    exact opC46x1 c m hJ
  refine op46 hx hf ?_ c m hJ
  intro z hz
  simp only [List.mem_cons, List.not_mem_nil, or_false] at hz
  rcases hz with rfl | rfl <;> omega
end Go.Wl
