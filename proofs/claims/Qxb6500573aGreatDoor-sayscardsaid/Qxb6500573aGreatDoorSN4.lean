/- Plain: sentences (made by program). -/
import Derived.Test.Qxb6500573aGreatDoorBY
set_option linter.unusedSimpArgs false
set_option linter.unusedVariables false
set_option linter.unusedSectionVars false
namespace Go.Wl
open Go Go.Sl Go.Proofs
set_option linter.unusedVariables false
set_option linter.unusedSimpArgs false
set_option maxRecDepth 100000
def ns5 : List Nd := [⟨0, 0, 0, 0, 0, 0, [], 0⟩, ⟨1, 0, 0, 0, 10, 0, [103], 0⟩, ⟨13, 0, 0, 0, 0, 0, [], 0⟩, ⟨15, 0, 0, 0, 0, -1, [], 0⟩, ⟨1, 3, 0, 0, 9, 0, [120], 0⟩, ⟨17, 0, 0, 0, 0, 0, [103], 0⟩, ⟨17, 0, 0, 0, 0, 0, [120], 0⟩, ⟨10, 6, 0, 0, 0, 0, [], 0⟩, ⟨20, 0, 7, 0, 0, 1, [], 0⟩, ⟨4, 5, 8, 0, 0, 0, [], 0⟩, ⟨6, 2, 4, 0, 12, 0, [], 0⟩, ⟨15, 0, 0, 0, 0, 0, [], 0⟩, ⟨1, 11, 0, 0, 17, 0, [121], 0⟩, ⟨17, 0, 0, 0, 0, 0, [112, 114, 105, 110, 116], 0⟩, ⟨17, 0, 0, 0, 0, 0, [103], 0⟩, ⟨19, 14, 0, 0, 0, 0, [], 0⟩, ⟨19, 13, 15, 0, 0, 0, [], 0⟩, ⟨5, 16, 0, 0, 0, 0, [], 0⟩]
def root5 : Int := 1
def rows5 : List Rw := [⟨0, 2, [], [⟨2, -1, []⟩, ⟨2, 0, []⟩, ⟨3, 0, [112, 114, 105, 110, 116]⟩], [(2, 0), (6, 0), (3, 0), (22, 10), (1, 0), (6, 1), (28, 1), (6, 0), (29, 1), (21, 10), (1, 1), (6, 1), (9, 2), (5, 0), (26, 0), (25, 0), (26, 1), (25, 0), (25, 0), (29, 0), (2, 0), (2, 0), (27, 0)]⟩, ⟨0, 0, [(1, 1)], [], [(7, 0), (2, 0), (27, 0), (2, 0), (2, 0), (27, 0)]⟩]
def q5a (x : Nat) (t : List UInt8) : HQ := [some ⟨t, [], [], 0⟩]
def o5a (x : Nat) (t : List UInt8) : List Ob := [.txt ⟨2, ((x : Nat) : Int), []⟩ t, .out [] t]
def u5a (t : List UInt8) : List UInt8 := (([] ++ t) ++ [10])
def q5b (x : Nat) (t : List UInt8) : HQ := [none]
def o5b (x : Nat) (t : List UInt8) : List Ob := []
def u5b (t : List UInt8) : List UInt8 := []
theorem cp5 : CompK ns5 root5 2 rows5 := by
  intro n r0 r1 r2 r3 r4 r5 r6 r7 r8 r9 r10 r11 r12
  kernel_rfl
def p5_0 : List UInt8 := [108, 111, 99, 97, 108, 32, 103, 32, 105, 102, 32, 116, 114, 117, 101, 32, 116, 104, 101, 110, 32, 108, 111, 99, 97, 108, 32, 120, 32, 61, 32]
def p5_1 : List UInt8 := [32, 103, 32, 61, 32, 102, 117, 110, 99, 116, 105, 111, 110, 40, 41, 32, 114, 101, 116, 117, 114, 110, 32, 120, 32, 101, 110, 100, 32, 101, 110, 100, 32, 108, 111, 99, 97, 108, 32, 121, 32, 61, 32, 48, 32, 112, 114, 105, 110, 116, 40, 103, 40, 41, 41]
theorem lx5 (w : List UInt8) : scanW w 400 p5_0 0 0 [] = some (369, 31, 0, tkP 400 p5_0 0) := by kernel_rfl
theorem pr5 (x len : Nat) (src : List UInt8) (nodes0 : List Nd) : bind1 (bind1 (scanS 200 p5_1 (31 + len) 0 (tkP 400 p5_0 0 ++ [⟨3, 31, [], ((x : Nat) : Int), 0⟩])) (parT 400 src nodes0)) erP = some (ns5.map (nPut x), root5) := by kernel_rfl
theorem fr5 {x : Nat} {t : List UInt8} (hx : x < 9218868437227405312) (hn : NumT t) (hl : t.length ≤ 22) (hp : parseM t = some (x, 0)) (hL : newX [0, 4607182418800017408] x) : Front (say5 t).src 2 (rows5.map (rPut x)) := by
  refine front_mk (ns := ns5.map (nPut x)) (root := root5) ?_ (Rows.put hx (by decide) (by decide) (by kernel_rfl) (by kernel_rfl) (of_decide_eq_true (by kernel_rfl))) (fun nodes0 => ?_) (comp_open cp5 hL (fun z => hL 4607182418800017408 (by simp) z.symm) (by kernel_rfl) (by kernel_rfl))
  · show (((p5_0 ++ t) ++ p5_1)).length ≤ 2048
    simp only [List.length_append]
    have e : p5_0.length + p5_1.length ≤ 1000 := of_decide_eq_true (by kernel_rfl)
    omega
  · show bind1 (bind1 (scanL 400 ((p5_0 ++ t) ++ p5_1) 0 0 []) (parT 400 ((p5_0 ++ t) ++ p5_1) nodes0)) erP = _
    have h := pr5 x t.length ((p5_0 ++ t) ++ p5_1) nodes0
    obtain ⟨z, hz, h⟩ := bnd1 h
    obtain ⟨r, hr, hz⟩ := bnd1 hz
    refine parse_of (r := r) (ascii_app (ascii_app (ascii_of (by kernel_rfl)) (num_ascii hn)) (ascii_of (by kernel_rfl))) ?_ nodes0 ?_
    · rw [List.append_assoc]
      exact pre_step (lx5 _) (num_step hn hl (by refine ⟨?_, ?_, ?_⟩ <;> decide) hp (of_decide_eq_true (by kernel_rfl)) hr (by decide))
    · rw [hz]; exact h
theorem v5a (x : Nat) (t : List UInt8) : endR (coLA 1000 40 60 0 V.nil V.nil 0 (q5a x t) (ld1 (pgR (rows5.map (rPut x))) ts0 2)) = some ((⟨1, V.nil, 0⟩, 0, u5a t, 0, 1), [], o5a x t) := by kernel_rfl
theorem ob5a {x : Nat} {t : List UInt8} (hx : x < 9218868437227405312) (hf : formatM x = some t) (hg : formatM (negM x) = some ([45] ++ t)) (hl : t.length ≤ 22) (hp : parseM t = some (x, 0)) : allOb (o5a x t) := by
  unfold o5a
  exact allOb_cons (txt_num (Nat.lt_trans hx (by decide)) hf) (allOb_cons (by show List.length _ + List.length _ + 1 ≤ 200; simp only [List.length_append, List.length_cons, List.length_nil]; omega) (allOb_nil))
theorem v5b (x : Nat) (t : List UInt8) : endR (coLA 1000 40 60 0 V.nil V.nil 0 (q5b x t) (ld1 (pgR (rows5.map (rPut x))) ts0 1)) = some ((⟨3, V.nil, 9⟩, 0, u5b t, 0, 1), [], o5b x t) := by kernel_rfl
theorem ob5b {x : Nat} {t : List UInt8} (hx : x < 9218868437227405312) (hf : formatM x = some t) (hg : formatM (negM x) = some ([45] ++ t)) (hl : t.length ≤ 22) (hp : parseM t = some (x, 0)) : allOb (o5b x t) := by
  unfold o5b
  exact allOb_nil
theorem op5 {x : Nat} {t : List UInt8} (hx : x < 9218868437227405312) (hf : formatM x = some t) (hL : newX [0, 4607182418800017408] x) (c : CSt) (m : VM) (hJ : JJ c m) : Two say5 0 0 t c m := by
  obtain ⟨t', f1, hn, hl, hp, hg⟩ := fmt_all hx
  rw [hf] at f1
  injection f1 with f1
  subst f1
  have ua : u5a t = (say5 t).out := by simp [u5a, say5]
  have ub : u5b t = (say5 t).short := by simp [u5b, say5]
  exact two_mk (run_mk (fr5 hx hn hl hp hL) (v5a x t) (ob5a hx hf hg hl hp) (by decide) (.inl ⟨rfl, by rw [ua]⟩)) (run_mk (fr5 hx hn hl hp hL) (v5b x t) (ob5b hx hf hg hl hp) (by decide) (.inr ⟨rfl, by rw [ub]⟩)) c m hJ
def nsC5x0 : List Nd := [⟨0, 0, 0, 0, 0, 0, [], 0⟩, ⟨1, 0, 0, 0, 10, 0, [103], 0⟩, ⟨13, 0, 0, 0, 0, 0, [], 0⟩, ⟨15, 0, 0, 0, 0, 0, [], 0⟩, ⟨1, 3, 0, 0, 9, 0, [120], 0⟩, ⟨17, 0, 0, 0, 0, 0, [103], 0⟩, ⟨17, 0, 0, 0, 0, 0, [120], 0⟩, ⟨10, 6, 0, 0, 0, 0, [], 0⟩, ⟨20, 0, 7, 0, 0, 1, [], 0⟩, ⟨4, 5, 8, 0, 0, 0, [], 0⟩, ⟨6, 2, 4, 0, 12, 0, [], 0⟩, ⟨15, 0, 0, 0, 0, 0, [], 0⟩, ⟨1, 11, 0, 0, 17, 0, [121], 0⟩, ⟨17, 0, 0, 0, 0, 0, [112, 114, 105, 110, 116], 0⟩, ⟨17, 0, 0, 0, 0, 0, [103], 0⟩, ⟨19, 14, 0, 0, 0, 0, [], 0⟩, ⟨19, 13, 15, 0, 0, 0, [], 0⟩, ⟨5, 16, 0, 0, 0, 0, [], 0⟩]
def rootC5x0 : Int := 1
def rowsC5x0 : List Rw := [⟨0, 2, [], [⟨2, 0, []⟩, ⟨3, 0, [112, 114, 105, 110, 116]⟩], [(2, 0), (6, 0), (3, 0), (22, 10), (1, 0), (6, 1), (28, 1), (6, 0), (29, 1), (21, 10), (1, 0), (6, 1), (9, 1), (5, 0), (26, 0), (25, 0), (26, 1), (25, 0), (25, 0), (29, 0), (2, 0), (2, 0), (27, 0)]⟩, ⟨0, 0, [(1, 1)], [], [(7, 0), (2, 0), (27, 0), (2, 0), (2, 0), (27, 0)]⟩]
def srcC5x0 : List UInt8 := [108, 111, 99, 97, 108, 32, 103, 32, 105, 102, 32, 116, 114, 117, 101, 32, 116, 104, 101, 110, 32, 108, 111, 99, 97, 108, 32, 120, 32, 61, 32, 48, 32, 103, 32, 61, 32, 102, 117, 110, 99, 116, 105, 111, 110, 40, 41, 32, 114, 101, 116, 117, 114, 110, 32, 120, 32, 101, 110, 100, 32, 101, 110, 100, 32, 108, 111, 99, 97, 108, 32, 121, 32, 61, 32, 48, 32, 112, 114, 105, 110, 116, 40, 103, 40, 41, 41]
def qC5x0a : HQ := List.replicate 1 none
def oC5x0a : List Ob := []
def uC5x0a : List UInt8 := [48, 10]
def qC5x0b : HQ := List.replicate 1 none
def oC5x0b : List Ob := []
def uC5x0b : List UInt8 := []
theorem cpC5x0 : CompK nsC5x0 rootC5x0 2 rowsC5x0 := by
  intro n r0 r1 r2 r3 r4 r5 r6 r7 r8 r9 r10 r11 r12
  kernel_rfl
theorem prC5x0 (src : List UInt8) (nodes0 : List Nd) : bind1 (bind1 (scanS 400 srcC5x0 0 0 []) (parT 400 src nodes0)) erP = some (nsC5x0, rootC5x0) := by kernel_rfl
theorem frC5x0 : Front srcC5x0 2 rowsC5x0 := by
  have e : rowsC5x0.map (rPut ((0 : Nat) : Int)) = rowsC5x0 := by kernel_rfl
  refine front_mk (ns := nsC5x0) (root := rootC5x0) (of_decide_eq_true (by kernel_rfl)) (e ▸ Rows.put (x := 0) (by decide) (by decide) (by decide) (by kernel_rfl) (by kernel_rfl) (of_decide_eq_true (by kernel_rfl))) (fun nodes0 => ?_) cpC5x0.all
  obtain ⟨z, hz, h⟩ := bnd1 (prC5x0 srcC5x0 nodes0)
  obtain ⟨r, hr, hz⟩ := bnd1 hz
  exact parse_of (ascii_of (by kernel_rfl)) hr nodes0 (by rw [hz]; exact h)
theorem vC5x0a : endR (coLA 1000 40 60 0 V.nil V.nil 0 qC5x0a (ld1 (pgR rowsC5x0) ts0 2)) = some ((⟨1, V.nil, 0⟩, 0, uC5x0a, 0, 1), [], oC5x0a) := by kernel_rfl
theorem obC5x0a : allOb oC5x0a := by
  unfold oC5x0a
  exact allOb_nil
theorem vC5x0b : endR (coLA 1000 40 60 0 V.nil V.nil 0 qC5x0b (ld1 (pgR rowsC5x0) ts0 1)) = some ((⟨3, V.nil, 9⟩, 0, uC5x0b, 0, 1), [], oC5x0b) := by kernel_rfl
theorem obC5x0b : allOb oC5x0b := by
  unfold oC5x0b
  exact allOb_nil
theorem opC5x0 (c : CSt) (m : VM) (hJ : JJ c m) : Two say5 0 0 [48] c m := by
  exact two_mk (src := srcC5x0) (run_mk frC5x0 vC5x0a obC5x0a (by decide) (.inl ⟨rfl, rfl⟩)) (run_mk frC5x0 vC5x0b obC5x0b (by decide) (.inr ⟨rfl, rfl⟩)) c m hJ
def nsC5x1 : List Nd := [⟨0, 0, 0, 0, 0, 0, [], 0⟩, ⟨1, 0, 0, 0, 10, 0, [103], 0⟩, ⟨13, 0, 0, 0, 0, 0, [], 0⟩, ⟨15, 0, 0, 0, 0, 4607182418800017408, [], 0⟩, ⟨1, 3, 0, 0, 9, 0, [120], 0⟩, ⟨17, 0, 0, 0, 0, 0, [103], 0⟩, ⟨17, 0, 0, 0, 0, 0, [120], 0⟩, ⟨10, 6, 0, 0, 0, 0, [], 0⟩, ⟨20, 0, 7, 0, 0, 1, [], 0⟩, ⟨4, 5, 8, 0, 0, 0, [], 0⟩, ⟨6, 2, 4, 0, 12, 0, [], 0⟩, ⟨15, 0, 0, 0, 0, 0, [], 0⟩, ⟨1, 11, 0, 0, 17, 0, [121], 0⟩, ⟨17, 0, 0, 0, 0, 0, [112, 114, 105, 110, 116], 0⟩, ⟨17, 0, 0, 0, 0, 0, [103], 0⟩, ⟨19, 14, 0, 0, 0, 0, [], 0⟩, ⟨19, 13, 15, 0, 0, 0, [], 0⟩, ⟨5, 16, 0, 0, 0, 0, [], 0⟩]
def rootC5x1 : Int := 1
def rowsC5x1 : List Rw := [⟨0, 2, [], [⟨2, 4607182418800017408, []⟩, ⟨2, 0, []⟩, ⟨3, 0, [112, 114, 105, 110, 116]⟩], [(2, 0), (6, 0), (3, 0), (22, 10), (1, 0), (6, 1), (28, 1), (6, 0), (29, 1), (21, 10), (1, 1), (6, 1), (9, 2), (5, 0), (26, 0), (25, 0), (26, 1), (25, 0), (25, 0), (29, 0), (2, 0), (2, 0), (27, 0)]⟩, ⟨0, 0, [(1, 1)], [], [(7, 0), (2, 0), (27, 0), (2, 0), (2, 0), (27, 0)]⟩]
def srcC5x1 : List UInt8 := [108, 111, 99, 97, 108, 32, 103, 32, 105, 102, 32, 116, 114, 117, 101, 32, 116, 104, 101, 110, 32, 108, 111, 99, 97, 108, 32, 120, 32, 61, 32, 49, 32, 103, 32, 61, 32, 102, 117, 110, 99, 116, 105, 111, 110, 40, 41, 32, 114, 101, 116, 117, 114, 110, 32, 120, 32, 101, 110, 100, 32, 101, 110, 100, 32, 108, 111, 99, 97, 108, 32, 121, 32, 61, 32, 48, 32, 112, 114, 105, 110, 116, 40, 103, 40, 41, 41]
def qC5x1a : HQ := List.replicate 1 none
def oC5x1a : List Ob := []
def uC5x1a : List UInt8 := [49, 10]
def qC5x1b : HQ := List.replicate 1 none
def oC5x1b : List Ob := []
def uC5x1b : List UInt8 := []
theorem cpC5x1 : CompK nsC5x1 rootC5x1 2 rowsC5x1 := by
  intro n r0 r1 r2 r3 r4 r5 r6 r7 r8 r9 r10 r11 r12
  kernel_rfl
theorem prC5x1 (src : List UInt8) (nodes0 : List Nd) : bind1 (bind1 (scanS 400 srcC5x1 0 0 []) (parT 400 src nodes0)) erP = some (nsC5x1, rootC5x1) := by kernel_rfl
theorem frC5x1 : Front srcC5x1 2 rowsC5x1 := by
  have e : rowsC5x1.map (rPut ((0 : Nat) : Int)) = rowsC5x1 := by kernel_rfl
  refine front_mk (ns := nsC5x1) (root := rootC5x1) (of_decide_eq_true (by kernel_rfl)) (e ▸ Rows.put (x := 0) (by decide) (by decide) (by decide) (by kernel_rfl) (by kernel_rfl) (of_decide_eq_true (by kernel_rfl))) (fun nodes0 => ?_) cpC5x1.all
  obtain ⟨z, hz, h⟩ := bnd1 (prC5x1 srcC5x1 nodes0)
  obtain ⟨r, hr, hz⟩ := bnd1 hz
  exact parse_of (ascii_of (by kernel_rfl)) hr nodes0 (by rw [hz]; exact h)
theorem vC5x1a : endR (coLA 1000 40 60 0 V.nil V.nil 0 qC5x1a (ld1 (pgR rowsC5x1) ts0 2)) = some ((⟨1, V.nil, 0⟩, 0, uC5x1a, 0, 1), [], oC5x1a) := by kernel_rfl
theorem obC5x1a : allOb oC5x1a := by
  unfold oC5x1a
  exact allOb_nil
theorem vC5x1b : endR (coLA 1000 40 60 0 V.nil V.nil 0 qC5x1b (ld1 (pgR rowsC5x1) ts0 1)) = some ((⟨3, V.nil, 9⟩, 0, uC5x1b, 0, 1), [], oC5x1b) := by kernel_rfl
theorem obC5x1b : allOb oC5x1b := by
  unfold oC5x1b
  exact allOb_nil
theorem opC5x1 (c : CSt) (m : VM) (hJ : JJ c m) : Two say5 0 0 [49] c m := by
  exact two_mk (src := srcC5x1) (run_mk frC5x1 vC5x1a obC5x1a (by decide) (.inl ⟨rfl, rfl⟩)) (run_mk frC5x1 vC5x1b obC5x1b (by decide) (.inr ⟨rfl, rfl⟩)) c m hJ
theorem one5 {x : Nat} {t : List UInt8} (hx : x < 9218868437227405312) (hf : formatM x = some t) (c : CSt) (m : VM) (hJ : JJ c m) : Two say5 0 0 t c m := by
  by_cases h0 : x = 0
  · subst h0
    have e : formatM 0 = some [48] := by kernel_rfl
    rw [e] at hf
    injection hf with hf
    subst hf
    exact opC5x0 c m hJ
  by_cases h1 : x = 4607182418800017408
  · subst h1
    have e : formatM 4607182418800017408 = some [49] := by kernel_rfl
    rw [e] at hf
    injection hf with hf
    subst hf
    exact opC5x1 c m hJ
  refine op5 hx hf ?_ c m hJ
  intro z hz
  simp only [List.mem_cons, List.not_mem_nil, or_false] at hz
  rcases hz with rfl | rfl <;> omega
def ns14 : List Nd := [⟨0, 0, 0, 0, 0, 0, [], 0⟩, ⟨17, 0, 0, 0, 0, 0, [116, 121, 112, 101], 0⟩, ⟨17, 0, 0, 0, 0, 0, [112, 114, 105, 110, 116], 0⟩, ⟨15, 0, 0, 0, 0, -1, [], 0⟩, ⟨19, 2, 3, 0, 0, 0, [], 0⟩, ⟨19, 1, 4, 0, 0, 0, [], 0⟩, ⟨5, 5, 0, 0, 0, 0, [], 0⟩]
def root14 : Int := 6
def rows14 : List Rw := [⟨0, 0, [], [⟨3, 0, [116, 121, 112, 101]⟩, ⟨3, 0, [112, 114, 105, 110, 116]⟩, ⟨2, -1, []⟩], [(9, 0), (9, 1), (1, 2), (26, 1), (25, 0), (26, 1), (25, 0), (25, 0), (2, 0), (2, 0), (27, 0)]⟩]
def q14a (x : Nat) (t : List UInt8) : HQ := [some ⟨t, [], [], 0⟩]
def o14a (x : Nat) (t : List UInt8) : List Ob := [.txt ⟨2, ((x : Nat) : Int), []⟩ t, .out [] t]
def u14a (t : List UInt8) : List UInt8 := (([] ++ t) ++ [10])
def q14b (x : Nat) (t : List UInt8) : HQ := [some ⟨t, [], [], 0⟩]
def o14b (x : Nat) (t : List UInt8) : List Ob := [.txt ⟨2, ((x : Nat) : Int), []⟩ t, .out [] t]
def u14b (t : List UInt8) : List UInt8 := (([] ++ t) ++ [10])
theorem cp14 : CompK ns14 root14 1 rows14 := by
  intro n r0 r1 r2 r3 r4 r5 r6 r7 r8 r9 r10 r11 r12
  kernel_rfl
def p14_0 : List UInt8 := [116, 121, 112, 101, 40, 112, 114, 105, 110, 116, 40]
def p14_1 : List UInt8 := [41, 41]
theorem lx14 (w : List UInt8) : scanW w 400 p14_0 0 0 [] = some (389, 11, 0, tkP 400 p14_0 0) := by kernel_rfl
theorem pr14 (x len : Nat) (src : List UInt8) (nodes0 : List Nd) : bind1 (bind1 (scanS 200 p14_1 (11 + len) 0 (tkP 400 p14_0 0 ++ [⟨3, 11, [], ((x : Nat) : Int), 0⟩])) (parT 400 src nodes0)) erP = some (ns14.map (nPut x), root14) := by kernel_rfl
theorem fr14 {x : Nat} {t : List UInt8} (hx : x < 9218868437227405312) (hn : NumT t) (hl : t.length ≤ 22) (hp : parseM t = some (x, 0)) (hL : newX [4607182418800017408] x) : Front (say14 t).src 1 (rows14.map (rPut x)) := by
  refine front_mk (ns := ns14.map (nPut x)) (root := root14) ?_ (Rows.put hx (by decide) (by decide) (by kernel_rfl) (by kernel_rfl) (of_decide_eq_true (by kernel_rfl))) (fun nodes0 => ?_) (comp_open cp14 hL (fun z => hL 4607182418800017408 (by simp) z.symm) (by kernel_rfl) (by kernel_rfl))
  · show (((p14_0 ++ t) ++ p14_1)).length ≤ 2048
    simp only [List.length_append]
    have e : p14_0.length + p14_1.length ≤ 1000 := of_decide_eq_true (by kernel_rfl)
    omega
  · show bind1 (bind1 (scanL 400 ((p14_0 ++ t) ++ p14_1) 0 0 []) (parT 400 ((p14_0 ++ t) ++ p14_1) nodes0)) erP = _
    have h := pr14 x t.length ((p14_0 ++ t) ++ p14_1) nodes0
    obtain ⟨z, hz, h⟩ := bnd1 h
    obtain ⟨r, hr, hz⟩ := bnd1 hz
    refine parse_of (r := r) (ascii_app (ascii_app (ascii_of (by kernel_rfl)) (num_ascii hn)) (ascii_of (by kernel_rfl))) ?_ nodes0 ?_
    · rw [List.append_assoc]
      exact pre_step (lx14 _) (num_step hn hl (by refine ⟨?_, ?_, ?_⟩ <;> decide) hp (of_decide_eq_true (by kernel_rfl)) hr (by decide))
    · rw [hz]; exact h
theorem v14a (x : Nat) (t : List UInt8) : endR (coLA 1000 40 60 0 V.nil V.nil 0 (q14a x t) (ld1 (pgR (rows14.map (rPut x))) ts0 2)) = some ((⟨1, V.nil, 0⟩, 0, u14a t, 0, 1), [], o14a x t) := by kernel_rfl
theorem ob14a {x : Nat} {t : List UInt8} (hx : x < 9218868437227405312) (hf : formatM x = some t) (hg : formatM (negM x) = some ([45] ++ t)) (hl : t.length ≤ 22) (hp : parseM t = some (x, 0)) : allOb (o14a x t) := by
  unfold o14a
  exact allOb_cons (txt_num (Nat.lt_trans hx (by decide)) hf) (allOb_cons (by show List.length _ + List.length _ + 1 ≤ 200; simp only [List.length_append, List.length_cons, List.length_nil]; omega) (allOb_nil))
theorem v14b (x : Nat) (t : List UInt8) : endR (coLA 1000 40 60 0 V.nil V.nil 0 (q14b x t) (ld1 (pgR (rows14.map (rPut x))) ts0 1)) = some ((⟨3, V.nil, 9⟩, 0, u14b t, 0, 1), [], o14b x t) := by kernel_rfl
theorem ob14b {x : Nat} {t : List UInt8} (hx : x < 9218868437227405312) (hf : formatM x = some t) (hg : formatM (negM x) = some ([45] ++ t)) (hl : t.length ≤ 22) (hp : parseM t = some (x, 0)) : allOb (o14b x t) := by
  unfold o14b
  exact allOb_cons (txt_num (Nat.lt_trans hx (by decide)) hf) (allOb_cons (by show List.length _ + List.length _ + 1 ≤ 200; simp only [List.length_append, List.length_cons, List.length_nil]; omega) (allOb_nil))
theorem op14 {x : Nat} {t : List UInt8} (hx : x < 9218868437227405312) (hf : formatM x = some t) (hL : newX [4607182418800017408] x) (c : CSt) (m : VM) (hJ : JJ c m) : Two say14 0 0 t c m := by
  obtain ⟨t', f1, hn, hl, hp, hg⟩ := fmt_all hx
  rw [hf] at f1
  injection f1 with f1
  subst f1
  have ua : u14a t = (say14 t).out := by simp [u14a, say14]
  have ub : u14b t = (say14 t).short := by simp [u14b, say14]
  exact two_mk (run_mk (fr14 hx hn hl hp hL) (v14a x t) (ob14a hx hf hg hl hp) (by decide) (.inl ⟨rfl, by rw [ua]⟩)) (run_mk (fr14 hx hn hl hp hL) (v14b x t) (ob14b hx hf hg hl hp) (by decide) (.inr ⟨rfl, by rw [ub]⟩)) c m hJ
def nsC14x0 : List Nd := [⟨0, 0, 0, 0, 0, 0, [], 0⟩, ⟨17, 0, 0, 0, 0, 0, [116, 121, 112, 101], 0⟩, ⟨17, 0, 0, 0, 0, 0, [112, 114, 105, 110, 116], 0⟩, ⟨15, 0, 0, 0, 0, 4607182418800017408, [], 0⟩, ⟨19, 2, 3, 0, 0, 0, [], 0⟩, ⟨19, 1, 4, 0, 0, 0, [], 0⟩, ⟨5, 5, 0, 0, 0, 0, [], 0⟩]
def rootC14x0 : Int := 6
def rowsC14x0 : List Rw := [⟨0, 0, [], [⟨3, 0, [116, 121, 112, 101]⟩, ⟨3, 0, [112, 114, 105, 110, 116]⟩, ⟨2, 4607182418800017408, []⟩], [(9, 0), (9, 1), (1, 2), (26, 1), (25, 0), (26, 1), (25, 0), (25, 0), (2, 0), (2, 0), (27, 0)]⟩]
def srcC14x0 : List UInt8 := [116, 121, 112, 101, 40, 112, 114, 105, 110, 116, 40, 49, 41, 41]
def qC14x0a : HQ := List.replicate 1 none
def oC14x0a : List Ob := []
def uC14x0a : List UInt8 := [49, 10]
def qC14x0b : HQ := List.replicate 1 none
def oC14x0b : List Ob := []
def uC14x0b : List UInt8 := [49, 10]
theorem cpC14x0 : CompK nsC14x0 rootC14x0 1 rowsC14x0 := by
  intro n r0 r1 r2 r3 r4 r5 r6 r7 r8 r9 r10 r11 r12
  kernel_rfl
theorem prC14x0 (src : List UInt8) (nodes0 : List Nd) : bind1 (bind1 (scanS 400 srcC14x0 0 0 []) (parT 400 src nodes0)) erP = some (nsC14x0, rootC14x0) := by kernel_rfl
theorem frC14x0 : Front srcC14x0 1 rowsC14x0 := by
  have e : rowsC14x0.map (rPut ((0 : Nat) : Int)) = rowsC14x0 := by kernel_rfl
  refine front_mk (ns := nsC14x0) (root := rootC14x0) (of_decide_eq_true (by kernel_rfl)) (e ▸ Rows.put (x := 0) (by decide) (by decide) (by decide) (by kernel_rfl) (by kernel_rfl) (of_decide_eq_true (by kernel_rfl))) (fun nodes0 => ?_) cpC14x0.all
  obtain ⟨z, hz, h⟩ := bnd1 (prC14x0 srcC14x0 nodes0)
  obtain ⟨r, hr, hz⟩ := bnd1 hz
  exact parse_of (ascii_of (by kernel_rfl)) hr nodes0 (by rw [hz]; exact h)
theorem vC14x0a : endR (coLA 1000 40 60 0 V.nil V.nil 0 qC14x0a (ld1 (pgR rowsC14x0) ts0 2)) = some ((⟨1, V.nil, 0⟩, 0, uC14x0a, 0, 1), [], oC14x0a) := by kernel_rfl
theorem obC14x0a : allOb oC14x0a := by
  unfold oC14x0a
  exact allOb_nil
theorem vC14x0b : endR (coLA 1000 40 60 0 V.nil V.nil 0 qC14x0b (ld1 (pgR rowsC14x0) ts0 1)) = some ((⟨3, V.nil, 9⟩, 0, uC14x0b, 0, 1), [], oC14x0b) := by kernel_rfl
theorem obC14x0b : allOb oC14x0b := by
  unfold oC14x0b
  exact allOb_nil
theorem opC14x0 (c : CSt) (m : VM) (hJ : JJ c m) : Two say14 0 0 [49] c m := by
  exact two_mk (src := srcC14x0) (run_mk frC14x0 vC14x0a obC14x0a (by decide) (.inl ⟨rfl, rfl⟩)) (run_mk frC14x0 vC14x0b obC14x0b (by decide) (.inr ⟨rfl, rfl⟩)) c m hJ
theorem one14 {x : Nat} {t : List UInt8} (hx : x < 9218868437227405312) (hf : formatM x = some t) (c : CSt) (m : VM) (hJ : JJ c m) : Two say14 0 0 t c m := by
  by_cases h0 : x = 4607182418800017408
  · subst h0
    have e : formatM 4607182418800017408 = some [49] := by kernel_rfl
    rw [e] at hf
    injection hf with hf
    subst hf
    exact opC14x0 c m hJ
  refine op14 hx hf ?_ c m hJ
  intro z hz
  simp only [List.mem_cons, List.not_mem_nil, or_false] at hz
  rcases hz with rfl <;> omega
def ns23 : List Nd := [⟨0, 0, 0, 0, 0, 0, [], 0⟩, ⟨17, 0, 0, 0, 0, 0, [112, 114, 105, 110, 116], 0⟩, ⟨15, 0, 0, 0, 0, -1, [], 0⟩, ⟨23, 2, 0, 0, 0, 1, [], 0⟩, ⟨19, 1, 3, 0, 0, 0, [], 0⟩, ⟨5, 4, 0, 0, 10, 0, [], 0⟩, ⟨17, 0, 0, 0, 0, 0, [112, 114, 105, 110, 116], 0⟩, ⟨12, 0, 0, 0, 0, 0, [], 0⟩, ⟨23, 7, 0, 0, 0, 2, [], 0⟩, ⟨19, 6, 8, 0, 0, 0, [], 0⟩, ⟨5, 9, 0, 0, 15, 0, [], 0⟩, ⟨17, 0, 0, 0, 0, 0, [112, 114, 105, 110, 116], 0⟩, ⟨16, 0, 0, 0, 0, 0, [97, 98, 99], 0⟩, ⟨23, 12, 0, 0, 0, 3, [], 0⟩, ⟨19, 11, 13, 0, 0, 0, [], 0⟩, ⟨5, 14, 0, 0, 0, 0, [], 0⟩]
def root23 : Int := 5
def rows23 : List Rw := [⟨0, 0, [], [⟨3, 0, [112, 114, 105, 110, 116]⟩, ⟨2, -1, []⟩, ⟨3, 0, [97, 98, 99]⟩], [(9, 0), (1, 1), (19, 0), (26, 1), (25, 0), (25, 0), (9, 0), (2, 0), (18, 0), (26, 1), (25, 0), (25, 0), (9, 0), (1, 2), (20, 0), (26, 1), (25, 0), (25, 0), (2, 0), (2, 0), (27, 0)]⟩]
def q23a (x : Nat) (t : List UInt8) : HQ := [some ⟨[], [], [], 0⟩, some ⟨([45] ++ t), [], [], 0⟩, some ⟨[], [], [], 1⟩, some ⟨[], [], [], 1⟩]
def o23a (x : Nat) (t : List UInt8) : List Ob := [.rng ((x : Nat) : Int), .txt ⟨2, ((negM x : Nat) : Int), []⟩ ([45] ++ t), .out [] ([45] ++ t), .out (([] ++ ([45] ++ t)) ++ [10]) [116, 114, 117, 101], .out (((([] ++ ([45] ++ t)) ++ [10]) ++ [116, 114, 117, 101]) ++ [10]) [51]]
def u23a (t : List UInt8) : List UInt8 := (((((([] ++ ([45] ++ t)) ++ [10]) ++ [116, 114, 117, 101]) ++ [10]) ++ [51]) ++ [10])
def q23b (x : Nat) (t : List UInt8) : HQ := [some ⟨[], [], [], 0⟩, some ⟨([45] ++ t), [], [], 0⟩, some ⟨[], [], [], 1⟩, none]
def o23b (x : Nat) (t : List UInt8) : List Ob := [.rng ((x : Nat) : Int), .txt ⟨2, ((negM x : Nat) : Int), []⟩ ([45] ++ t), .out [] ([45] ++ t), .out (([] ++ ([45] ++ t)) ++ [10]) [116, 114, 117, 101]]
def u23b (t : List UInt8) : List UInt8 := (((([] ++ ([45] ++ t)) ++ [10]) ++ [116, 114, 117, 101]) ++ [10])
theorem cp23 : CompK ns23 root23 1 rows23 := by
  intro n r0 r1 r2 r3 r4 r5 r6 r7 r8 r9 r10 r11 r12
  kernel_rfl
def p23_0 : List UInt8 := [112, 114, 105, 110, 116, 40, 45]
def p23_1 : List UInt8 := [41, 32, 112, 114, 105, 110, 116, 40, 110, 111, 116, 32, 110, 105, 108, 41, 32, 112, 114, 105, 110, 116, 40, 35, 34, 97, 98, 99, 34, 41]
def p23_m : List UInt8 := [112, 114, 105, 110, 116, 40]
theorem lx23 (w : List UInt8) : scanW w 400 p23_m 0 0 [] = some (394, 6, 0, tkP 400 p23_m 0) := by kernel_rfl
theorem pr23 (x len : Nat) (src : List UInt8) (nodes0 : List Nd) : bind1 (bind1 (scanS 200 p23_1 (6 + 1 + len) 0 ((tkP 400 p23_m 0 ++ [⟨32, 6, [], 0, 0⟩]) ++ [⟨3, 6 + 1, [], ((x : Nat) : Int), 0⟩])) (parT 400 src nodes0)) erP = some (ns23.map (nPut x), root23) := by kernel_rfl
theorem fr23 {x : Nat} {t : List UInt8} (hx : x < 9218868437227405312) (hn : NumT t) (hl : t.length ≤ 22) (hp : parseM t = some (x, 0)) (hL : newX [4607182418800017408] x) : Front (say23 t).src 1 (rows23.map (rPut x)) := by
  refine front_mk (ns := ns23.map (nPut x)) (root := root23) ?_ (Rows.put hx (by decide) (by decide) (by kernel_rfl) (by kernel_rfl) (of_decide_eq_true (by kernel_rfl))) (fun nodes0 => ?_) (comp_open cp23 hL (fun z => hL 4607182418800017408 (by simp) z.symm) (by kernel_rfl) (by kernel_rfl))
  · show (((p23_0 ++ t) ++ p23_1)).length ≤ 2048
    simp only [List.length_append]
    have e : p23_0.length + p23_1.length ≤ 1000 := of_decide_eq_true (by kernel_rfl)
    omega
  · show bind1 (bind1 (scanL 400 ((p23_0 ++ t) ++ p23_1) 0 0 []) (parT 400 ((p23_0 ++ t) ++ p23_1) nodes0)) erP = _
    have h := pr23 x t.length ((p23_0 ++ t) ++ p23_1) nodes0
    obtain ⟨z, hz, h⟩ := bnd1 h
    obtain ⟨r, hr, hz⟩ := bnd1 hz
    refine parse_of (r := r) (ascii_app (ascii_app (ascii_of (by kernel_rfl)) (num_ascii hn)) (ascii_of (by kernel_rfl))) ?_ nodes0 ?_
    · obtain ⟨c0, u0, htc, hc0⟩ := num_head hn
      have e : ((p23_0 ++ t) ++ p23_1) = p23_m ++ (45 :: (t ++ p23_1)) := by simp [p23_0, p23_m]
      rw [e]
      refine pre_step (lx23 _) (minus_step (n := 393) ?_ (of_decide_eq_true (by kernel_rfl)) (num_step hn hl (by refine ⟨?_, ?_, ?_⟩ <;> decide) hp (of_decide_eq_true (by kernel_rfl)) hr (by decide)))
      rw [htc]
      intro z
      injection z with z _
      subst z
      revert hc0
      decide
    · rw [hz]; exact h
theorem v23a (x : Nat) (t : List UInt8) : endR (coLA 1000 40 60 0 V.nil V.nil 0 (q23a x t) (ld1 (pgR (rows23.map (rPut x))) ts0 3)) = some ((⟨1, V.nil, 0⟩, 0, u23a t, 0, 1), [], o23a x t) := by kernel_rfl
theorem ob23a {x : Nat} {t : List UInt8} (hx : x < 9218868437227405312) (hf : formatM x = some t) (hg : formatM (negM x) = some ([45] ++ t)) (hl : t.length ≤ 22) (hp : parseM t = some (x, 0)) : allOb (o23a x t) := by
  unfold o23a
  exact allOb_cons (show _ ∧ _ from ⟨Int.natCast_nonneg _, Int.ofNat_lt.2 (Nat.lt_trans hx (by decide))⟩) (allOb_cons (txt_num (neg_lt hx) hg) (allOb_cons (by show List.length _ + List.length _ + 1 ≤ 200; simp only [List.length_append, List.length_cons, List.length_nil]; omega) (allOb_cons (by show List.length _ + List.length _ + 1 ≤ 200; simp only [List.length_append, List.length_cons, List.length_nil]; omega) (allOb_cons (by show List.length _ + List.length _ + 1 ≤ 200; simp only [List.length_append, List.length_cons, List.length_nil]; omega) (allOb_nil)))))
theorem v23b (x : Nat) (t : List UInt8) : endR (coLA 1000 40 60 0 V.nil V.nil 0 (q23b x t) (ld1 (pgR (rows23.map (rPut x))) ts0 2)) = some ((⟨3, V.nil, 9⟩, 0, u23b t, 0, 1), [], o23b x t) := by kernel_rfl
theorem ob23b {x : Nat} {t : List UInt8} (hx : x < 9218868437227405312) (hf : formatM x = some t) (hg : formatM (negM x) = some ([45] ++ t)) (hl : t.length ≤ 22) (hp : parseM t = some (x, 0)) : allOb (o23b x t) := by
  unfold o23b
  exact allOb_cons (show _ ∧ _ from ⟨Int.natCast_nonneg _, Int.ofNat_lt.2 (Nat.lt_trans hx (by decide))⟩) (allOb_cons (txt_num (neg_lt hx) hg) (allOb_cons (by show List.length _ + List.length _ + 1 ≤ 200; simp only [List.length_append, List.length_cons, List.length_nil]; omega) (allOb_cons (by show List.length _ + List.length _ + 1 ≤ 200; simp only [List.length_append, List.length_cons, List.length_nil]; omega) (allOb_nil))))
theorem op23 {x : Nat} {t : List UInt8} (hx : x < 9218868437227405312) (hf : formatM x = some t) (hL : newX [4607182418800017408] x) (c : CSt) (m : VM) (hJ : JJ c m) : Two say23 0 0 t c m := by
  obtain ⟨t', f1, hn, hl, hp, hg⟩ := fmt_all hx
  rw [hf] at f1
  injection f1 with f1
  subst f1
  have ua : u23a t = (say23 t).out := by simp [u23a, say23]
  have ub : u23b t = (say23 t).short := by simp [u23b, say23]
  exact two_mk (run_mk (fr23 hx hn hl hp hL) (v23a x t) (ob23a hx hf hg hl hp) (by decide) (.inl ⟨rfl, by rw [ua]⟩)) (run_mk (fr23 hx hn hl hp hL) (v23b x t) (ob23b hx hf hg hl hp) (by decide) (.inr ⟨rfl, by rw [ub]⟩)) c m hJ
def nsC23x0 : List Nd := [⟨0, 0, 0, 0, 0, 0, [], 0⟩, ⟨17, 0, 0, 0, 0, 0, [112, 114, 105, 110, 116], 0⟩, ⟨15, 0, 0, 0, 0, 4607182418800017408, [], 0⟩, ⟨23, 2, 0, 0, 0, 1, [], 0⟩, ⟨19, 1, 3, 0, 0, 0, [], 0⟩, ⟨5, 4, 0, 0, 10, 0, [], 0⟩, ⟨17, 0, 0, 0, 0, 0, [112, 114, 105, 110, 116], 0⟩, ⟨12, 0, 0, 0, 0, 0, [], 0⟩, ⟨23, 7, 0, 0, 0, 2, [], 0⟩, ⟨19, 6, 8, 0, 0, 0, [], 0⟩, ⟨5, 9, 0, 0, 15, 0, [], 0⟩, ⟨17, 0, 0, 0, 0, 0, [112, 114, 105, 110, 116], 0⟩, ⟨16, 0, 0, 0, 0, 0, [97, 98, 99], 0⟩, ⟨23, 12, 0, 0, 0, 3, [], 0⟩, ⟨19, 11, 13, 0, 0, 0, [], 0⟩, ⟨5, 14, 0, 0, 0, 0, [], 0⟩]
def rootC23x0 : Int := 5
def rowsC23x0 : List Rw := [⟨0, 0, [], [⟨3, 0, [112, 114, 105, 110, 116]⟩, ⟨2, 4607182418800017408, []⟩, ⟨3, 0, [97, 98, 99]⟩], [(9, 0), (1, 1), (19, 0), (26, 1), (25, 0), (25, 0), (9, 0), (2, 0), (18, 0), (26, 1), (25, 0), (25, 0), (9, 0), (1, 2), (20, 0), (26, 1), (25, 0), (25, 0), (2, 0), (2, 0), (27, 0)]⟩]
def srcC23x0 : List UInt8 := [112, 114, 105, 110, 116, 40, 45, 49, 41, 32, 112, 114, 105, 110, 116, 40, 110, 111, 116, 32, 110, 105, 108, 41, 32, 112, 114, 105, 110, 116, 40, 35, 34, 97, 98, 99, 34, 41]
def qC23x0a : HQ := List.replicate 4 none
def oC23x0a : List Ob := []
def uC23x0a : List UInt8 := [45, 49, 10, 116, 114, 117, 101, 10, 51, 10]
def qC23x0b : HQ := List.replicate 4 none
def oC23x0b : List Ob := []
def uC23x0b : List UInt8 := [45, 49, 10, 116, 114, 117, 101, 10]
theorem cpC23x0 : CompK nsC23x0 rootC23x0 1 rowsC23x0 := by
  intro n r0 r1 r2 r3 r4 r5 r6 r7 r8 r9 r10 r11 r12
  kernel_rfl
theorem prC23x0 (src : List UInt8) (nodes0 : List Nd) : bind1 (bind1 (scanS 400 srcC23x0 0 0 []) (parT 400 src nodes0)) erP = some (nsC23x0, rootC23x0) := by kernel_rfl
theorem frC23x0 : Front srcC23x0 1 rowsC23x0 := by
  have e : rowsC23x0.map (rPut ((0 : Nat) : Int)) = rowsC23x0 := by kernel_rfl
  refine front_mk (ns := nsC23x0) (root := rootC23x0) (of_decide_eq_true (by kernel_rfl)) (e ▸ Rows.put (x := 0) (by decide) (by decide) (by decide) (by kernel_rfl) (by kernel_rfl) (of_decide_eq_true (by kernel_rfl))) (fun nodes0 => ?_) cpC23x0.all
  obtain ⟨z, hz, h⟩ := bnd1 (prC23x0 srcC23x0 nodes0)
  obtain ⟨r, hr, hz⟩ := bnd1 hz
  exact parse_of (ascii_of (by kernel_rfl)) hr nodes0 (by rw [hz]; exact h)
theorem vC23x0a : endR (coLA 1000 40 60 0 V.nil V.nil 0 qC23x0a (ld1 (pgR rowsC23x0) ts0 3)) = some ((⟨1, V.nil, 0⟩, 0, uC23x0a, 0, 1), [], oC23x0a) := by kernel_rfl
theorem obC23x0a : allOb oC23x0a := by
  unfold oC23x0a
  exact allOb_nil
theorem vC23x0b : endR (coLA 1000 40 60 0 V.nil V.nil 0 qC23x0b (ld1 (pgR rowsC23x0) ts0 2)) = some ((⟨3, V.nil, 9⟩, 0, uC23x0b, 0, 1), [], oC23x0b) := by kernel_rfl
theorem obC23x0b : allOb oC23x0b := by
  unfold oC23x0b
  exact allOb_nil
theorem opC23x0 (c : CSt) (m : VM) (hJ : JJ c m) : Two say23 0 0 [49] c m := by
  exact two_mk (src := srcC23x0) (run_mk frC23x0 vC23x0a obC23x0a (by decide) (.inl ⟨rfl, rfl⟩)) (run_mk frC23x0 vC23x0b obC23x0b (by decide) (.inr ⟨rfl, rfl⟩)) c m hJ
theorem one23 {x : Nat} {t : List UInt8} (hx : x < 9218868437227405312) (hf : formatM x = some t) (c : CSt) (m : VM) (hJ : JJ c m) : Two say23 0 0 t c m := by
  by_cases h0 : x = 4607182418800017408
  · subst h0
    have e : formatM 4607182418800017408 = some [49] := by kernel_rfl
    rw [e] at hf
    injection hf with hf
    subst hf
    exact opC23x0 c m hJ
  refine op23 hx hf ?_ c m hJ
  intro z hz
  simp only [List.mem_cons, List.not_mem_nil, or_false] at hz
  rcases hz with rfl <;> omega
def ns32 : List Nd := [⟨0, 0, 0, 0, 0, 0, [], 0⟩, ⟨21, 0, 0, 0, 0, 0, [], 0⟩, ⟨1, 1, 0, 0, 7, 0, [116], 0⟩, ⟨17, 0, 0, 0, 0, 0, [116], 0⟩, ⟨15, 0, 0, 0, 0, 4607182418800017408, [], 0⟩, ⟨18, 3, 4, 0, 0, 0, [], 0⟩, ⟨15, 0, 0, 0, 0, -1, [], 0⟩, ⟨4, 5, 6, 0, 12, 0, [], 0⟩, ⟨17, 0, 0, 0, 0, 0, [116], 0⟩, ⟨16, 0, 0, 0, 0, 0, [120], 0⟩, ⟨18, 8, 9, 0, 0, 0, [], 0⟩, ⟨15, 0, 0, 0, 0, 4611686018427387904, [], 0⟩, ⟨4, 10, 11, 0, 18, 0, [], 0⟩, ⟨17, 0, 0, 0, 0, 0, [112, 114, 105, 110, 116], 0⟩, ⟨17, 0, 0, 0, 0, 0, [116], 0⟩, ⟨15, 0, 0, 0, 0, 4607182418800017408, [], 0⟩, ⟨18, 14, 15, 0, 0, 0, [], 0⟩, ⟨19, 13, 16, 0, 0, 0, [], 0⟩, ⟨5, 17, 0, 0, 24, 0, [], 0⟩, ⟨17, 0, 0, 0, 0, 0, [112, 114, 105, 110, 116], 0⟩, ⟨17, 0, 0, 0, 0, 0, [116], 0⟩, ⟨16, 0, 0, 0, 0, 0, [120], 0⟩, ⟨18, 20, 21, 0, 0, 0, [], 0⟩, ⟨19, 19, 22, 0, 0, 0, [], 0⟩, ⟨5, 23, 0, 0, 0, 0, [], 0⟩]
def root32 : Int := 2
def rows32 : List Rw := [⟨0, 1, [], [⟨2, 4607182418800017408, []⟩, ⟨2, -1, []⟩, ⟨3, 0, [120]⟩, ⟨2, 4611686018427387904, []⟩, ⟨3, 0, [112, 114, 105, 110, 116]⟩], [(14, 0), (6, 0), (5, 0), (1, 0), (1, 1), (12, 0), (5, 0), (1, 2), (1, 3), (12, 0), (9, 4), (5, 0), (1, 0), (11, 0), (26, 1), (25, 0), (25, 0), (9, 4), (5, 0), (1, 2), (11, 0), (26, 1), (25, 0), (25, 0), (29, 0), (2, 0), (2, 0), (27, 0)]⟩]
def q32a (x : Nat) (t : List UInt8) : HQ := [some ⟨t, [], [], 0⟩, some ⟨[], [], [], 1⟩]
def o32a (x : Nat) (t : List UInt8) : List Ob := [.txt ⟨2, ((x : Nat) : Int), []⟩ t, .out [] t, .out (([] ++ t) ++ [10]) [50]]
def u32a (t : List UInt8) : List UInt8 := (((([] ++ t) ++ [10]) ++ [50]) ++ [10])
def q32b (x : Nat) (t : List UInt8) : HQ := [some ⟨t, [], [], 0⟩, none]
def o32b (x : Nat) (t : List UInt8) : List Ob := [.txt ⟨2, ((x : Nat) : Int), []⟩ t, .out [] t]
def u32b (t : List UInt8) : List UInt8 := (([] ++ t) ++ [10])
theorem cp32 : CompK ns32 root32 1 rows32 := by
  intro n r0 r1 r2 r3 r4 r5 r6 r7 r8 r9 r10 r11 r12
  kernel_rfl
def p32_0 : List UInt8 := [108, 111, 99, 97, 108, 32, 116, 32, 61, 32, 123, 125, 32, 116, 91, 49, 93, 32, 61, 32]
def p32_1 : List UInt8 := [32, 116, 46, 120, 32, 61, 32, 50, 32, 112, 114, 105, 110, 116, 40, 116, 91, 49, 93, 41, 32, 112, 114, 105, 110, 116, 40, 116, 46, 120, 41]
theorem lx32 (w : List UInt8) : scanW w 400 p32_0 0 0 [] = some (380, 20, 0, tkP 400 p32_0 0) := by kernel_rfl
theorem pr32 (x len : Nat) (src : List UInt8) (nodes0 : List Nd) : bind1 (bind1 (scanS 200 p32_1 (20 + len) 0 (tkP 400 p32_0 0 ++ [⟨3, 20, [], ((x : Nat) : Int), 0⟩])) (parT 400 src nodes0)) erP = some (ns32.map (nPut x), root32) := by kernel_rfl
theorem fr32 {x : Nat} {t : List UInt8} (hx : x < 9218868437227405312) (hn : NumT t) (hl : t.length ≤ 22) (hp : parseM t = some (x, 0)) (hL : newX [4607182418800017408, 4611686018427387904] x) : Front (say32 t).src 1 (rows32.map (rPut x)) := by
  refine front_mk (ns := ns32.map (nPut x)) (root := root32) ?_ (Rows.put hx (by decide) (by decide) (by kernel_rfl) (by kernel_rfl) (of_decide_eq_true (by kernel_rfl))) (fun nodes0 => ?_) (comp_open cp32 hL (fun z => hL 4607182418800017408 (by simp) z.symm) (by kernel_rfl) (by kernel_rfl))
  · show (((p32_0 ++ t) ++ p32_1)).length ≤ 2048
    simp only [List.length_append]
    have e : p32_0.length + p32_1.length ≤ 1000 := of_decide_eq_true (by kernel_rfl)
    omega
  · show bind1 (bind1 (scanL 400 ((p32_0 ++ t) ++ p32_1) 0 0 []) (parT 400 ((p32_0 ++ t) ++ p32_1) nodes0)) erP = _
    have h := pr32 x t.length ((p32_0 ++ t) ++ p32_1) nodes0
    obtain ⟨z, hz, h⟩ := bnd1 h
    obtain ⟨r, hr, hz⟩ := bnd1 hz
    refine parse_of (r := r) (ascii_app (ascii_app (ascii_of (by kernel_rfl)) (num_ascii hn)) (ascii_of (by kernel_rfl))) ?_ nodes0 ?_
    · rw [List.append_assoc]
      exact pre_step (lx32 _) (num_step hn hl (by refine ⟨?_, ?_, ?_⟩ <;> decide) hp (of_decide_eq_true (by kernel_rfl)) hr (by decide))
    · rw [hz]; exact h
theorem v32a (x : Nat) (t : List UInt8) : endR (coLA 1000 40 60 0 V.nil V.nil 0 (q32a x t) (ld1 (pgR (rows32.map (rPut x))) ts0 2)) = some ((⟨1, V.nil, 0⟩, 0, u32a t, 0, 2), [], o32a x t) := by kernel_rfl
theorem ob32a {x : Nat} {t : List UInt8} (hx : x < 9218868437227405312) (hf : formatM x = some t) (hg : formatM (negM x) = some ([45] ++ t)) (hl : t.length ≤ 22) (hp : parseM t = some (x, 0)) : allOb (o32a x t) := by
  unfold o32a
  exact allOb_cons (txt_num (Nat.lt_trans hx (by decide)) hf) (allOb_cons (by show List.length _ + List.length _ + 1 ≤ 200; simp only [List.length_append, List.length_cons, List.length_nil]; omega) (allOb_cons (by show List.length _ + List.length _ + 1 ≤ 200; simp only [List.length_append, List.length_cons, List.length_nil]; omega) (allOb_nil)))
theorem v32b (x : Nat) (t : List UInt8) : endR (coLA 1000 40 60 0 V.nil V.nil 0 (q32b x t) (ld1 (pgR (rows32.map (rPut x))) ts0 1)) = some ((⟨3, V.nil, 9⟩, 0, u32b t, 0, 2), [], o32b x t) := by kernel_rfl
theorem ob32b {x : Nat} {t : List UInt8} (hx : x < 9218868437227405312) (hf : formatM x = some t) (hg : formatM (negM x) = some ([45] ++ t)) (hl : t.length ≤ 22) (hp : parseM t = some (x, 0)) : allOb (o32b x t) := by
  unfold o32b
  exact allOb_cons (txt_num (Nat.lt_trans hx (by decide)) hf) (allOb_cons (by show List.length _ + List.length _ + 1 ≤ 200; simp only [List.length_append, List.length_cons, List.length_nil]; omega) (allOb_nil))
theorem op32 {x : Nat} {t : List UInt8} (hx : x < 9218868437227405312) (hf : formatM x = some t) (hL : newX [4607182418800017408, 4611686018427387904] x) (c : CSt) (m : VM) (hJ : JJ c m) : Two say32 0 0 t c m := by
  obtain ⟨t', f1, hn, hl, hp, hg⟩ := fmt_all hx
  rw [hf] at f1
  injection f1 with f1
  subst f1
  have ua : u32a t = (say32 t).out := by simp [u32a, say32]
  have ub : u32b t = (say32 t).short := by simp [u32b, say32]
  exact two_mk (run_mk (fr32 hx hn hl hp hL) (v32a x t) (ob32a hx hf hg hl hp) (by decide) (.inl ⟨rfl, by rw [ua]⟩)) (run_mk (fr32 hx hn hl hp hL) (v32b x t) (ob32b hx hf hg hl hp) (by decide) (.inr ⟨rfl, by rw [ub]⟩)) c m hJ
def nsC32x0 : List Nd := [⟨0, 0, 0, 0, 0, 0, [], 0⟩, ⟨21, 0, 0, 0, 0, 0, [], 0⟩, ⟨1, 1, 0, 0, 7, 0, [116], 0⟩, ⟨17, 0, 0, 0, 0, 0, [116], 0⟩, ⟨15, 0, 0, 0, 0, 4607182418800017408, [], 0⟩, ⟨18, 3, 4, 0, 0, 0, [], 0⟩, ⟨15, 0, 0, 0, 0, 4607182418800017408, [], 0⟩, ⟨4, 5, 6, 0, 12, 0, [], 0⟩, ⟨17, 0, 0, 0, 0, 0, [116], 0⟩, ⟨16, 0, 0, 0, 0, 0, [120], 0⟩, ⟨18, 8, 9, 0, 0, 0, [], 0⟩, ⟨15, 0, 0, 0, 0, 4611686018427387904, [], 0⟩, ⟨4, 10, 11, 0, 18, 0, [], 0⟩, ⟨17, 0, 0, 0, 0, 0, [112, 114, 105, 110, 116], 0⟩, ⟨17, 0, 0, 0, 0, 0, [116], 0⟩, ⟨15, 0, 0, 0, 0, 4607182418800017408, [], 0⟩, ⟨18, 14, 15, 0, 0, 0, [], 0⟩, ⟨19, 13, 16, 0, 0, 0, [], 0⟩, ⟨5, 17, 0, 0, 24, 0, [], 0⟩, ⟨17, 0, 0, 0, 0, 0, [112, 114, 105, 110, 116], 0⟩, ⟨17, 0, 0, 0, 0, 0, [116], 0⟩, ⟨16, 0, 0, 0, 0, 0, [120], 0⟩, ⟨18, 20, 21, 0, 0, 0, [], 0⟩, ⟨19, 19, 22, 0, 0, 0, [], 0⟩, ⟨5, 23, 0, 0, 0, 0, [], 0⟩]
def rootC32x0 : Int := 2
def rowsC32x0 : List Rw := [⟨0, 1, [], [⟨2, 4607182418800017408, []⟩, ⟨3, 0, [120]⟩, ⟨2, 4611686018427387904, []⟩, ⟨3, 0, [112, 114, 105, 110, 116]⟩], [(14, 0), (6, 0), (5, 0), (1, 0), (1, 0), (12, 0), (5, 0), (1, 1), (1, 2), (12, 0), (9, 3), (5, 0), (1, 0), (11, 0), (26, 1), (25, 0), (25, 0), (9, 3), (5, 0), (1, 1), (11, 0), (26, 1), (25, 0), (25, 0), (29, 0), (2, 0), (2, 0), (27, 0)]⟩]
def srcC32x0 : List UInt8 := [108, 111, 99, 97, 108, 32, 116, 32, 61, 32, 123, 125, 32, 116, 91, 49, 93, 32, 61, 32, 49, 32, 116, 46, 120, 32, 61, 32, 50, 32, 112, 114, 105, 110, 116, 40, 116, 91, 49, 93, 41, 32, 112, 114, 105, 110, 116, 40, 116, 46, 120, 41]
def qC32x0a : HQ := List.replicate 2 none
def oC32x0a : List Ob := []
def uC32x0a : List UInt8 := [49, 10, 50, 10]
def qC32x0b : HQ := List.replicate 2 none
def oC32x0b : List Ob := []
def uC32x0b : List UInt8 := [49, 10]
theorem cpC32x0 : CompK nsC32x0 rootC32x0 1 rowsC32x0 := by
  intro n r0 r1 r2 r3 r4 r5 r6 r7 r8 r9 r10 r11 r12
  kernel_rfl
theorem prC32x0 (src : List UInt8) (nodes0 : List Nd) : bind1 (bind1 (scanS 400 srcC32x0 0 0 []) (parT 400 src nodes0)) erP = some (nsC32x0, rootC32x0) := by kernel_rfl
theorem frC32x0 : Front srcC32x0 1 rowsC32x0 := by
  have e : rowsC32x0.map (rPut ((0 : Nat) : Int)) = rowsC32x0 := by kernel_rfl
  refine front_mk (ns := nsC32x0) (root := rootC32x0) (of_decide_eq_true (by kernel_rfl)) (e ▸ Rows.put (x := 0) (by decide) (by decide) (by decide) (by kernel_rfl) (by kernel_rfl) (of_decide_eq_true (by kernel_rfl))) (fun nodes0 => ?_) cpC32x0.all
  obtain ⟨z, hz, h⟩ := bnd1 (prC32x0 srcC32x0 nodes0)
  obtain ⟨r, hr, hz⟩ := bnd1 hz
  exact parse_of (ascii_of (by kernel_rfl)) hr nodes0 (by rw [hz]; exact h)
theorem vC32x0a : endR (coLA 1000 40 60 0 V.nil V.nil 0 qC32x0a (ld1 (pgR rowsC32x0) ts0 2)) = some ((⟨1, V.nil, 0⟩, 0, uC32x0a, 0, 2), [], oC32x0a) := by kernel_rfl
theorem obC32x0a : allOb oC32x0a := by
  unfold oC32x0a
  exact allOb_nil
theorem vC32x0b : endR (coLA 1000 40 60 0 V.nil V.nil 0 qC32x0b (ld1 (pgR rowsC32x0) ts0 1)) = some ((⟨3, V.nil, 9⟩, 0, uC32x0b, 0, 2), [], oC32x0b) := by kernel_rfl
theorem obC32x0b : allOb oC32x0b := by
  unfold oC32x0b
  exact allOb_nil
theorem opC32x0 (c : CSt) (m : VM) (hJ : JJ c m) : Two say32 0 0 [49] c m := by
  exact two_mk (src := srcC32x0) (run_mk frC32x0 vC32x0a obC32x0a (by decide) (.inl ⟨rfl, rfl⟩)) (run_mk frC32x0 vC32x0b obC32x0b (by decide) (.inr ⟨rfl, rfl⟩)) c m hJ
def nsC32x1 : List Nd := [⟨0, 0, 0, 0, 0, 0, [], 0⟩, ⟨21, 0, 0, 0, 0, 0, [], 0⟩, ⟨1, 1, 0, 0, 7, 0, [116], 0⟩, ⟨17, 0, 0, 0, 0, 0, [116], 0⟩, ⟨15, 0, 0, 0, 0, 4607182418800017408, [], 0⟩, ⟨18, 3, 4, 0, 0, 0, [], 0⟩, ⟨15, 0, 0, 0, 0, 4611686018427387904, [], 0⟩, ⟨4, 5, 6, 0, 12, 0, [], 0⟩, ⟨17, 0, 0, 0, 0, 0, [116], 0⟩, ⟨16, 0, 0, 0, 0, 0, [120], 0⟩, ⟨18, 8, 9, 0, 0, 0, [], 0⟩, ⟨15, 0, 0, 0, 0, 4611686018427387904, [], 0⟩, ⟨4, 10, 11, 0, 18, 0, [], 0⟩, ⟨17, 0, 0, 0, 0, 0, [112, 114, 105, 110, 116], 0⟩, ⟨17, 0, 0, 0, 0, 0, [116], 0⟩, ⟨15, 0, 0, 0, 0, 4607182418800017408, [], 0⟩, ⟨18, 14, 15, 0, 0, 0, [], 0⟩, ⟨19, 13, 16, 0, 0, 0, [], 0⟩, ⟨5, 17, 0, 0, 24, 0, [], 0⟩, ⟨17, 0, 0, 0, 0, 0, [112, 114, 105, 110, 116], 0⟩, ⟨17, 0, 0, 0, 0, 0, [116], 0⟩, ⟨16, 0, 0, 0, 0, 0, [120], 0⟩, ⟨18, 20, 21, 0, 0, 0, [], 0⟩, ⟨19, 19, 22, 0, 0, 0, [], 0⟩, ⟨5, 23, 0, 0, 0, 0, [], 0⟩]
def rootC32x1 : Int := 2
def rowsC32x1 : List Rw := [⟨0, 1, [], [⟨2, 4607182418800017408, []⟩, ⟨2, 4611686018427387904, []⟩, ⟨3, 0, [120]⟩, ⟨3, 0, [112, 114, 105, 110, 116]⟩], [(14, 0), (6, 0), (5, 0), (1, 0), (1, 1), (12, 0), (5, 0), (1, 2), (1, 1), (12, 0), (9, 3), (5, 0), (1, 0), (11, 0), (26, 1), (25, 0), (25, 0), (9, 3), (5, 0), (1, 2), (11, 0), (26, 1), (25, 0), (25, 0), (29, 0), (2, 0), (2, 0), (27, 0)]⟩]
def srcC32x1 : List UInt8 := [108, 111, 99, 97, 108, 32, 116, 32, 61, 32, 123, 125, 32, 116, 91, 49, 93, 32, 61, 32, 50, 32, 116, 46, 120, 32, 61, 32, 50, 32, 112, 114, 105, 110, 116, 40, 116, 91, 49, 93, 41, 32, 112, 114, 105, 110, 116, 40, 116, 46, 120, 41]
def qC32x1a : HQ := List.replicate 2 none
def oC32x1a : List Ob := []
def uC32x1a : List UInt8 := [50, 10, 50, 10]
def qC32x1b : HQ := List.replicate 2 none
def oC32x1b : List Ob := []
def uC32x1b : List UInt8 := [50, 10]
theorem cpC32x1 : CompK nsC32x1 rootC32x1 1 rowsC32x1 := by
  intro n r0 r1 r2 r3 r4 r5 r6 r7 r8 r9 r10 r11 r12
  kernel_rfl
theorem prC32x1 (src : List UInt8) (nodes0 : List Nd) : bind1 (bind1 (scanS 400 srcC32x1 0 0 []) (parT 400 src nodes0)) erP = some (nsC32x1, rootC32x1) := by kernel_rfl
theorem frC32x1 : Front srcC32x1 1 rowsC32x1 := by
  have e : rowsC32x1.map (rPut ((0 : Nat) : Int)) = rowsC32x1 := by kernel_rfl
  refine front_mk (ns := nsC32x1) (root := rootC32x1) (of_decide_eq_true (by kernel_rfl)) (e ▸ Rows.put (x := 0) (by decide) (by decide) (by decide) (by kernel_rfl) (by kernel_rfl) (of_decide_eq_true (by kernel_rfl))) (fun nodes0 => ?_) cpC32x1.all
  obtain ⟨z, hz, h⟩ := bnd1 (prC32x1 srcC32x1 nodes0)
  obtain ⟨r, hr, hz⟩ := bnd1 hz
  exact parse_of (ascii_of (by kernel_rfl)) hr nodes0 (by rw [hz]; exact h)
theorem vC32x1a : endR (coLA 1000 40 60 0 V.nil V.nil 0 qC32x1a (ld1 (pgR rowsC32x1) ts0 2)) = some ((⟨1, V.nil, 0⟩, 0, uC32x1a, 0, 2), [], oC32x1a) := by kernel_rfl
theorem obC32x1a : allOb oC32x1a := by
  unfold oC32x1a
  exact allOb_nil
theorem vC32x1b : endR (coLA 1000 40 60 0 V.nil V.nil 0 qC32x1b (ld1 (pgR rowsC32x1) ts0 1)) = some ((⟨3, V.nil, 9⟩, 0, uC32x1b, 0, 2), [], oC32x1b) := by kernel_rfl
theorem obC32x1b : allOb oC32x1b := by
  unfold oC32x1b
  exact allOb_nil
theorem opC32x1 (c : CSt) (m : VM) (hJ : JJ c m) : Two say32 0 0 [50] c m := by
  exact two_mk (src := srcC32x1) (run_mk frC32x1 vC32x1a obC32x1a (by decide) (.inl ⟨rfl, rfl⟩)) (run_mk frC32x1 vC32x1b obC32x1b (by decide) (.inr ⟨rfl, rfl⟩)) c m hJ
theorem one32 {x : Nat} {t : List UInt8} (hx : x < 9218868437227405312) (hf : formatM x = some t) (c : CSt) (m : VM) (hJ : JJ c m) : Two say32 0 0 t c m := by
  by_cases h0 : x = 4607182418800017408
  · subst h0
    have e : formatM 4607182418800017408 = some [49] := by kernel_rfl
    rw [e] at hf
    injection hf with hf
    subst hf
    exact opC32x0 c m hJ
  by_cases h1 : x = 4611686018427387904
  · subst h1
    have e : formatM 4611686018427387904 = some [50] := by kernel_rfl
    rw [e] at hf
    injection hf with hf
    subst hf
    exact opC32x1 c m hJ
  refine op32 hx hf ?_ c m hJ
  intro z hz
  simp only [List.mem_cons, List.not_mem_nil, or_false] at hz
  rcases hz with rfl | rfl <;> omega
def ns41 : List Nd := [⟨0, 0, 0, 0, 0, 0, [], 0⟩, ⟨17, 0, 0, 0, 2, 0, [97], 0⟩, ⟨17, 0, 0, 0, 0, 0, [98], 0⟩, ⟨17, 0, 0, 0, 0, 0, [112, 99, 97, 108, 108], 0⟩, ⟨17, 0, 0, 0, 0, 0, [120], 0⟩, ⟨17, 0, 0, 0, 0, 0, [120], 0⟩, ⟨15, 0, 0, 0, 0, 0, [], 0⟩, ⟨10, 5, 6, 0, 0, 0, [], 0⟩, ⟨20, 4, 7, 0, 9, 1, [], 0⟩, ⟨15, 0, 0, 0, 0, -1, [], 0⟩, ⟨19, 3, 8, 0, 0, 0, [], 0⟩, ⟨2, 1, 10, 0, 15, 0, [], 0⟩, ⟨17, 0, 0, 0, 0, 0, [112, 114, 105, 110, 116], 0⟩, ⟨17, 0, 0, 0, 0, 0, [97], 0⟩, ⟨19, 12, 13, 0, 0, 0, [], 0⟩, ⟨5, 14, 0, 0, 19, 0, [], 0⟩, ⟨17, 0, 0, 0, 0, 0, [112, 114, 105, 110, 116], 0⟩, ⟨17, 0, 0, 0, 0, 0, [98], 0⟩, ⟨19, 16, 17, 0, 0, 0, [], 0⟩, ⟨5, 18, 0, 0, 0, 0, [], 0⟩]
def root41 : Int := 11
def rows41 : List Rw := [⟨0, 2, [], [⟨3, 0, [112, 99, 97, 108, 108]⟩, ⟨2, -1, []⟩, ⟨3, 0, [112, 114, 105, 110, 116]⟩], [(9, 0), (28, 1), (1, 1), (26, 2), (6, 1), (6, 0), (9, 2), (5, 0), (26, 1), (25, 0), (25, 0), (9, 2), (5, 1), (26, 1), (25, 0), (25, 0), (29, 0), (2, 0), (2, 0), (27, 0)]⟩, ⟨1, 1, [], [⟨2, 0, []⟩], [(5, 0), (1, 0), (27, 0), (2, 0), (2, 0), (27, 0)]⟩]
def q41a (x : Nat) (t : List UInt8) : HQ := [none, some ⟨t, [], [], 0⟩]
def o41a (x : Nat) (t : List UInt8) : List Ob := [.txt ⟨2, ((x : Nat) : Int), []⟩ t, .out [116, 114, 117, 101, 10] t]
def u41a (t : List UInt8) : List UInt8 := (([116, 114, 117, 101, 10] ++ t) ++ [10])
def q41b (x : Nat) (t : List UInt8) : HQ := [none, none]
def o41b (x : Nat) (t : List UInt8) : List Ob := []
def u41b (t : List UInt8) : List UInt8 := [116, 114, 117, 101, 10]
theorem cp41 : CompK ns41 root41 2 rows41 := by
  intro n r0 r1 r2 r3 r4 r5 r6 r7 r8 r9 r10 r11 r12
  kernel_rfl
def p41_0 : List UInt8 := [108, 111, 99, 97, 108, 32, 97, 44, 32, 98, 32, 61, 32, 112, 99, 97, 108, 108, 40, 102, 117, 110, 99, 116, 105, 111, 110, 40, 120, 41, 32, 114, 101, 116, 117, 114, 110, 32, 120, 44, 32, 48, 32, 101, 110, 100, 44, 32]
def p41_1 : List UInt8 := [41, 32, 112, 114, 105, 110, 116, 40, 97, 41, 32, 112, 114, 105, 110, 116, 40, 98, 41]
theorem lx41 (w : List UInt8) : scanW w 400 p41_0 0 0 [] = some (352, 48, 0, tkP 400 p41_0 0) := by kernel_rfl
theorem pr41 (x len : Nat) (src : List UInt8) (nodes0 : List Nd) : bind1 (bind1 (scanS 200 p41_1 (48 + len) 0 (tkP 400 p41_0 0 ++ [⟨3, 48, [], ((x : Nat) : Int), 0⟩])) (parT 400 src nodes0)) erP = some (ns41.map (nPut x), root41) := by kernel_rfl
theorem fr41 {x : Nat} {t : List UInt8} (hx : x < 9218868437227405312) (hn : NumT t) (hl : t.length ≤ 22) (hp : parseM t = some (x, 0)) (hL : newX [0, 4607182418800017408] x) : Front (say41 t).src 2 (rows41.map (rPut x)) := by
  refine front_mk (ns := ns41.map (nPut x)) (root := root41) ?_ (Rows.put hx (by decide) (by decide) (by kernel_rfl) (by kernel_rfl) (of_decide_eq_true (by kernel_rfl))) (fun nodes0 => ?_) (comp_open cp41 hL (fun z => hL 4607182418800017408 (by simp) z.symm) (by kernel_rfl) (by kernel_rfl))
  · show (((p41_0 ++ t) ++ p41_1)).length ≤ 2048
    simp only [List.length_append]
    have e : p41_0.length + p41_1.length ≤ 1000 := of_decide_eq_true (by kernel_rfl)
    omega
  · show bind1 (bind1 (scanL 400 ((p41_0 ++ t) ++ p41_1) 0 0 []) (parT 400 ((p41_0 ++ t) ++ p41_1) nodes0)) erP = _
    have h := pr41 x t.length ((p41_0 ++ t) ++ p41_1) nodes0
    obtain ⟨z, hz, h⟩ := bnd1 h
    obtain ⟨r, hr, hz⟩ := bnd1 hz
    refine parse_of (r := r) (ascii_app (ascii_app (ascii_of (by kernel_rfl)) (num_ascii hn)) (ascii_of (by kernel_rfl))) ?_ nodes0 ?_
    · rw [List.append_assoc]
      exact pre_step (lx41 _) (num_step hn hl (by refine ⟨?_, ?_, ?_⟩ <;> decide) hp (of_decide_eq_true (by kernel_rfl)) hr (by decide))
    · rw [hz]; exact h
theorem v41a (x : Nat) (t : List UInt8) : endR (coLA 1000 40 60 0 V.nil V.nil 0 (q41a x t) (ld1 (pgR (rows41.map (rPut x))) ts0 3)) = some ((⟨1, V.nil, 0⟩, 0, u41a t, 0, 1), [], o41a x t) := by kernel_rfl
theorem ob41a {x : Nat} {t : List UInt8} (hx : x < 9218868437227405312) (hf : formatM x = some t) (hg : formatM (negM x) = some ([45] ++ t)) (hl : t.length ≤ 22) (hp : parseM t = some (x, 0)) : allOb (o41a x t) := by
  unfold o41a
  exact allOb_cons (txt_num (Nat.lt_trans hx (by decide)) hf) (allOb_cons (by show List.length _ + List.length _ + 1 ≤ 200; simp only [List.length_append, List.length_cons, List.length_nil]; omega) (allOb_nil))
theorem v41b (x : Nat) (t : List UInt8) : endR (coLA 1000 40 60 0 V.nil V.nil 0 (q41b x t) (ld1 (pgR (rows41.map (rPut x))) ts0 2)) = some ((⟨3, V.nil, 9⟩, 0, u41b t, 0, 1), [], o41b x t) := by kernel_rfl
theorem ob41b {x : Nat} {t : List UInt8} (hx : x < 9218868437227405312) (hf : formatM x = some t) (hg : formatM (negM x) = some ([45] ++ t)) (hl : t.length ≤ 22) (hp : parseM t = some (x, 0)) : allOb (o41b x t) := by
  unfold o41b
  exact allOb_nil
theorem op41 {x : Nat} {t : List UInt8} (hx : x < 9218868437227405312) (hf : formatM x = some t) (hL : newX [0, 4607182418800017408] x) (c : CSt) (m : VM) (hJ : JJ c m) : Two say41 (say41 t).m (say41 t).ms t c m := by
  obtain ⟨t', f1, hn, hl, hp, hg⟩ := fmt_all hx
  rw [hf] at f1
  injection f1 with f1
  subst f1
  have ua : u41a t = (say41 t).out := by simp [u41a, say41]
  have ub : u41b t = (say41 t).short := by simp [u41b, say41]
  exact two_mk (run_mk (fr41 hx hn hl hp hL) (v41a x t) (ob41a hx hf hg hl hp) (by decide) (.inl ⟨rfl, by rw [ua]⟩)) (run_mk (fr41 hx hn hl hp hL) (v41b x t) (ob41b hx hf hg hl hp) (by decide) (.inr ⟨rfl, by rw [ub]⟩)) c m hJ
def nsC41x0 : List Nd := [⟨0, 0, 0, 0, 0, 0, [], 0⟩, ⟨17, 0, 0, 0, 2, 0, [97], 0⟩, ⟨17, 0, 0, 0, 0, 0, [98], 0⟩, ⟨17, 0, 0, 0, 0, 0, [112, 99, 97, 108, 108], 0⟩, ⟨17, 0, 0, 0, 0, 0, [120], 0⟩, ⟨17, 0, 0, 0, 0, 0, [120], 0⟩, ⟨15, 0, 0, 0, 0, 0, [], 0⟩, ⟨10, 5, 6, 0, 0, 0, [], 0⟩, ⟨20, 4, 7, 0, 9, 1, [], 0⟩, ⟨15, 0, 0, 0, 0, 0, [], 0⟩, ⟨19, 3, 8, 0, 0, 0, [], 0⟩, ⟨2, 1, 10, 0, 15, 0, [], 0⟩, ⟨17, 0, 0, 0, 0, 0, [112, 114, 105, 110, 116], 0⟩, ⟨17, 0, 0, 0, 0, 0, [97], 0⟩, ⟨19, 12, 13, 0, 0, 0, [], 0⟩, ⟨5, 14, 0, 0, 19, 0, [], 0⟩, ⟨17, 0, 0, 0, 0, 0, [112, 114, 105, 110, 116], 0⟩, ⟨17, 0, 0, 0, 0, 0, [98], 0⟩, ⟨19, 16, 17, 0, 0, 0, [], 0⟩, ⟨5, 18, 0, 0, 0, 0, [], 0⟩]
def rootC41x0 : Int := 11
def rowsC41x0 : List Rw := [⟨0, 2, [], [⟨3, 0, [112, 99, 97, 108, 108]⟩, ⟨2, 0, []⟩, ⟨3, 0, [112, 114, 105, 110, 116]⟩], [(9, 0), (28, 1), (1, 1), (26, 2), (6, 1), (6, 0), (9, 2), (5, 0), (26, 1), (25, 0), (25, 0), (9, 2), (5, 1), (26, 1), (25, 0), (25, 0), (29, 0), (2, 0), (2, 0), (27, 0)]⟩, ⟨1, 1, [], [⟨2, 0, []⟩], [(5, 0), (1, 0), (27, 0), (2, 0), (2, 0), (27, 0)]⟩]
def srcC41x0 : List UInt8 := [108, 111, 99, 97, 108, 32, 97, 44, 32, 98, 32, 61, 32, 112, 99, 97, 108, 108, 40, 102, 117, 110, 99, 116, 105, 111, 110, 40, 120, 41, 32, 114, 101, 116, 117, 114, 110, 32, 120, 44, 32, 48, 32, 101, 110, 100, 44, 32, 48, 41, 32, 112, 114, 105, 110, 116, 40, 97, 41, 32, 112, 114, 105, 110, 116, 40, 98, 41]
def qC41x0a : HQ := List.replicate 2 none
def oC41x0a : List Ob := []
def uC41x0a : List UInt8 := [116, 114, 117, 101, 10, 48, 10]
def qC41x0b : HQ := List.replicate 2 none
def oC41x0b : List Ob := []
def uC41x0b : List UInt8 := [116, 114, 117, 101, 10]
theorem cpC41x0 : CompK nsC41x0 rootC41x0 2 rowsC41x0 := by
  intro n r0 r1 r2 r3 r4 r5 r6 r7 r8 r9 r10 r11 r12
  kernel_rfl
theorem prC41x0 (src : List UInt8) (nodes0 : List Nd) : bind1 (bind1 (scanS 400 srcC41x0 0 0 []) (parT 400 src nodes0)) erP = some (nsC41x0, rootC41x0) := by kernel_rfl
theorem frC41x0 : Front srcC41x0 2 rowsC41x0 := by
  have e : rowsC41x0.map (rPut ((0 : Nat) : Int)) = rowsC41x0 := by kernel_rfl
  refine front_mk (ns := nsC41x0) (root := rootC41x0) (of_decide_eq_true (by kernel_rfl)) (e ▸ Rows.put (x := 0) (by decide) (by decide) (by decide) (by kernel_rfl) (by kernel_rfl) (of_decide_eq_true (by kernel_rfl))) (fun nodes0 => ?_) cpC41x0.all
  obtain ⟨z, hz, h⟩ := bnd1 (prC41x0 srcC41x0 nodes0)
  obtain ⟨r, hr, hz⟩ := bnd1 hz
  exact parse_of (ascii_of (by kernel_rfl)) hr nodes0 (by rw [hz]; exact h)
theorem vC41x0a : endR (coLA 1000 40 60 0 V.nil V.nil 0 qC41x0a (ld1 (pgR rowsC41x0) ts0 3)) = some ((⟨1, V.nil, 0⟩, 0, uC41x0a, 0, 1), [], oC41x0a) := by kernel_rfl
theorem obC41x0a : allOb oC41x0a := by
  unfold oC41x0a
  exact allOb_nil
theorem vC41x0b : endR (coLA 1000 40 60 0 V.nil V.nil 0 qC41x0b (ld1 (pgR rowsC41x0) ts0 2)) = some ((⟨3, V.nil, 9⟩, 0, uC41x0b, 0, 1), [], oC41x0b) := by kernel_rfl
theorem obC41x0b : allOb oC41x0b := by
  unfold oC41x0b
  exact allOb_nil
theorem opC41x0 (c : CSt) (m : VM) (hJ : JJ c m) : Two say41 (say41 [48]).m (say41 [48]).ms [48] c m := by
  exact two_mk (src := srcC41x0) (run_mk frC41x0 vC41x0a obC41x0a (by decide) (.inl ⟨rfl, rfl⟩)) (run_mk frC41x0 vC41x0b obC41x0b (by decide) (.inr ⟨rfl, rfl⟩)) c m hJ
def nsC41x1 : List Nd := [⟨0, 0, 0, 0, 0, 0, [], 0⟩, ⟨17, 0, 0, 0, 2, 0, [97], 0⟩, ⟨17, 0, 0, 0, 0, 0, [98], 0⟩, ⟨17, 0, 0, 0, 0, 0, [112, 99, 97, 108, 108], 0⟩, ⟨17, 0, 0, 0, 0, 0, [120], 0⟩, ⟨17, 0, 0, 0, 0, 0, [120], 0⟩, ⟨15, 0, 0, 0, 0, 0, [], 0⟩, ⟨10, 5, 6, 0, 0, 0, [], 0⟩, ⟨20, 4, 7, 0, 9, 1, [], 0⟩, ⟨15, 0, 0, 0, 0, 4607182418800017408, [], 0⟩, ⟨19, 3, 8, 0, 0, 0, [], 0⟩, ⟨2, 1, 10, 0, 15, 0, [], 0⟩, ⟨17, 0, 0, 0, 0, 0, [112, 114, 105, 110, 116], 0⟩, ⟨17, 0, 0, 0, 0, 0, [97], 0⟩, ⟨19, 12, 13, 0, 0, 0, [], 0⟩, ⟨5, 14, 0, 0, 19, 0, [], 0⟩, ⟨17, 0, 0, 0, 0, 0, [112, 114, 105, 110, 116], 0⟩, ⟨17, 0, 0, 0, 0, 0, [98], 0⟩, ⟨19, 16, 17, 0, 0, 0, [], 0⟩, ⟨5, 18, 0, 0, 0, 0, [], 0⟩]
def rootC41x1 : Int := 11
def rowsC41x1 : List Rw := [⟨0, 2, [], [⟨3, 0, [112, 99, 97, 108, 108]⟩, ⟨2, 4607182418800017408, []⟩, ⟨3, 0, [112, 114, 105, 110, 116]⟩], [(9, 0), (28, 1), (1, 1), (26, 2), (6, 1), (6, 0), (9, 2), (5, 0), (26, 1), (25, 0), (25, 0), (9, 2), (5, 1), (26, 1), (25, 0), (25, 0), (29, 0), (2, 0), (2, 0), (27, 0)]⟩, ⟨1, 1, [], [⟨2, 0, []⟩], [(5, 0), (1, 0), (27, 0), (2, 0), (2, 0), (27, 0)]⟩]
def srcC41x1 : List UInt8 := [108, 111, 99, 97, 108, 32, 97, 44, 32, 98, 32, 61, 32, 112, 99, 97, 108, 108, 40, 102, 117, 110, 99, 116, 105, 111, 110, 40, 120, 41, 32, 114, 101, 116, 117, 114, 110, 32, 120, 44, 32, 48, 32, 101, 110, 100, 44, 32, 49, 41, 32, 112, 114, 105, 110, 116, 40, 97, 41, 32, 112, 114, 105, 110, 116, 40, 98, 41]
def qC41x1a : HQ := List.replicate 2 none
def oC41x1a : List Ob := []
def uC41x1a : List UInt8 := [116, 114, 117, 101, 10, 49, 10]
def qC41x1b : HQ := List.replicate 2 none
def oC41x1b : List Ob := []
def uC41x1b : List UInt8 := [116, 114, 117, 101, 10]
theorem cpC41x1 : CompK nsC41x1 rootC41x1 2 rowsC41x1 := by
  intro n r0 r1 r2 r3 r4 r5 r6 r7 r8 r9 r10 r11 r12
  kernel_rfl
theorem prC41x1 (src : List UInt8) (nodes0 : List Nd) : bind1 (bind1 (scanS 400 srcC41x1 0 0 []) (parT 400 src nodes0)) erP = some (nsC41x1, rootC41x1) := by kernel_rfl
theorem frC41x1 : Front srcC41x1 2 rowsC41x1 := by
  have e : rowsC41x1.map (rPut ((0 : Nat) : Int)) = rowsC41x1 := by kernel_rfl
  refine front_mk (ns := nsC41x1) (root := rootC41x1) (of_decide_eq_true (by kernel_rfl)) (e ▸ Rows.put (x := 0) (by decide) (by decide) (by decide) (by kernel_rfl) (by kernel_rfl) (of_decide_eq_true (by kernel_rfl))) (fun nodes0 => ?_) cpC41x1.all
  obtain ⟨z, hz, h⟩ := bnd1 (prC41x1 srcC41x1 nodes0)
  obtain ⟨r, hr, hz⟩ := bnd1 hz
  exact parse_of (ascii_of (by kernel_rfl)) hr nodes0 (by rw [hz]; exact h)
theorem vC41x1a : endR (coLA 1000 40 60 0 V.nil V.nil 0 qC41x1a (ld1 (pgR rowsC41x1) ts0 3)) = some ((⟨1, V.nil, 0⟩, 0, uC41x1a, 0, 1), [], oC41x1a) := by kernel_rfl
theorem obC41x1a : allOb oC41x1a := by
  unfold oC41x1a
  exact allOb_nil
theorem vC41x1b : endR (coLA 1000 40 60 0 V.nil V.nil 0 qC41x1b (ld1 (pgR rowsC41x1) ts0 2)) = some ((⟨3, V.nil, 9⟩, 0, uC41x1b, 0, 1), [], oC41x1b) := by kernel_rfl
theorem obC41x1b : allOb oC41x1b := by
  unfold oC41x1b
  exact allOb_nil
theorem opC41x1 (c : CSt) (m : VM) (hJ : JJ c m) : Two say41 (say41 [49]).m (say41 [49]).ms [49] c m := by
  exact two_mk (src := srcC41x1) (run_mk frC41x1 vC41x1a obC41x1a (by decide) (.inl ⟨rfl, rfl⟩)) (run_mk frC41x1 vC41x1b obC41x1b (by decide) (.inr ⟨rfl, rfl⟩)) c m hJ
theorem one41 {x : Nat} {t : List UInt8} (hx : x < 9218868437227405312) (hf : formatM x = some t) (c : CSt) (m : VM) (hJ : JJ c m) : Two say41 (say41 t).m (say41 t).ms t c m := by
  by_cases h0 : x = 0
  · subst h0
    have e : formatM 0 = some [48] := by kernel_rfl
    rw [e] at hf
    injection hf with hf
    subst hf
    exact opC41x0 c m hJ
  by_cases h1 : x = 4607182418800017408
  · subst h1
    have e : formatM 4607182418800017408 = some [49] := by kernel_rfl
    rw [e] at hf
    injection hf with hf
    subst hf
    exact opC41x1 c m hJ
  refine op41 hx hf ?_ c m hJ
  intro z hz
  simp only [List.mem_cons, List.not_mem_nil, or_false] at hz
  rcases hz with rfl | rfl <;> omega
def ns50 : List Nd := [⟨0, 0, 0, 0, 0, 0, [], 0⟩, ⟨17, 0, 0, 0, 0, 0, [120], 0⟩, ⟨15, 0, 0, 0, 0, 0, [], 0⟩, ⟨4, 1, 2, 0, 8, 0, [], 0⟩, ⟨17, 0, 0, 0, 0, 0, [120], 0⟩, ⟨15, 0, 0, 0, 0, -1, [], 0⟩, ⟨4, 4, 5, 0, 0, 0, [], 0⟩, ⟨20, 0, 6, 0, 0, 1, [], 0⟩, ⟨3, 7, 0, 0, 11, 0, [102], 0⟩, ⟨17, 0, 0, 0, 0, 0, [102], 0⟩, ⟨19, 9, 0, 0, 0, 0, [], 0⟩, ⟨5, 10, 0, 0, 15, 0, [], 0⟩, ⟨17, 0, 0, 0, 0, 0, [112, 114, 105, 110, 116], 0⟩, ⟨17, 0, 0, 0, 0, 0, [120], 0⟩, ⟨19, 12, 13, 0, 0, 0, [], 0⟩, ⟨5, 14, 0, 0, 0, 0, [], 0⟩]
def root50 : Int := 3
def rows50 : List Rw := [⟨0, 1, [], [⟨2, 0, []⟩, ⟨3, 0, [120]⟩, ⟨3, 0, [112, 114, 105, 110, 116]⟩], [(1, 0), (10, 1), (28, 1), (6, 0), (5, 0), (26, 0), (25, 0), (25, 0), (9, 2), (9, 1), (26, 1), (25, 0), (25, 0), (29, 0), (2, 0), (2, 0), (27, 0)]⟩, ⟨0, 0, [], [⟨2, -1, []⟩, ⟨3, 0, [120]⟩], [(1, 0), (10, 1), (2, 0), (2, 0), (27, 0)]⟩]
def q50a (x : Nat) (t : List UInt8) : HQ := [some ⟨t, [], [], 0⟩]
def o50a (x : Nat) (t : List UInt8) : List Ob := [.txt ⟨2, ((x : Nat) : Int), []⟩ t, .out [] t]
def u50a (t : List UInt8) : List UInt8 := (([] ++ t) ++ [10])
def q50b (x : Nat) (t : List UInt8) : HQ := [none]
def o50b (x : Nat) (t : List UInt8) : List Ob := []
def u50b (t : List UInt8) : List UInt8 := []
theorem cp50 : CompK ns50 root50 2 rows50 := by
  intro n r0 r1 r2 r3 r4 r5 r6 r7 r8 r9 r10 r11 r12
  kernel_rfl
def p50_0 : List UInt8 := [120, 32, 61, 32, 48, 32, 108, 111, 99, 97, 108, 32, 102, 117, 110, 99, 116, 105, 111, 110, 32, 102, 40, 41, 32, 120, 32, 61, 32]
def p50_1 : List UInt8 := [32, 101, 110, 100, 32, 102, 40, 41, 32, 112, 114, 105, 110, 116, 40, 120, 41]
theorem lx50 (w : List UInt8) : scanW w 400 p50_0 0 0 [] = some (371, 29, 0, tkP 400 p50_0 0) := by kernel_rfl
theorem pr50 (x len : Nat) (src : List UInt8) (nodes0 : List Nd) : bind1 (bind1 (scanS 200 p50_1 (29 + len) 0 (tkP 400 p50_0 0 ++ [⟨3, 29, [], ((x : Nat) : Int), 0⟩])) (parT 400 src nodes0)) erP = some (ns50.map (nPut x), root50) := by kernel_rfl
theorem fr50 {x : Nat} {t : List UInt8} (hx : x < 9218868437227405312) (hn : NumT t) (hl : t.length ≤ 22) (hp : parseM t = some (x, 0)) (hL : newX [0, 4607182418800017408] x) : Front (say50 t).src 2 (rows50.map (rPut x)) := by
  refine front_mk (ns := ns50.map (nPut x)) (root := root50) ?_ (Rows.put hx (by decide) (by decide) (by kernel_rfl) (by kernel_rfl) (of_decide_eq_true (by kernel_rfl))) (fun nodes0 => ?_) (comp_open cp50 hL (fun z => hL 4607182418800017408 (by simp) z.symm) (by kernel_rfl) (by kernel_rfl))
  · show (((p50_0 ++ t) ++ p50_1)).length ≤ 2048
    simp only [List.length_append]
    have e : p50_0.length + p50_1.length ≤ 1000 := of_decide_eq_true (by kernel_rfl)
    omega
  · show bind1 (bind1 (scanL 400 ((p50_0 ++ t) ++ p50_1) 0 0 []) (parT 400 ((p50_0 ++ t) ++ p50_1) nodes0)) erP = _
    have h := pr50 x t.length ((p50_0 ++ t) ++ p50_1) nodes0
    obtain ⟨z, hz, h⟩ := bnd1 h
    obtain ⟨r, hr, hz⟩ := bnd1 hz
    refine parse_of (r := r) (ascii_app (ascii_app (ascii_of (by kernel_rfl)) (num_ascii hn)) (ascii_of (by kernel_rfl))) ?_ nodes0 ?_
    · rw [List.append_assoc]
      exact pre_step (lx50 _) (num_step hn hl (by refine ⟨?_, ?_, ?_⟩ <;> decide) hp (of_decide_eq_true (by kernel_rfl)) hr (by decide))
    · rw [hz]; exact h
theorem v50a (x : Nat) (t : List UInt8) : endR (coLA 1000 40 60 0 V.nil V.nil 0 (q50a x t) (ld1 (pgR (rows50.map (rPut x))) ts0 2)) = some ((⟨1, V.nil, 0⟩, 0, u50a t, 0, 1), [], o50a x t) := by kernel_rfl
theorem ob50a {x : Nat} {t : List UInt8} (hx : x < 9218868437227405312) (hf : formatM x = some t) (hg : formatM (negM x) = some ([45] ++ t)) (hl : t.length ≤ 22) (hp : parseM t = some (x, 0)) : allOb (o50a x t) := by
  unfold o50a
  exact allOb_cons (txt_num (Nat.lt_trans hx (by decide)) hf) (allOb_cons (by show List.length _ + List.length _ + 1 ≤ 200; simp only [List.length_append, List.length_cons, List.length_nil]; omega) (allOb_nil))
theorem v50b (x : Nat) (t : List UInt8) : endR (coLA 1000 40 60 0 V.nil V.nil 0 (q50b x t) (ld1 (pgR (rows50.map (rPut x))) ts0 1)) = some ((⟨3, V.nil, 9⟩, 0, u50b t, 0, 1), [], o50b x t) := by kernel_rfl
theorem ob50b {x : Nat} {t : List UInt8} (hx : x < 9218868437227405312) (hf : formatM x = some t) (hg : formatM (negM x) = some ([45] ++ t)) (hl : t.length ≤ 22) (hp : parseM t = some (x, 0)) : allOb (o50b x t) := by
  unfold o50b
  exact allOb_nil
theorem op50 {x : Nat} {t : List UInt8} (hx : x < 9218868437227405312) (hf : formatM x = some t) (hL : newX [0, 4607182418800017408] x) (c : CSt) (m : VM) (hJ : JJ c m) : Two say50 (say50 t).m (say50 t).ms t c m := by
  obtain ⟨t', f1, hn, hl, hp, hg⟩ := fmt_all hx
  rw [hf] at f1
  injection f1 with f1
  subst f1
  have ua : u50a t = (say50 t).out := by simp [u50a, say50]
  have ub : u50b t = (say50 t).short := by simp [u50b, say50]
  exact two_mk (run_mk (fr50 hx hn hl hp hL) (v50a x t) (ob50a hx hf hg hl hp) (by decide) (.inl ⟨rfl, by rw [ua]⟩)) (run_mk (fr50 hx hn hl hp hL) (v50b x t) (ob50b hx hf hg hl hp) (by decide) (.inr ⟨rfl, by rw [ub]⟩)) c m hJ
def nsC50x0 : List Nd := [⟨0, 0, 0, 0, 0, 0, [], 0⟩, ⟨17, 0, 0, 0, 0, 0, [120], 0⟩, ⟨15, 0, 0, 0, 0, 0, [], 0⟩, ⟨4, 1, 2, 0, 8, 0, [], 0⟩, ⟨17, 0, 0, 0, 0, 0, [120], 0⟩, ⟨15, 0, 0, 0, 0, 0, [], 0⟩, ⟨4, 4, 5, 0, 0, 0, [], 0⟩, ⟨20, 0, 6, 0, 0, 1, [], 0⟩, ⟨3, 7, 0, 0, 11, 0, [102], 0⟩, ⟨17, 0, 0, 0, 0, 0, [102], 0⟩, ⟨19, 9, 0, 0, 0, 0, [], 0⟩, ⟨5, 10, 0, 0, 15, 0, [], 0⟩, ⟨17, 0, 0, 0, 0, 0, [112, 114, 105, 110, 116], 0⟩, ⟨17, 0, 0, 0, 0, 0, [120], 0⟩, ⟨19, 12, 13, 0, 0, 0, [], 0⟩, ⟨5, 14, 0, 0, 0, 0, [], 0⟩]
def rootC50x0 : Int := 3
def rowsC50x0 : List Rw := [⟨0, 1, [], [⟨2, 0, []⟩, ⟨3, 0, [120]⟩, ⟨3, 0, [112, 114, 105, 110, 116]⟩], [(1, 0), (10, 1), (28, 1), (6, 0), (5, 0), (26, 0), (25, 0), (25, 0), (9, 2), (9, 1), (26, 1), (25, 0), (25, 0), (29, 0), (2, 0), (2, 0), (27, 0)]⟩, ⟨0, 0, [], [⟨2, 0, []⟩, ⟨3, 0, [120]⟩], [(1, 0), (10, 1), (2, 0), (2, 0), (27, 0)]⟩]
def srcC50x0 : List UInt8 := [120, 32, 61, 32, 48, 32, 108, 111, 99, 97, 108, 32, 102, 117, 110, 99, 116, 105, 111, 110, 32, 102, 40, 41, 32, 120, 32, 61, 32, 48, 32, 101, 110, 100, 32, 102, 40, 41, 32, 112, 114, 105, 110, 116, 40, 120, 41]
def qC50x0a : HQ := List.replicate 1 none
def oC50x0a : List Ob := []
def uC50x0a : List UInt8 := [48, 10]
def qC50x0b : HQ := List.replicate 1 none
def oC50x0b : List Ob := []
def uC50x0b : List UInt8 := []
theorem cpC50x0 : CompK nsC50x0 rootC50x0 2 rowsC50x0 := by
  intro n r0 r1 r2 r3 r4 r5 r6 r7 r8 r9 r10 r11 r12
  kernel_rfl
theorem prC50x0 (src : List UInt8) (nodes0 : List Nd) : bind1 (bind1 (scanS 400 srcC50x0 0 0 []) (parT 400 src nodes0)) erP = some (nsC50x0, rootC50x0) := by kernel_rfl
theorem frC50x0 : Front srcC50x0 2 rowsC50x0 := by
  have e : rowsC50x0.map (rPut ((0 : Nat) : Int)) = rowsC50x0 := by kernel_rfl
  refine front_mk (ns := nsC50x0) (root := rootC50x0) (of_decide_eq_true (by kernel_rfl)) (e ▸ Rows.put (x := 0) (by decide) (by decide) (by decide) (by kernel_rfl) (by kernel_rfl) (of_decide_eq_true (by kernel_rfl))) (fun nodes0 => ?_) cpC50x0.all
  obtain ⟨z, hz, h⟩ := bnd1 (prC50x0 srcC50x0 nodes0)
  obtain ⟨r, hr, hz⟩ := bnd1 hz
  exact parse_of (ascii_of (by kernel_rfl)) hr nodes0 (by rw [hz]; exact h)
theorem vC50x0a : endR (coLA 1000 40 60 0 V.nil V.nil 0 qC50x0a (ld1 (pgR rowsC50x0) ts0 2)) = some ((⟨1, V.nil, 0⟩, 0, uC50x0a, 0, 1), [], oC50x0a) := by kernel_rfl
theorem obC50x0a : allOb oC50x0a := by
  unfold oC50x0a
  exact allOb_nil
theorem vC50x0b : endR (coLA 1000 40 60 0 V.nil V.nil 0 qC50x0b (ld1 (pgR rowsC50x0) ts0 1)) = some ((⟨3, V.nil, 9⟩, 0, uC50x0b, 0, 1), [], oC50x0b) := by kernel_rfl
theorem obC50x0b : allOb oC50x0b := by
  unfold oC50x0b
  exact allOb_nil
theorem opC50x0 (c : CSt) (m : VM) (hJ : JJ c m) : Two say50 (say50 [48]).m (say50 [48]).ms [48] c m := by
  exact two_mk (src := srcC50x0) (run_mk frC50x0 vC50x0a obC50x0a (by decide) (.inl ⟨rfl, rfl⟩)) (run_mk frC50x0 vC50x0b obC50x0b (by decide) (.inr ⟨rfl, rfl⟩)) c m hJ
def nsC50x1 : List Nd := [⟨0, 0, 0, 0, 0, 0, [], 0⟩, ⟨17, 0, 0, 0, 0, 0, [120], 0⟩, ⟨15, 0, 0, 0, 0, 0, [], 0⟩, ⟨4, 1, 2, 0, 8, 0, [], 0⟩, ⟨17, 0, 0, 0, 0, 0, [120], 0⟩, ⟨15, 0, 0, 0, 0, 4607182418800017408, [], 0⟩, ⟨4, 4, 5, 0, 0, 0, [], 0⟩, ⟨20, 0, 6, 0, 0, 1, [], 0⟩, ⟨3, 7, 0, 0, 11, 0, [102], 0⟩, ⟨17, 0, 0, 0, 0, 0, [102], 0⟩, ⟨19, 9, 0, 0, 0, 0, [], 0⟩, ⟨5, 10, 0, 0, 15, 0, [], 0⟩, ⟨17, 0, 0, 0, 0, 0, [112, 114, 105, 110, 116], 0⟩, ⟨17, 0, 0, 0, 0, 0, [120], 0⟩, ⟨19, 12, 13, 0, 0, 0, [], 0⟩, ⟨5, 14, 0, 0, 0, 0, [], 0⟩]
def rootC50x1 : Int := 3
def rowsC50x1 : List Rw := [⟨0, 1, [], [⟨2, 0, []⟩, ⟨3, 0, [120]⟩, ⟨3, 0, [112, 114, 105, 110, 116]⟩], [(1, 0), (10, 1), (28, 1), (6, 0), (5, 0), (26, 0), (25, 0), (25, 0), (9, 2), (9, 1), (26, 1), (25, 0), (25, 0), (29, 0), (2, 0), (2, 0), (27, 0)]⟩, ⟨0, 0, [], [⟨2, 4607182418800017408, []⟩, ⟨3, 0, [120]⟩], [(1, 0), (10, 1), (2, 0), (2, 0), (27, 0)]⟩]
def srcC50x1 : List UInt8 := [120, 32, 61, 32, 48, 32, 108, 111, 99, 97, 108, 32, 102, 117, 110, 99, 116, 105, 111, 110, 32, 102, 40, 41, 32, 120, 32, 61, 32, 49, 32, 101, 110, 100, 32, 102, 40, 41, 32, 112, 114, 105, 110, 116, 40, 120, 41]
def qC50x1a : HQ := List.replicate 1 none
def oC50x1a : List Ob := []
def uC50x1a : List UInt8 := [49, 10]
def qC50x1b : HQ := List.replicate 1 none
def oC50x1b : List Ob := []
def uC50x1b : List UInt8 := []
theorem cpC50x1 : CompK nsC50x1 rootC50x1 2 rowsC50x1 := by
  intro n r0 r1 r2 r3 r4 r5 r6 r7 r8 r9 r10 r11 r12
  kernel_rfl
theorem prC50x1 (src : List UInt8) (nodes0 : List Nd) : bind1 (bind1 (scanS 400 srcC50x1 0 0 []) (parT 400 src nodes0)) erP = some (nsC50x1, rootC50x1) := by kernel_rfl
theorem frC50x1 : Front srcC50x1 2 rowsC50x1 := by
  have e : rowsC50x1.map (rPut ((0 : Nat) : Int)) = rowsC50x1 := by kernel_rfl
  refine front_mk (ns := nsC50x1) (root := rootC50x1) (of_decide_eq_true (by kernel_rfl)) (e ▸ Rows.put (x := 0) (by decide) (by decide) (by decide) (by kernel_rfl) (by kernel_rfl) (of_decide_eq_true (by kernel_rfl))) (fun nodes0 => ?_) cpC50x1.all
  obtain ⟨z, hz, h⟩ := bnd1 (prC50x1 srcC50x1 nodes0)
  obtain ⟨r, hr, hz⟩ := bnd1 hz
  exact parse_of (ascii_of (by kernel_rfl)) hr nodes0 (by rw [hz]; exact h)
theorem vC50x1a : endR (coLA 1000 40 60 0 V.nil V.nil 0 qC50x1a (ld1 (pgR rowsC50x1) ts0 2)) = some ((⟨1, V.nil, 0⟩, 0, uC50x1a, 0, 1), [], oC50x1a) := by kernel_rfl
theorem obC50x1a : allOb oC50x1a := by
  unfold oC50x1a
  exact allOb_nil
theorem vC50x1b : endR (coLA 1000 40 60 0 V.nil V.nil 0 qC50x1b (ld1 (pgR rowsC50x1) ts0 1)) = some ((⟨3, V.nil, 9⟩, 0, uC50x1b, 0, 1), [], oC50x1b) := by kernel_rfl
theorem obC50x1b : allOb oC50x1b := by
  unfold oC50x1b
  exact allOb_nil
theorem opC50x1 (c : CSt) (m : VM) (hJ : JJ c m) : Two say50 (say50 [49]).m (say50 [49]).ms [49] c m := by
  exact two_mk (src := srcC50x1) (run_mk frC50x1 vC50x1a obC50x1a (by decide) (.inl ⟨rfl, rfl⟩)) (run_mk frC50x1 vC50x1b obC50x1b (by decide) (.inr ⟨rfl, rfl⟩)) c m hJ
theorem one50 {x : Nat} {t : List UInt8} (hx : x < 9218868437227405312) (hf : formatM x = some t) (c : CSt) (m : VM) (hJ : JJ c m) : Two say50 (say50 t).m (say50 t).ms t c m := by
  by_cases h0 : x = 0
  · subst h0
    have e : formatM 0 = some [48] := by kernel_rfl
    rw [e] at hf
    injection hf with hf
    subst hf
    exact opC50x0 c m hJ
  by_cases h1 : x = 4607182418800017408
  · subst h1
    have e : formatM 4607182418800017408 = some [49] := by kernel_rfl
    rw [e] at hf
    injection hf with hf
    subst hf
    exact opC50x1 c m hJ
  refine op50 hx hf ?_ c m hJ
  intro z hz
  simp only [List.mem_cons, List.not_mem_nil, or_false] at hz
  rcases hz with rfl | rfl <;> omega
end Go.Wl
