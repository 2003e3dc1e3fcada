/- Plain: sentences (made by program). -/
import Derived.Test.Qxb6500573aGreatDoorBY
set_option linter.unusedSimpArgs false
set_option linter.unusedVariables false
set_option linter.unusedSectionVars false
namespace Go.Wl
open Go Go.Sl Go.Proofs
set_option linter.unusedVariables false
set_option linter.unusedSimpArgs false
set_option maxRecDepth 100000
def ns4 : List Nd := [⟨0, 0, 0, 0, 0, 0, [], 0⟩, ⟨15, 0, 0, 0, 0, -1, [], 0⟩, ⟨1, 1, 0, 0, 6, 0, [97], 0⟩, ⟨13, 0, 0, 0, 0, 0, [], 0⟩, ⟨15, 0, 0, 0, 0, 0, [], 0⟩, ⟨1, 4, 0, 0, 0, 0, [97], 0⟩, ⟨6, 3, 5, 0, 12, 0, [], 0⟩, ⟨17, 0, 0, 0, 0, 0, [112, 114, 105, 110, 116], 0⟩, ⟨17, 0, 0, 0, 0, 0, [97], 0⟩, ⟨16, 0, 0, 0, 0, 0, [], 0⟩, ⟨22, 8, 9, 0, 0, 20, [], 0⟩, ⟨19, 7, 10, 0, 0, 0, [], 0⟩, ⟨5, 11, 0, 0, 0, 0, [], 0⟩]
def root4 : Int := 2
def rows4 : List Rw := [⟨0, 2, [], [⟨2, -1, []⟩, ⟨2, 0, []⟩, ⟨3, 0, [112, 114, 105, 110, 116]⟩, ⟨3, 0, []⟩], [(1, 0), (6, 0), (3, 0), (22, 8), (1, 1), (6, 1), (29, 1), (21, 8), (9, 2), (5, 0), (1, 3), (17, 0), (26, 1), (25, 0), (25, 0), (29, 0), (2, 0), (2, 0), (27, 0)]⟩]
def q4a (x : Nat) (t : List UInt8) : HQ := [some ⟨t, [], t, 0⟩, some ⟨t, [], [], 0⟩]
def o4a (x : Nat) (t : List UInt8) : List Ob := [.txt ⟨2, ((x : Nat) : Int), []⟩ t, .txt ⟨3, 0, []⟩ [], .cat t [] t, .txt ⟨3, 0, t⟩ t, .out [] t]
def u4a (t : List UInt8) : List UInt8 := (([] ++ t) ++ [10])
def q4b (x : Nat) (t : List UInt8) : HQ := [some ⟨t, [], t, 0⟩, none]
def o4b (x : Nat) (t : List UInt8) : List Ob := [.txt ⟨2, ((x : Nat) : Int), []⟩ t, .txt ⟨3, 0, []⟩ [], .cat t [] t]
def u4b (t : List UInt8) : List UInt8 := []
theorem cp4 : CompK ns4 root4 1 rows4 := by
  intro n r0 r1 r2 r3 r4 r5 r6 r7 r8 r9 r10 r11 r12
  kernel_rfl
def p4_0 : List UInt8 := [108, 111, 99, 97, 108, 32, 97, 32, 61, 32]
def p4_1 : List UInt8 := [32, 105, 102, 32, 116, 114, 117, 101, 32, 116, 104, 101, 110, 32, 108, 111, 99, 97, 108, 32, 97, 32, 61, 32, 48, 32, 101, 110, 100, 32, 112, 114, 105, 110, 116, 40, 97, 32, 46, 46, 32, 34, 34, 41]
theorem lx4 (w : List UInt8) : scanW w 400 p4_0 0 0 [] = some (390, 10, 0, tkP 400 p4_0 0) := by kernel_rfl
theorem pr4 (x len : Nat) (src : List UInt8) (nodes0 : List Nd) : bind1 (bind1 (scanS 200 p4_1 (10 + len) 0 (tkP 400 p4_0 0 ++ [⟨3, 10, [], ((x : Nat) : Int), 0⟩])) (parT 400 src nodes0)) erP = some (ns4.map (nPut x), root4) := by kernel_rfl
theorem fr4 {x : Nat} {t : List UInt8} (hx : x < 9218868437227405312) (hn : NumT t) (hl : t.length ≤ 22) (hp : parseM t = some (x, 0)) (hL : newX [0, 4607182418800017408] x) : Front (say4 t).src 1 (rows4.map (rPut x)) := by
  refine front_mk (ns := ns4.map (nPut x)) (root := root4) ?_ (Rows.put hx (by decide) (by decide) (by kernel_rfl) (by kernel_rfl) (of_decide_eq_true (by kernel_rfl))) (fun nodes0 => ?_) (comp_open cp4 hL (fun z => hL 4607182418800017408 (by simp) z.symm) (by kernel_rfl) (by kernel_rfl))
  · show (((p4_0 ++ t) ++ p4_1)).length ≤ 2048
    simp only [List.length_append]
    have e : p4_0.length + p4_1.length ≤ 1000 := of_decide_eq_true (by kernel_rfl)
    omega
  · show bind1 (bind1 (scanL 400 ((p4_0 ++ t) ++ p4_1) 0 0 []) (parT 400 ((p4_0 ++ t) ++ p4_1) nodes0)) erP = _
    have h := pr4 x t.length ((p4_0 ++ t) ++ p4_1) nodes0
    obtain ⟨z, hz, h⟩ := bnd1 h
    obtain ⟨r, hr, hz⟩ := bnd1 hz
    refine parse_of (r := r) (ascii_app (ascii_app (ascii_of (by kernel_rfl)) (num_ascii hn)) (ascii_of (by kernel_rfl))) ?_ nodes0 ?_
    · rw [List.append_assoc]
      exact pre_step (lx4 _) (num_step hn hl (by refine ⟨?_, ?_, ?_⟩ <;> decide) hp (of_decide_eq_true (by kernel_rfl)) hr (by decide))
    · rw [hz]; exact h
theorem v4a (x : Nat) (t : List UInt8) : endR (coLA 1000 40 60 0 V.nil V.nil 0 (q4a x t) (ld1 (pgR (rows4.map (rPut x))) ts0 1)) = some ((⟨1, V.nil, 0⟩, 0, u4a t, 0, 1), [], o4a x t) := by kernel_rfl
theorem ob4a {x : Nat} {t : List UInt8} (hx : x < 9218868437227405312) (hf : formatM x = some t) (hg : formatM (negM x) = some ([45] ++ t)) (hl : t.length ≤ 22) (hp : parseM t = some (x, 0)) : allOb (o4a x t) := by
  unfold o4a
  exact allOb_cons (txt_num (Nat.lt_trans hx (by decide)) hf) (allOb_cons (txt_str _) (allOb_cons (by show List.length _ + List.length _ ≤ 40 ∧ _ = _ ++ _; refine ⟨?_, ?_⟩; (simp only [List.length_append, List.length_cons, List.length_nil]; omega); (simp)) (allOb_cons (txt_str _) (allOb_cons (by show List.length _ + List.length _ + 1 ≤ 200; simp only [List.length_append, List.length_cons, List.length_nil]; omega) (allOb_nil)))))
theorem v4b (x : Nat) (t : List UInt8) : endR (coLA 1000 40 60 0 V.nil V.nil 0 (q4b x t) (ld1 (pgR (rows4.map (rPut x))) ts0 0)) = some ((⟨3, V.nil, 9⟩, 0, u4b t, 0, 1), [], o4b x t) := by kernel_rfl
theorem ob4b {x : Nat} {t : List UInt8} (hx : x < 9218868437227405312) (hf : formatM x = some t) (hg : formatM (negM x) = some ([45] ++ t)) (hl : t.length ≤ 22) (hp : parseM t = some (x, 0)) : allOb (o4b x t) := by
  unfold o4b
  exact allOb_cons (txt_num (Nat.lt_trans hx (by decide)) hf) (allOb_cons (txt_str _) (allOb_cons (by show List.length _ + List.length _ ≤ 40 ∧ _ = _ ++ _; refine ⟨?_, ?_⟩; (simp only [List.length_append, List.length_cons, List.length_nil]; omega); (simp)) (allOb_nil)))
theorem op4 {x : Nat} {t : List UInt8} (hx : x < 9218868437227405312) (hf : formatM x = some t) (hL : newX [0, 4607182418800017408] x) (c : CSt) (m : VM) (hJ : JJ c m) : Two say4 0 0 t c m := by
  obtain ⟨t', f1, hn, hl, hp, hg⟩ := fmt_all hx
  rw [hf] at f1
  injection f1 with f1
  subst f1
  have ua : u4a t = (say4 t).out := by simp [u4a, say4]
  have ub : u4b t = (say4 t).short := by simp [u4b, say4]
  exact two_mk (run_mk (fr4 hx hn hl hp hL) (v4a x t) (ob4a hx hf hg hl hp) (by decide) (.inl ⟨rfl, by rw [ua]⟩)) (run_mk (fr4 hx hn hl hp hL) (v4b x t) (ob4b hx hf hg hl hp) (by decide) (.inr ⟨rfl, by rw [ub]⟩)) c m hJ
def nsC4x0 : List Nd := [⟨0, 0, 0, 0, 0, 0, [], 0⟩, ⟨15, 0, 0, 0, 0, 0, [], 0⟩, ⟨1, 1, 0, 0, 6, 0, [97], 0⟩, ⟨13, 0, 0, 0, 0, 0, [], 0⟩, ⟨15, 0, 0, 0, 0, 0, [], 0⟩, ⟨1, 4, 0, 0, 0, 0, [97], 0⟩, ⟨6, 3, 5, 0, 12, 0, [], 0⟩, ⟨17, 0, 0, 0, 0, 0, [112, 114, 105, 110, 116], 0⟩, ⟨17, 0, 0, 0, 0, 0, [97], 0⟩, ⟨16, 0, 0, 0, 0, 0, [], 0⟩, ⟨22, 8, 9, 0, 0, 20, [], 0⟩, ⟨19, 7, 10, 0, 0, 0, [], 0⟩, ⟨5, 11, 0, 0, 0, 0, [], 0⟩]
def rootC4x0 : Int := 2
def rowsC4x0 : List Rw := [⟨0, 2, [], [⟨2, 0, []⟩, ⟨3, 0, [112, 114, 105, 110, 116]⟩, ⟨3, 0, []⟩], [(1, 0), (6, 0), (3, 0), (22, 8), (1, 0), (6, 1), (29, 1), (21, 8), (9, 1), (5, 0), (1, 2), (17, 0), (26, 1), (25, 0), (25, 0), (29, 0), (2, 0), (2, 0), (27, 0)]⟩]
def srcC4x0 : List UInt8 := [108, 111, 99, 97, 108, 32, 97, 32, 61, 32, 48, 32, 105, 102, 32, 116, 114, 117, 101, 32, 116, 104, 101, 110, 32, 108, 111, 99, 97, 108, 32, 97, 32, 61, 32, 48, 32, 101, 110, 100, 32, 112, 114, 105, 110, 116, 40, 97, 32, 46, 46, 32, 34, 34, 41]
def qC4x0a : HQ := List.replicate 2 none
def oC4x0a : List Ob := []
def uC4x0a : List UInt8 := [48, 10]
def qC4x0b : HQ := List.replicate 2 none
def oC4x0b : List Ob := []
def uC4x0b : List UInt8 := []
theorem cpC4x0 : CompK nsC4x0 rootC4x0 1 rowsC4x0 := by
  intro n r0 r1 r2 r3 r4 r5 r6 r7 r8 r9 r10 r11 r12
  kernel_rfl
theorem prC4x0 (src : List UInt8) (nodes0 : List Nd) : bind1 (bind1 (scanS 400 srcC4x0 0 0 []) (parT 400 src nodes0)) erP = some (nsC4x0, rootC4x0) := by kernel_rfl
theorem frC4x0 : Front srcC4x0 1 rowsC4x0 := by
  have e : rowsC4x0.map (rPut ((0 : Nat) : Int)) = rowsC4x0 := by kernel_rfl
  refine front_mk (ns := nsC4x0) (root := rootC4x0) (of_decide_eq_true (by kernel_rfl)) (e ▸ Rows.put (x := 0) (by decide) (by decide) (by decide) (by kernel_rfl) (by kernel_rfl) (of_decide_eq_true (by kernel_rfl))) (fun nodes0 => ?_) cpC4x0.all
  obtain ⟨z, hz, h⟩ := bnd1 (prC4x0 srcC4x0 nodes0)
  obtain ⟨r, hr, hz⟩ := bnd1 hz
  exact parse_of (ascii_of (by kernel_rfl)) hr nodes0 (by rw [hz]; exact h)
theorem vC4x0a : endR (coLA 1000 40 60 0 V.nil V.nil 0 qC4x0a (ld1 (pgR rowsC4x0) ts0 1)) = some ((⟨1, V.nil, 0⟩, 0, uC4x0a, 0, 1), [], oC4x0a) := by kernel_rfl
theorem obC4x0a : allOb oC4x0a := by
  unfold oC4x0a
  exact allOb_nil
theorem vC4x0b : endR (coLA 1000 40 60 0 V.nil V.nil 0 qC4x0b (ld1 (pgR rowsC4x0) ts0 0)) = some ((⟨3, V.nil, 9⟩, 0, uC4x0b, 0, 1), [], oC4x0b) := by kernel_rfl
theorem obC4x0b : allOb oC4x0b := by
  unfold oC4x0b
  exact allOb_nil
theorem opC4x0 (c : CSt) (m : VM) (hJ : JJ c m) : Two say4 0 0 [48] c m := by
  exact two_mk (src := srcC4x0) (run_mk frC4x0 vC4x0a obC4x0a (by decide) (.inl ⟨rfl, rfl⟩)) (run_mk frC4x0 vC4x0b obC4x0b (by decide) (.inr ⟨rfl, rfl⟩)) c m hJ
def nsC4x1 : List Nd := [⟨0, 0, 0, 0, 0, 0, [], 0⟩, ⟨15, 0, 0, 0, 0, 4607182418800017408, [], 0⟩, ⟨1, 1, 0, 0, 6, 0, [97], 0⟩, ⟨13, 0, 0, 0, 0, 0, [], 0⟩, ⟨15, 0, 0, 0, 0, 0, [], 0⟩, ⟨1, 4, 0, 0, 0, 0, [97], 0⟩, ⟨6, 3, 5, 0, 12, 0, [], 0⟩, ⟨17, 0, 0, 0, 0, 0, [112, 114, 105, 110, 116], 0⟩, ⟨17, 0, 0, 0, 0, 0, [97], 0⟩, ⟨16, 0, 0, 0, 0, 0, [], 0⟩, ⟨22, 8, 9, 0, 0, 20, [], 0⟩, ⟨19, 7, 10, 0, 0, 0, [], 0⟩, ⟨5, 11, 0, 0, 0, 0, [], 0⟩]
def rootC4x1 : Int := 2
def rowsC4x1 : List Rw := [⟨0, 2, [], [⟨2, 4607182418800017408, []⟩, ⟨2, 0, []⟩, ⟨3, 0, [112, 114, 105, 110, 116]⟩, ⟨3, 0, []⟩], [(1, 0), (6, 0), (3, 0), (22, 8), (1, 1), (6, 1), (29, 1), (21, 8), (9, 2), (5, 0), (1, 3), (17, 0), (26, 1), (25, 0), (25, 0), (29, 0), (2, 0), (2, 0), (27, 0)]⟩]
def srcC4x1 : List UInt8 := [108, 111, 99, 97, 108, 32, 97, 32, 61, 32, 49, 32, 105, 102, 32, 116, 114, 117, 101, 32, 116, 104, 101, 110, 32, 108, 111, 99, 97, 108, 32, 97, 32, 61, 32, 48, 32, 101, 110, 100, 32, 112, 114, 105, 110, 116, 40, 97, 32, 46, 46, 32, 34, 34, 41]
def qC4x1a : HQ := List.replicate 2 none
def oC4x1a : List Ob := []
def uC4x1a : List UInt8 := [49, 10]
def qC4x1b : HQ := List.replicate 2 none
def oC4x1b : List Ob := []
def uC4x1b : List UInt8 := []
theorem cpC4x1 : CompK nsC4x1 rootC4x1 1 rowsC4x1 := by
  intro n r0 r1 r2 r3 r4 r5 r6 r7 r8 r9 r10 r11 r12
  kernel_rfl
theorem prC4x1 (src : List UInt8) (nodes0 : List Nd) : bind1 (bind1 (scanS 400 srcC4x1 0 0 []) (parT 400 src nodes0)) erP = some (nsC4x1, rootC4x1) := by kernel_rfl
theorem frC4x1 : Front srcC4x1 1 rowsC4x1 := by
  have e : rowsC4x1.map (rPut ((0 : Nat) : Int)) = rowsC4x1 := by kernel_rfl
  refine front_mk (ns := nsC4x1) (root := rootC4x1) (of_decide_eq_true (by kernel_rfl)) (e ▸ Rows.put (x := 0) (by decide) (by decide) (by decide) (by kernel_rfl) (by kernel_rfl) (of_decide_eq_true (by kernel_rfl))) (fun nodes0 => ?_) cpC4x1.all
  obtain ⟨z, hz, h⟩ := bnd1 (prC4x1 srcC4x1 nodes0)
  obtain ⟨r, hr, hz⟩ := bnd1 hz
  exact parse_of (ascii_of (by kernel_rfl)) hr nodes0 (by rw [hz]; exact h)
theorem vC4x1a : endR (coLA 1000 40 60 0 V.nil V.nil 0 qC4x1a (ld1 (pgR rowsC4x1) ts0 1)) = some ((⟨1, V.nil, 0⟩, 0, uC4x1a, 0, 1), [], oC4x1a) := by kernel_rfl
theorem obC4x1a : allOb oC4x1a := by
  unfold oC4x1a
  exact allOb_nil
theorem vC4x1b : endR (coLA 1000 40 60 0 V.nil V.nil 0 qC4x1b (ld1 (pgR rowsC4x1) ts0 0)) = some ((⟨3, V.nil, 9⟩, 0, uC4x1b, 0, 1), [], oC4x1b) := by kernel_rfl
theorem obC4x1b : allOb oC4x1b := by
  unfold oC4x1b
  exact allOb_nil
theorem opC4x1 (c : CSt) (m : VM) (hJ : JJ c m) : Two say4 0 0 [49] c m := by
  exact two_mk (src := srcC4x1) (run_mk frC4x1 vC4x1a obC4x1a (by decide) (.inl ⟨rfl, rfl⟩)) (run_mk frC4x1 vC4x1b obC4x1b (by decide) (.inr ⟨rfl, rfl⟩)) c m hJ
theorem one4 {x : Nat} {t : List UInt8} (hx : x < 9218868437227405312) (hf : formatM x = some t) (c : CSt) (m : VM) (hJ : JJ c m) : Two say4 0 0 t c m := by
  by_cases h0 : x = 0
  · subst h0
    have e : formatM 0 = some [48] := by kernel_rfl
    rw [e] at hf
    injection hf with hf
    subst hf
    exact opC4x0 c m hJ
  by_cases h1 : x = 4607182418800017408
  · subst h1
    have e : formatM 4607182418800017408 = some [49] := by kernel_rfl
    rw [e] at hf
    injection hf with hf
    subst hf
    exact opC4x1 c m hJ
  refine op4 hx hf ?_ c m hJ
  intro z hz
  simp only [List.mem_cons, List.not_mem_nil, or_false] at hz
  rcases hz with rfl | rfl <;> omega
def ns13 : List Nd := [⟨0, 0, 0, 0, 0, 0, [], 0⟩, ⟨15, 0, 0, 0, 0, 0, [], 0⟩, ⟨1, 1, 0, 0, 9, 0, [97], 0⟩, ⟨17, 0, 0, 0, 0, 0, [97], 0⟩, ⟨15, 0, 0, 0, 0, -1, [], 0⟩, ⟨4, 3, 4, 0, 0, 0, [], 0⟩, ⟨20, 0, 5, 0, 0, 2, [], 0⟩, ⟨10, 6, 0, 0, 0, 0, [], 0⟩, ⟨20, 0, 7, 0, 0, 1, [], 0⟩, ⟨3, 8, 0, 0, 13, 0, [102], 0⟩, ⟨17, 0, 0, 0, 0, 0, [102], 0⟩, ⟨19, 10, 0, 0, 0, 0, [], 0⟩, ⟨19, 11, 0, 0, 0, 0, [], 0⟩, ⟨5, 12, 0, 0, 17, 0, [], 0⟩, ⟨17, 0, 0, 0, 0, 0, [112, 114, 105, 110, 116], 0⟩, ⟨17, 0, 0, 0, 0, 0, [97], 0⟩, ⟨19, 14, 15, 0, 0, 0, [], 0⟩, ⟨5, 16, 0, 0, 0, 0, [], 0⟩]
def root13 : Int := 2
def rows13 : List Rw := [⟨0, 2, [], [⟨2, 0, []⟩, ⟨3, 0, [112, 114, 105, 110, 116]⟩], [(1, 0), (6, 0), (28, 1), (6, 1), (5, 1), (26, 0), (25, 0), (26, 0), (25, 0), (25, 0), (9, 1), (5, 0), (26, 1), (25, 0), (25, 0), (29, 0), (2, 0), (2, 0), (27, 0)]⟩, ⟨0, 0, [(1, 0)], [], [(28, 2), (2, 0), (27, 0), (2, 0), (2, 0), (27, 0)]⟩, ⟨0, 0, [(0, 0)], [⟨2, -1, []⟩], [(1, 0), (8, 0), (2, 0), (2, 0), (27, 0)]⟩]
def q13a (x : Nat) (t : List UInt8) : HQ := [some ⟨t, [], [], 0⟩]
def o13a (x : Nat) (t : List UInt8) : List Ob := [.txt ⟨2, ((x : Nat) : Int), []⟩ t, .out [] t]
def u13a (t : List UInt8) : List UInt8 := (([] ++ t) ++ [10])
def q13b (x : Nat) (t : List UInt8) : HQ := [none]
def o13b (x : Nat) (t : List UInt8) : List Ob := []
def u13b (t : List UInt8) : List UInt8 := []
theorem cp13 : CompK ns13 root13 3 rows13 := by
  intro n r0 r1 r2 r3 r4 r5 r6 r7 r8 r9 r10 r11 r12
  kernel_rfl
def p13_0 : List UInt8 := [108, 111, 99, 97, 108, 32, 97, 32, 61, 32, 48, 32, 108, 111, 99, 97, 108, 32, 102, 117, 110, 99, 116, 105, 111, 110, 32, 102, 40, 41, 32, 114, 101, 116, 117, 114, 110, 32, 102, 117, 110, 99, 116, 105, 111, 110, 40, 41, 32, 97, 32, 61, 32]
def p13_1 : List UInt8 := [32, 101, 110, 100, 32, 101, 110, 100, 32, 102, 40, 41, 40, 41, 32, 112, 114, 105, 110, 116, 40, 97, 41]
theorem lx13 (w : List UInt8) : scanW w 400 p13_0 0 0 [] = some (347, 53, 0, tkP 400 p13_0 0) := by kernel_rfl
theorem pr13 (x len : Nat) (src : List UInt8) (nodes0 : List Nd) : bind1 (bind1 (scanS 200 p13_1 (53 + len) 0 (tkP 400 p13_0 0 ++ [⟨3, 53, [], ((x : Nat) : Int), 0⟩])) (parT 400 src nodes0)) erP = some (ns13.map (nPut x), root13) := by kernel_rfl
theorem fr13 {x : Nat} {t : List UInt8} (hx : x < 9218868437227405312) (hn : NumT t) (hl : t.length ≤ 22) (hp : parseM t = some (x, 0)) (hL : newX [0, 4607182418800017408] x) : Front (say13 t).src 3 (rows13.map (rPut x)) := by
  refine front_mk (ns := ns13.map (nPut x)) (root := root13) ?_ (Rows.put hx (by decide) (by decide) (by kernel_rfl) (by kernel_rfl) (of_decide_eq_true (by kernel_rfl))) (fun nodes0 => ?_) (comp_open cp13 hL (fun z => hL 4607182418800017408 (by simp) z.symm) (by kernel_rfl) (by kernel_rfl))
  · show (((p13_0 ++ t) ++ p13_1)).length ≤ 2048
    simp only [List.length_append]
    have e : p13_0.length + p13_1.length ≤ 1000 := of_decide_eq_true (by kernel_rfl)
    omega
  · show bind1 (bind1 (scanL 400 ((p13_0 ++ t) ++ p13_1) 0 0 []) (parT 400 ((p13_0 ++ t) ++ p13_1) nodes0)) erP = _
    have h := pr13 x t.length ((p13_0 ++ t) ++ p13_1) nodes0
    obtain ⟨z, hz, h⟩ := bnd1 h
    obtain ⟨r, hr, hz⟩ := bnd1 hz
    refine parse_of (r := r) (ascii_app (ascii_app (ascii_of (by kernel_rfl)) (num_ascii hn)) (ascii_of (by kernel_rfl))) ?_ nodes0 ?_
    · rw [List.append_assoc]
      exact pre_step (lx13 _) (num_step hn hl (by refine ⟨?_, ?_, ?_⟩ <;> decide) hp (of_decide_eq_true (by kernel_rfl)) hr (by decide))
    · rw [hz]; exact h
theorem v13a (x : Nat) (t : List UInt8) : endR (coLA 1000 40 60 0 V.nil V.nil 0 (q13a x t) (ld1 (pgR (rows13.map (rPut x))) ts0 3)) = some ((⟨1, V.nil, 0⟩, 0, u13a t, 0, 1), [], o13a x t) := by kernel_rfl
theorem ob13a {x : Nat} {t : List UInt8} (hx : x < 9218868437227405312) (hf : formatM x = some t) (hg : formatM (negM x) = some ([45] ++ t)) (hl : t.length ≤ 22) (hp : parseM t = some (x, 0)) : allOb (o13a x t) := by
  unfold o13a
  exact allOb_cons (txt_num (Nat.lt_trans hx (by decide)) hf) (allOb_cons (by show List.length _ + List.length _ + 1 ≤ 200; simp only [List.length_append, List.length_cons, List.length_nil]; omega) (allOb_nil))
theorem v13b (x : Nat) (t : List UInt8) : endR (coLA 1000 40 60 0 V.nil V.nil 0 (q13b x t) (ld1 (pgR (rows13.map (rPut x))) ts0 2)) = some ((⟨3, V.nil, 9⟩, 0, u13b t, 0, 1), [], o13b x t) := by kernel_rfl
theorem ob13b {x : Nat} {t : List UInt8} (hx : x < 9218868437227405312) (hf : formatM x = some t) (hg : formatM (negM x) = some ([45] ++ t)) (hl : t.length ≤ 22) (hp : parseM t = some (x, 0)) : allOb (o13b x t) := by
  unfold o13b
  exact allOb_nil
theorem op13 {x : Nat} {t : List UInt8} (hx : x < 9218868437227405312) (hf : formatM x = some t) (hL : newX [0, 4607182418800017408] x) (c : CSt) (m : VM) (hJ : JJ c m) : Two say13 0 0 t c m := by
  obtain ⟨t', f1, hn, hl, hp, hg⟩ := fmt_all hx
  rw [hf] at f1
  injection f1 with f1
  subst f1
  have ua : u13a t = (say13 t).out := by simp [u13a, say13]
  have ub : u13b t = (say13 t).short := by simp [u13b, say13]
  exact two_mk (run_mk (fr13 hx hn hl hp hL) (v13a x t) (ob13a hx hf hg hl hp) (by decide) (.inl ⟨rfl, by rw [ua]⟩)) (run_mk (fr13 hx hn hl hp hL) (v13b x t) (ob13b hx hf hg hl hp) (by decide) (.inr ⟨rfl, by rw [ub]⟩)) c m hJ
def nsC13x0 : List Nd := [⟨0, 0, 0, 0, 0, 0, [], 0⟩, ⟨15, 0, 0, 0, 0, 0, [], 0⟩, ⟨1, 1, 0, 0, 9, 0, [97], 0⟩, ⟨17, 0, 0, 0, 0, 0, [97], 0⟩, ⟨15, 0, 0, 0, 0, 0, [], 0⟩, ⟨4, 3, 4, 0, 0, 0, [], 0⟩, ⟨20, 0, 5, 0, 0, 2, [], 0⟩, ⟨10, 6, 0, 0, 0, 0, [], 0⟩, ⟨20, 0, 7, 0, 0, 1, [], 0⟩, ⟨3, 8, 0, 0, 13, 0, [102], 0⟩, ⟨17, 0, 0, 0, 0, 0, [102], 0⟩, ⟨19, 10, 0, 0, 0, 0, [], 0⟩, ⟨19, 11, 0, 0, 0, 0, [], 0⟩, ⟨5, 12, 0, 0, 17, 0, [], 0⟩, ⟨17, 0, 0, 0, 0, 0, [112, 114, 105, 110, 116], 0⟩, ⟨17, 0, 0, 0, 0, 0, [97], 0⟩, ⟨19, 14, 15, 0, 0, 0, [], 0⟩, ⟨5, 16, 0, 0, 0, 0, [], 0⟩]
def rootC13x0 : Int := 2
def rowsC13x0 : List Rw := [⟨0, 2, [], [⟨2, 0, []⟩, ⟨3, 0, [112, 114, 105, 110, 116]⟩], [(1, 0), (6, 0), (28, 1), (6, 1), (5, 1), (26, 0), (25, 0), (26, 0), (25, 0), (25, 0), (9, 1), (5, 0), (26, 1), (25, 0), (25, 0), (29, 0), (2, 0), (2, 0), (27, 0)]⟩, ⟨0, 0, [(1, 0)], [], [(28, 2), (2, 0), (27, 0), (2, 0), (2, 0), (27, 0)]⟩, ⟨0, 0, [(0, 0)], [⟨2, 0, []⟩], [(1, 0), (8, 0), (2, 0), (2, 0), (27, 0)]⟩]
def srcC13x0 : List UInt8 := [108, 111, 99, 97, 108, 32, 97, 32, 61, 32, 48, 32, 108, 111, 99, 97, 108, 32, 102, 117, 110, 99, 116, 105, 111, 110, 32, 102, 40, 41, 32, 114, 101, 116, 117, 114, 110, 32, 102, 117, 110, 99, 116, 105, 111, 110, 40, 41, 32, 97, 32, 61, 32, 48, 32, 101, 110, 100, 32, 101, 110, 100, 32, 102, 40, 41, 40, 41, 32, 112, 114, 105, 110, 116, 40, 97, 41]
def qC13x0a : HQ := List.replicate 1 none
def oC13x0a : List Ob := []
def uC13x0a : List UInt8 := [48, 10]
def qC13x0b : HQ := List.replicate 1 none
def oC13x0b : List Ob := []
def uC13x0b : List UInt8 := []
theorem cpC13x0 : CompK nsC13x0 rootC13x0 3 rowsC13x0 := by
  intro n r0 r1 r2 r3 r4 r5 r6 r7 r8 r9 r10 r11 r12
  kernel_rfl
theorem prC13x0 (src : List UInt8) (nodes0 : List Nd) : bind1 (bind1 (scanS 400 srcC13x0 0 0 []) (parT 400 src nodes0)) erP = some (nsC13x0, rootC13x0) := by kernel_rfl
theorem frC13x0 : Front srcC13x0 3 rowsC13x0 := by
  have e : rowsC13x0.map (rPut ((0 : Nat) : Int)) = rowsC13x0 := by kernel_rfl
  refine front_mk (ns := nsC13x0) (root := rootC13x0) (of_decide_eq_true (by kernel_rfl)) (e ▸ Rows.put (x := 0) (by decide) (by decide) (by decide) (by kernel_rfl) (by kernel_rfl) (of_decide_eq_true (by kernel_rfl))) (fun nodes0 => ?_) cpC13x0.all
  obtain ⟨z, hz, h⟩ := bnd1 (prC13x0 srcC13x0 nodes0)
  obtain ⟨r, hr, hz⟩ := bnd1 hz
  exact parse_of (ascii_of (by kernel_rfl)) hr nodes0 (by rw [hz]; exact h)
theorem vC13x0a : endR (coLA 1000 40 60 0 V.nil V.nil 0 qC13x0a (ld1 (pgR rowsC13x0) ts0 3)) = some ((⟨1, V.nil, 0⟩, 0, uC13x0a, 0, 1), [], oC13x0a) := by kernel_rfl
theorem obC13x0a : allOb oC13x0a := by
  unfold oC13x0a
  exact allOb_nil
theorem vC13x0b : endR (coLA 1000 40 60 0 V.nil V.nil 0 qC13x0b (ld1 (pgR rowsC13x0) ts0 2)) = some ((⟨3, V.nil, 9⟩, 0, uC13x0b, 0, 1), [], oC13x0b) := by kernel_rfl
theorem obC13x0b : allOb oC13x0b := by
  unfold oC13x0b
  exact allOb_nil
theorem opC13x0 (c : CSt) (m : VM) (hJ : JJ c m) : Two say13 0 0 [48] c m := by
  exact two_mk (src := srcC13x0) (run_mk frC13x0 vC13x0a obC13x0a (by decide) (.inl ⟨rfl, rfl⟩)) (run_mk frC13x0 vC13x0b obC13x0b (by decide) (.inr ⟨rfl, rfl⟩)) c m hJ
def nsC13x1 : List Nd := [⟨0, 0, 0, 0, 0, 0, [], 0⟩, ⟨15, 0, 0, 0, 0, 0, [], 0⟩, ⟨1, 1, 0, 0, 9, 0, [97], 0⟩, ⟨17, 0, 0, 0, 0, 0, [97], 0⟩, ⟨15, 0, 0, 0, 0, 4607182418800017408, [], 0⟩, ⟨4, 3, 4, 0, 0, 0, [], 0⟩, ⟨20, 0, 5, 0, 0, 2, [], 0⟩, ⟨10, 6, 0, 0, 0, 0, [], 0⟩, ⟨20, 0, 7, 0, 0, 1, [], 0⟩, ⟨3, 8, 0, 0, 13, 0, [102], 0⟩, ⟨17, 0, 0, 0, 0, 0, [102], 0⟩, ⟨19, 10, 0, 0, 0, 0, [], 0⟩, ⟨19, 11, 0, 0, 0, 0, [], 0⟩, ⟨5, 12, 0, 0, 17, 0, [], 0⟩, ⟨17, 0, 0, 0, 0, 0, [112, 114, 105, 110, 116], 0⟩, ⟨17, 0, 0, 0, 0, 0, [97], 0⟩, ⟨19, 14, 15, 0, 0, 0, [], 0⟩, ⟨5, 16, 0, 0, 0, 0, [], 0⟩]
def rootC13x1 : Int := 2
def rowsC13x1 : List Rw := [⟨0, 2, [], [⟨2, 0, []⟩, ⟨3, 0, [112, 114, 105, 110, 116]⟩], [(1, 0), (6, 0), (28, 1), (6, 1), (5, 1), (26, 0), (25, 0), (26, 0), (25, 0), (25, 0), (9, 1), (5, 0), (26, 1), (25, 0), (25, 0), (29, 0), (2, 0), (2, 0), (27, 0)]⟩, ⟨0, 0, [(1, 0)], [], [(28, 2), (2, 0), (27, 0), (2, 0), (2, 0), (27, 0)]⟩, ⟨0, 0, [(0, 0)], [⟨2, 4607182418800017408, []⟩], [(1, 0), (8, 0), (2, 0), (2, 0), (27, 0)]⟩]
def srcC13x1 : List UInt8 := [108, 111, 99, 97, 108, 32, 97, 32, 61, 32, 48, 32, 108, 111, 99, 97, 108, 32, 102, 117, 110, 99, 116, 105, 111, 110, 32, 102, 40, 41, 32, 114, 101, 116, 117, 114, 110, 32, 102, 117, 110, 99, 116, 105, 111, 110, 40, 41, 32, 97, 32, 61, 32, 49, 32, 101, 110, 100, 32, 101, 110, 100, 32, 102, 40, 41, 40, 41, 32, 112, 114, 105, 110, 116, 40, 97, 41]
def qC13x1a : HQ := List.replicate 1 none
def oC13x1a : List Ob := []
def uC13x1a : List UInt8 := [49, 10]
def qC13x1b : HQ := List.replicate 1 none
def oC13x1b : List Ob := []
def uC13x1b : List UInt8 := []
theorem cpC13x1 : CompK nsC13x1 rootC13x1 3 rowsC13x1 := by
  intro n r0 r1 r2 r3 r4 r5 r6 r7 r8 r9 r10 r11 r12
  kernel_rfl
theorem prC13x1 (src : List UInt8) (nodes0 : List Nd) : bind1 (bind1 (scanS 400 srcC13x1 0 0 []) (parT 400 src nodes0)) erP = some (nsC13x1, rootC13x1) := by kernel_rfl
theorem frC13x1 : Front srcC13x1 3 rowsC13x1 := by
  have e : rowsC13x1.map (rPut ((0 : Nat) : Int)) = rowsC13x1 := by kernel_rfl
  refine front_mk (ns := nsC13x1) (root := rootC13x1) (of_decide_eq_true (by kernel_rfl)) (e ▸ Rows.put (x := 0) (by decide) (by decide) (by decide) (by kernel_rfl) (by kernel_rfl) (of_decide_eq_true (by kernel_rfl))) (fun nodes0 => ?_) cpC13x1.all
  obtain ⟨z, hz, h⟩ := bnd1 (prC13x1 srcC13x1 nodes0)
  obtain ⟨r, hr, hz⟩ := bnd1 hz
  exact parse_of (ascii_of (by kernel_rfl)) hr nodes0 (by rw [hz]; exact h)
theorem vC13x1a : endR (coLA 1000 40 60 0 V.nil V.nil 0 qC13x1a (ld1 (pgR rowsC13x1) ts0 3)) = some ((⟨1, V.nil, 0⟩, 0, uC13x1a, 0, 1), [], oC13x1a) := by kernel_rfl
theorem obC13x1a : allOb oC13x1a := by
  unfold oC13x1a
  exact allOb_nil
theorem vC13x1b : endR (coLA 1000 40 60 0 V.nil V.nil 0 qC13x1b (ld1 (pgR rowsC13x1) ts0 2)) = some ((⟨3, V.nil, 9⟩, 0, uC13x1b, 0, 1), [], oC13x1b) := by kernel_rfl
theorem obC13x1b : allOb oC13x1b := by
  unfold oC13x1b
  exact allOb_nil
theorem opC13x1 (c : CSt) (m : VM) (hJ : JJ c m) : Two say13 0 0 [49] c m := by
  exact two_mk (src := srcC13x1) (run_mk frC13x1 vC13x1a obC13x1a (by decide) (.inl ⟨rfl, rfl⟩)) (run_mk frC13x1 vC13x1b obC13x1b (by decide) (.inr ⟨rfl, rfl⟩)) c m hJ
theorem one13 {x : Nat} {t : List UInt8} (hx : x < 9218868437227405312) (hf : formatM x = some t) (c : CSt) (m : VM) (hJ : JJ c m) : Two say13 0 0 t c m := by
  by_cases h0 : x = 0
  · subst h0
    have e : formatM 0 = some [48] := by kernel_rfl
    rw [e] at hf
    injection hf with hf
    subst hf
    exact opC13x0 c m hJ
  by_cases h1 : x = 4607182418800017408
  · subst h1
    have e : formatM 4607182418800017408 = some [49] := by kernel_rfl
    rw [e] at hf
    injection hf with hf
    subst hf
    exact opC13x1 c m hJ
  refine op13 hx hf ?_ c m hJ
  intro z hz
  simp only [List.mem_cons, List.not_mem_nil, or_false] at hz
  rcases hz with rfl | rfl <;> omega
def nsC22x0 : List Nd := [⟨0, 0, 0, 0, 0, 0, [], 0⟩, ⟨17, 0, 0, 0, 0, 0, [112, 114, 105, 110, 116], 0⟩, ⟨15, 0, 0, 0, 0, 4619567317775286272, [], 0⟩, ⟨15, 0, 0, 0, 0, 4611686018427387904, [], 0⟩, ⟨22, 2, 3, 0, 0, 1, [], 0⟩, ⟨19, 1, 4, 0, 0, 0, [], 0⟩, ⟨5, 5, 0, 0, 12, 0, [], 0⟩, ⟨17, 0, 0, 0, 0, 0, [112, 114, 105, 110, 116], 0⟩, ⟨15, 0, 0, 0, 0, 4619567317775286272, [], 0⟩, ⟨15, 0, 0, 0, 0, 4611686018427387904, [], 0⟩, ⟨22, 8, 9, 0, 0, 2, [], 0⟩, ⟨19, 7, 10, 0, 0, 0, [], 0⟩, ⟨5, 11, 0, 0, 18, 0, [], 0⟩, ⟨17, 0, 0, 0, 0, 0, [112, 114, 105, 110, 116], 0⟩, ⟨15, 0, 0, 0, 0, 4619567317775286272, [], 0⟩, ⟨15, 0, 0, 0, 0, 4611686018427387904, [], 0⟩, ⟨22, 14, 15, 0, 0, 3, [], 0⟩, ⟨19, 13, 16, 0, 0, 0, [], 0⟩, ⟨5, 17, 0, 0, 24, 0, [], 0⟩, ⟨17, 0, 0, 0, 0, 0, [112, 114, 105, 110, 116], 0⟩, ⟨15, 0, 0, 0, 0, 4619567317775286272, [], 0⟩, ⟨15, 0, 0, 0, 0, 4611686018427387904, [], 0⟩, ⟨22, 20, 21, 0, 0, 4, [], 0⟩, ⟨19, 19, 22, 0, 0, 0, [], 0⟩, ⟨5, 23, 0, 0, 30, 0, [], 0⟩, ⟨17, 0, 0, 0, 0, 0, [112, 114, 105, 110, 116], 0⟩, ⟨15, 0, 0, 0, 0, 4619567317775286272, [], 0⟩, ⟨15, 0, 0, 0, 0, 4611686018427387904, [], 0⟩, ⟨22, 26, 27, 0, 0, 5, [], 0⟩, ⟨19, 25, 28, 0, 0, 0, [], 0⟩, ⟨5, 29, 0, 0, 36, 0, [], 0⟩, ⟨17, 0, 0, 0, 0, 0, [112, 114, 105, 110, 116], 0⟩, ⟨15, 0, 0, 0, 0, 4619567317775286272, [], 0⟩, ⟨15, 0, 0, 0, 0, 4611686018427387904, [], 0⟩, ⟨22, 32, 33, 0, 0, 6, [], 0⟩, ⟨19, 31, 34, 0, 0, 0, [], 0⟩, ⟨5, 35, 0, 0, 0, 0, [], 0⟩]
def rootC22x0 : Int := 6
def rowsC22x0 : List Rw := [⟨0, 0, [], [⟨3, 0, [112, 114, 105, 110, 116]⟩, ⟨2, 4619567317775286272, []⟩, ⟨2, 4611686018427387904, []⟩], [(9, 0), (1, 1), (1, 2), (15, 1), (26, 1), (25, 0), (25, 0), (9, 0), (1, 1), (1, 2), (15, 2), (26, 1), (25, 0), (25, 0), (9, 0), (1, 1), (1, 2), (15, 3), (26, 1), (25, 0), (25, 0), (9, 0), (1, 1), (1, 2), (15, 4), (26, 1), (25, 0), (25, 0), (9, 0), (1, 1), (1, 2), (15, 5), (26, 1), (25, 0), (25, 0), (9, 0), (1, 1), (1, 2), (15, 6), (26, 1), (25, 0), (25, 0), (2, 0), (2, 0), (27, 0)]⟩]
def srcC22x0 : List UInt8 := [112, 114, 105, 110, 116, 40, 55, 32, 43, 32, 50, 41, 32, 112, 114, 105, 110, 116, 40, 55, 32, 45, 32, 50, 41, 32, 112, 114, 105, 110, 116, 40, 55, 32, 42, 32, 50, 41, 32, 112, 114, 105, 110, 116, 40, 55, 32, 47, 32, 50, 41, 32, 112, 114, 105, 110, 116, 40, 55, 32, 47, 47, 32, 50, 41, 32, 112, 114, 105, 110, 116, 40, 55, 32, 37, 32, 50, 41]
def qC22x0a : HQ := List.replicate 12 none
def oC22x0a : List Ob := []
def uC22x0a : List UInt8 := [57, 10, 53, 10, 49, 52, 10, 55, 112, 45, 49, 10, 51, 10, 49, 10]
def qC22x0b : HQ := List.replicate 12 none
def oC22x0b : List Ob := []
def uC22x0b : List UInt8 := [57, 10, 53, 10, 49, 52, 10, 55, 112, 45, 49, 10, 51, 10]
theorem cpC22x0 : CompK nsC22x0 rootC22x0 1 rowsC22x0 := by
  intro n r0 r1 r2 r3 r4 r5 r6 r7 r8 r9 r10 r11 r12
  kernel_rfl
theorem prC22x0 (src : List UInt8) (nodes0 : List Nd) : bind1 (bind1 (scanS 400 srcC22x0 0 0 []) (parT 400 src nodes0)) erP = some (nsC22x0, rootC22x0) := by kernel_rfl
theorem frC22x0 : Front srcC22x0 1 rowsC22x0 := by
  have e : rowsC22x0.map (rPut ((0 : Nat) : Int)) = rowsC22x0 := by kernel_rfl
  refine front_mk (ns := nsC22x0) (root := rootC22x0) (of_decide_eq_true (by kernel_rfl)) (e ▸ Rows.put (x := 0) (by decide) (by decide) (by decide) (by kernel_rfl) (by kernel_rfl) (of_decide_eq_true (by kernel_rfl))) (fun nodes0 => ?_) cpC22x0.all
  obtain ⟨z, hz, h⟩ := bnd1 (prC22x0 srcC22x0 nodes0)
  obtain ⟨r, hr, hz⟩ := bnd1 hz
  exact parse_of (ascii_of (by kernel_rfl)) hr nodes0 (by rw [hz]; exact h)
theorem vC22x0a : endR (coLA 1000 40 60 0 V.nil V.nil 0 qC22x0a (ld1 (pgR rowsC22x0) ts0 6)) = some ((⟨1, V.nil, 0⟩, 0, uC22x0a, 0, 1), [], oC22x0a) := by kernel_rfl
theorem obC22x0a : allOb oC22x0a := by
  unfold oC22x0a
  exact allOb_nil
theorem vC22x0b : endR (coLA 1000 40 60 0 V.nil V.nil 0 qC22x0b (ld1 (pgR rowsC22x0) ts0 5)) = some ((⟨3, V.nil, 9⟩, 0, uC22x0b, 0, 1), [], oC22x0b) := by kernel_rfl
theorem obC22x0b : allOb oC22x0b := by
  unfold oC22x0b
  exact allOb_nil
theorem opC22x0 (t : List UInt8) (c : CSt) (m : VM) (hJ : JJ c m) : Two say22 0 0 t c m := by
  exact two_mk (src := srcC22x0) (run_mk frC22x0 vC22x0a obC22x0a (by decide) (.inl ⟨rfl, rfl⟩)) (run_mk frC22x0 vC22x0b obC22x0b (by decide) (.inr ⟨rfl, rfl⟩)) c m hJ
theorem one22 {x : Nat} {t : List UInt8} (hx : x < 9218868437227405312) (hf : formatM x = some t) (c : CSt) (m : VM) (hJ : JJ c m) : Two say22 0 0 t c m := opC22x0 t c m hJ
def ns31 : List Nd := [⟨0, 0, 0, 0, 0, 0, [], 0⟩, ⟨17, 0, 0, 0, 2, 0, [107], 0⟩, ⟨17, 0, 0, 0, 0, 0, [118], 0⟩, ⟨15, 0, 0, 0, 4, 4607182418800017408, [], 0⟩, ⟨15, 0, 0, 0, 5, 4611686018427387904, [], 0⟩, ⟨15, 0, 0, 0, 0, 4613937818241073152, [], 0⟩, ⟨21, 3, 0, 0, 0, 0, [], 0⟩, ⟨17, 0, 0, 0, 0, 0, [107], 0⟩, ⟨15, 0, 0, 0, 0, 4611686018427387904, [], 0⟩, ⟨22, 7, 8, 0, 0, 11, [], 0⟩, ⟨11, 0, 0, 0, 0, 0, [], 0⟩, ⟨6, 9, 10, 0, 15, 0, [], 0⟩, ⟨17, 0, 0, 0, 0, 0, [112, 114, 105, 110, 116], 0⟩, ⟨17, 0, 0, 0, 0, 0, [118], 0⟩, ⟨19, 12, 13, 0, 0, 0, [], 0⟩, ⟨5, 14, 0, 0, 0, 0, [], 0⟩, ⟨9, 1, 6, 11, 20, 0, [], 0⟩, ⟨17, 0, 0, 0, 0, 0, [112, 114, 105, 110, 116], 0⟩, ⟨15, 0, 0, 0, 0, -1, [], 0⟩, ⟨19, 17, 18, 0, 0, 0, [], 0⟩, ⟨5, 19, 0, 0, 0, 0, [], 0⟩]
def root31 : Int := 16
def rows31 : List Rw := [⟨0, 4, [], [⟨2, 4607182418800017408, []⟩, ⟨2, 4611686018427387904, []⟩, ⟨2, 4613937818241073152, []⟩, ⟨3, 0, [112, 114, 105, 110, 116]⟩, ⟨2, -1, []⟩], [(14, 0), (1, 0), (13, 1), (1, 1), (13, 2), (1, 2), (13, 3), (6, 0), (2, 0), (6, 1), (32, 0), (22, 26), (5, 2), (1, 1), (16, 1), (22, 19), (29, 0), (21, 26), (21, 19), (9, 3), (5, 3), (26, 1), (25, 0), (25, 0), (29, 2), (21, 10), (29, 0), (9, 3), (1, 4), (26, 1), (25, 0), (25, 0), (2, 0), (2, 0), (27, 0)]⟩]
def q31a (x : Nat) (t : List UInt8) : HQ := [none, some ⟨t, [], [], 0⟩]
def o31a (x : Nat) (t : List UInt8) : List Ob := [.txt ⟨2, ((x : Nat) : Int), []⟩ t, .out [49, 10] t]
def u31a (t : List UInt8) : List UInt8 := (([49, 10] ++ t) ++ [10])
def q31b (x : Nat) (t : List UInt8) : HQ := [none, none]
def o31b (x : Nat) (t : List UInt8) : List Ob := []
def u31b (t : List UInt8) : List UInt8 := [49, 10]
theorem cp31 : CompK ns31 root31 1 rows31 := by
  intro n r0 r1 r2 r3 r4 r5 r6 r7 r8 r9 r10 r11 r12
  kernel_rfl
def p31_0 : List UInt8 := [102, 111, 114, 32, 107, 44, 32, 118, 32, 105, 110, 32, 123, 49, 44, 32, 50, 44, 32, 51, 125, 32, 100, 111, 32, 105, 102, 32, 107, 32, 61, 61, 32, 50, 32, 116, 104, 101, 110, 32, 98, 114, 101, 97, 107, 32, 101, 110, 100, 32, 112, 114, 105, 110, 116, 40, 118, 41, 32, 101, 110, 100, 32, 112, 114, 105, 110, 116, 40]
def p31_1 : List UInt8 := [41]
theorem lx31 (w : List UInt8) : scanW w 400 p31_0 0 0 [] = some (331, 69, 0, tkP 400 p31_0 0) := by kernel_rfl
theorem pr31 (x len : Nat) (src : List UInt8) (nodes0 : List Nd) : bind1 (bind1 (scanS 200 p31_1 (69 + len) 0 (tkP 400 p31_0 0 ++ [⟨3, 69, [], ((x : Nat) : Int), 0⟩])) (parT 400 src nodes0)) erP = some (ns31.map (nPut x), root31) := by kernel_rfl
theorem fr31 {x : Nat} {t : List UInt8} (hx : x < 9218868437227405312) (hn : NumT t) (hl : t.length ≤ 22) (hp : parseM t = some (x, 0)) (hL : newX [4607182418800017408, 4611686018427387904, 4613937818241073152] x) : Front (say31 t).src 1 (rows31.map (rPut x)) := by
  refine front_mk (ns := ns31.map (nPut x)) (root := root31) ?_ (Rows.put hx (by decide) (by decide) (by kernel_rfl) (by kernel_rfl) (of_decide_eq_true (by kernel_rfl))) (fun nodes0 => ?_) (comp_open cp31 hL (fun z => hL 4607182418800017408 (by simp) z.symm) (by kernel_rfl) (by kernel_rfl))
  · show (((p31_0 ++ t) ++ p31_1)).length ≤ 2048
    simp only [List.length_append]
    have e : p31_0.length + p31_1.length ≤ 1000 := of_decide_eq_true (by kernel_rfl)
    omega
  · show bind1 (bind1 (scanL 400 ((p31_0 ++ t) ++ p31_1) 0 0 []) (parT 400 ((p31_0 ++ t) ++ p31_1) nodes0)) erP = _
    have h := pr31 x t.length ((p31_0 ++ t) ++ p31_1) nodes0
    obtain ⟨z, hz, h⟩ := bnd1 h
    obtain ⟨r, hr, hz⟩ := bnd1 hz
    refine parse_of (r := r) (ascii_app (ascii_app (ascii_of (by kernel_rfl)) (num_ascii hn)) (ascii_of (by kernel_rfl))) ?_ nodes0 ?_
    · rw [List.append_assoc]
      exact pre_step (lx31 _) (num_step hn hl (by refine ⟨?_, ?_, ?_⟩ <;> decide) hp (of_decide_eq_true (by kernel_rfl)) hr (by decide))
    · rw [hz]; exact h
theorem v31a (x : Nat) (t : List UInt8) : endR (coLA 1000 40 60 0 V.nil V.nil 0 (q31a x t) (ld1 (pgR (rows31.map (rPut x))) ts0 3)) = some ((⟨1, V.nil, 0⟩, 0, u31a t, 0, 2), [], o31a x t) := by kernel_rfl
theorem ob31a {x : Nat} {t : List UInt8} (hx : x < 9218868437227405312) (hf : formatM x = some t) (hg : formatM (negM x) = some ([45] ++ t)) (hl : t.length ≤ 22) (hp : parseM t = some (x, 0)) : allOb (o31a x t) := by
  unfold o31a
  exact allOb_cons (txt_num (Nat.lt_trans hx (by decide)) hf) (allOb_cons (by show List.length _ + List.length _ + 1 ≤ 200; simp only [List.length_append, List.length_cons, List.length_nil]; omega) (allOb_nil))
theorem v31b (x : Nat) (t : List UInt8) : endR (coLA 1000 40 60 0 V.nil V.nil 0 (q31b x t) (ld1 (pgR (rows31.map (rPut x))) ts0 2)) = some ((⟨3, V.nil, 9⟩, 0, u31b t, 0, 2), [], o31b x t) := by kernel_rfl
theorem ob31b {x : Nat} {t : List UInt8} (hx : x < 9218868437227405312) (hf : formatM x = some t) (hg : formatM (negM x) = some ([45] ++ t)) (hl : t.length ≤ 22) (hp : parseM t = some (x, 0)) : allOb (o31b x t) := by
  unfold o31b
  exact allOb_nil
theorem op31 {x : Nat} {t : List UInt8} (hx : x < 9218868437227405312) (hf : formatM x = some t) (hL : newX [4607182418800017408, 4611686018427387904, 4613937818241073152] x) (c : CSt) (m : VM) (hJ : JJ c m) : Two say31 0 0 t c m := by
  obtain ⟨t', f1, hn, hl, hp, hg⟩ := fmt_all hx
  rw [hf] at f1
  injection f1 with f1
  subst f1
  have ua : u31a t = (say31 t).out := by simp [u31a, say31]
  have ub : u31b t = (say31 t).short := by simp [u31b, say31]
  exact two_mk (run_mk (fr31 hx hn hl hp hL) (v31a x t) (ob31a hx hf hg hl hp) (by decide) (.inl ⟨rfl, by rw [ua]⟩)) (run_mk (fr31 hx hn hl hp hL) (v31b x t) (ob31b hx hf hg hl hp) (by decide) (.inr ⟨rfl, by rw [ub]⟩)) c m hJ
def nsC31x0 : List Nd := [⟨0, 0, 0, 0, 0, 0, [], 0⟩, ⟨17, 0, 0, 0, 2, 0, [107], 0⟩, ⟨17, 0, 0, 0, 0, 0, [118], 0⟩, ⟨15, 0, 0, 0, 4, 4607182418800017408, [], 0⟩, ⟨15, 0, 0, 0, 5, 4611686018427387904, [], 0⟩, ⟨15, 0, 0, 0, 0, 4613937818241073152, [], 0⟩, ⟨21, 3, 0, 0, 0, 0, [], 0⟩, ⟨17, 0, 0, 0, 0, 0, [107], 0⟩, ⟨15, 0, 0, 0, 0, 4611686018427387904, [], 0⟩, ⟨22, 7, 8, 0, 0, 11, [], 0⟩, ⟨11, 0, 0, 0, 0, 0, [], 0⟩, ⟨6, 9, 10, 0, 15, 0, [], 0⟩, ⟨17, 0, 0, 0, 0, 0, [112, 114, 105, 110, 116], 0⟩, ⟨17, 0, 0, 0, 0, 0, [118], 0⟩, ⟨19, 12, 13, 0, 0, 0, [], 0⟩, ⟨5, 14, 0, 0, 0, 0, [], 0⟩, ⟨9, 1, 6, 11, 20, 0, [], 0⟩, ⟨17, 0, 0, 0, 0, 0, [112, 114, 105, 110, 116], 0⟩, ⟨15, 0, 0, 0, 0, 4607182418800017408, [], 0⟩, ⟨19, 17, 18, 0, 0, 0, [], 0⟩, ⟨5, 19, 0, 0, 0, 0, [], 0⟩]
def rootC31x0 : Int := 16
def rowsC31x0 : List Rw := [⟨0, 4, [], [⟨2, 4607182418800017408, []⟩, ⟨2, 4611686018427387904, []⟩, ⟨2, 4613937818241073152, []⟩, ⟨3, 0, [112, 114, 105, 110, 116]⟩], [(14, 0), (1, 0), (13, 1), (1, 1), (13, 2), (1, 2), (13, 3), (6, 0), (2, 0), (6, 1), (32, 0), (22, 26), (5, 2), (1, 1), (16, 1), (22, 19), (29, 0), (21, 26), (21, 19), (9, 3), (5, 3), (26, 1), (25, 0), (25, 0), (29, 2), (21, 10), (29, 0), (9, 3), (1, 0), (26, 1), (25, 0), (25, 0), (2, 0), (2, 0), (27, 0)]⟩]
def srcC31x0 : List UInt8 := [102, 111, 114, 32, 107, 44, 32, 118, 32, 105, 110, 32, 123, 49, 44, 32, 50, 44, 32, 51, 125, 32, 100, 111, 32, 105, 102, 32, 107, 32, 61, 61, 32, 50, 32, 116, 104, 101, 110, 32, 98, 114, 101, 97, 107, 32, 101, 110, 100, 32, 112, 114, 105, 110, 116, 40, 118, 41, 32, 101, 110, 100, 32, 112, 114, 105, 110, 116, 40, 49, 41]
def qC31x0a : HQ := List.replicate 2 none
def oC31x0a : List Ob := []
def uC31x0a : List UInt8 := [49, 10, 49, 10]
def qC31x0b : HQ := List.replicate 2 none
def oC31x0b : List Ob := []
def uC31x0b : List UInt8 := [49, 10]
theorem cpC31x0 : CompK nsC31x0 rootC31x0 1 rowsC31x0 := by
  intro n r0 r1 r2 r3 r4 r5 r6 r7 r8 r9 r10 r11 r12
  kernel_rfl
theorem prC31x0 (src : List UInt8) (nodes0 : List Nd) : bind1 (bind1 (scanS 400 srcC31x0 0 0 []) (parT 400 src nodes0)) erP = some (nsC31x0, rootC31x0) := by kernel_rfl
theorem frC31x0 : Front srcC31x0 1 rowsC31x0 := by
  have e : rowsC31x0.map (rPut ((0 : Nat) : Int)) = rowsC31x0 := by kernel_rfl
  refine front_mk (ns := nsC31x0) (root := rootC31x0) (of_decide_eq_true (by kernel_rfl)) (e ▸ Rows.put (x := 0) (by decide) (by decide) (by decide) (by kernel_rfl) (by kernel_rfl) (of_decide_eq_true (by kernel_rfl))) (fun nodes0 => ?_) cpC31x0.all
  obtain ⟨z, hz, h⟩ := bnd1 (prC31x0 srcC31x0 nodes0)
  obtain ⟨r, hr, hz⟩ := bnd1 hz
  exact parse_of (ascii_of (by kernel_rfl)) hr nodes0 (by rw [hz]; exact h)
theorem vC31x0a : endR (coLA 1000 40 60 0 V.nil V.nil 0 qC31x0a (ld1 (pgR rowsC31x0) ts0 3)) = some ((⟨1, V.nil, 0⟩, 0, uC31x0a, 0, 2), [], oC31x0a) := by kernel_rfl
theorem obC31x0a : allOb oC31x0a := by
  unfold oC31x0a
  exact allOb_nil
theorem vC31x0b : endR (coLA 1000 40 60 0 V.nil V.nil 0 qC31x0b (ld1 (pgR rowsC31x0) ts0 2)) = some ((⟨3, V.nil, 9⟩, 0, uC31x0b, 0, 2), [], oC31x0b) := by kernel_rfl
theorem obC31x0b : allOb oC31x0b := by
  unfold oC31x0b
  exact allOb_nil
theorem opC31x0 (c : CSt) (m : VM) (hJ : JJ c m) : Two say31 0 0 [49] c m := by
  exact two_mk (src := srcC31x0) (run_mk frC31x0 vC31x0a obC31x0a (by decide) (.inl ⟨rfl, rfl⟩)) (run_mk frC31x0 vC31x0b obC31x0b (by decide) (.inr ⟨rfl, rfl⟩)) c m hJ
def nsC31x1 : List Nd := [⟨0, 0, 0, 0, 0, 0, [], 0⟩, ⟨17, 0, 0, 0, 2, 0, [107], 0⟩, ⟨17, 0, 0, 0, 0, 0, [118], 0⟩, ⟨15, 0, 0, 0, 4, 4607182418800017408, [], 0⟩, ⟨15, 0, 0, 0, 5, 4611686018427387904, [], 0⟩, ⟨15, 0, 0, 0, 0, 4613937818241073152, [], 0⟩, ⟨21, 3, 0, 0, 0, 0, [], 0⟩, ⟨17, 0, 0, 0, 0, 0, [107], 0⟩, ⟨15, 0, 0, 0, 0, 4611686018427387904, [], 0⟩, ⟨22, 7, 8, 0, 0, 11, [], 0⟩, ⟨11, 0, 0, 0, 0, 0, [], 0⟩, ⟨6, 9, 10, 0, 15, 0, [], 0⟩, ⟨17, 0, 0, 0, 0, 0, [112, 114, 105, 110, 116], 0⟩, ⟨17, 0, 0, 0, 0, 0, [118], 0⟩, ⟨19, 12, 13, 0, 0, 0, [], 0⟩, ⟨5, 14, 0, 0, 0, 0, [], 0⟩, ⟨9, 1, 6, 11, 20, 0, [], 0⟩, ⟨17, 0, 0, 0, 0, 0, [112, 114, 105, 110, 116], 0⟩, ⟨15, 0, 0, 0, 0, 4611686018427387904, [], 0⟩, ⟨19, 17, 18, 0, 0, 0, [], 0⟩, ⟨5, 19, 0, 0, 0, 0, [], 0⟩]
def rootC31x1 : Int := 16
def rowsC31x1 : List Rw := [⟨0, 4, [], [⟨2, 4607182418800017408, []⟩, ⟨2, 4611686018427387904, []⟩, ⟨2, 4613937818241073152, []⟩, ⟨3, 0, [112, 114, 105, 110, 116]⟩], [(14, 0), (1, 0), (13, 1), (1, 1), (13, 2), (1, 2), (13, 3), (6, 0), (2, 0), (6, 1), (32, 0), (22, 26), (5, 2), (1, 1), (16, 1), (22, 19), (29, 0), (21, 26), (21, 19), (9, 3), (5, 3), (26, 1), (25, 0), (25, 0), (29, 2), (21, 10), (29, 0), (9, 3), (1, 1), (26, 1), (25, 0), (25, 0), (2, 0), (2, 0), (27, 0)]⟩]
def srcC31x1 : List UInt8 := [102, 111, 114, 32, 107, 44, 32, 118, 32, 105, 110, 32, 123, 49, 44, 32, 50, 44, 32, 51, 125, 32, 100, 111, 32, 105, 102, 32, 107, 32, 61, 61, 32, 50, 32, 116, 104, 101, 110, 32, 98, 114, 101, 97, 107, 32, 101, 110, 100, 32, 112, 114, 105, 110, 116, 40, 118, 41, 32, 101, 110, 100, 32, 112, 114, 105, 110, 116, 40, 50, 41]
def qC31x1a : HQ := List.replicate 2 none
def oC31x1a : List Ob := []
def uC31x1a : List UInt8 := [49, 10, 50, 10]
def qC31x1b : HQ := List.replicate 2 none
def oC31x1b : List Ob := []
def uC31x1b : List UInt8 := [49, 10]
theorem cpC31x1 : CompK nsC31x1 rootC31x1 1 rowsC31x1 := by
  intro n r0 r1 r2 r3 r4 r5 r6 r7 r8 r9 r10 r11 r12
  kernel_rfl
theorem prC31x1 (src : List UInt8) (nodes0 : List Nd) : bind1 (bind1 (scanS 400 srcC31x1 0 0 []) (parT 400 src nodes0)) erP = some (nsC31x1, rootC31x1) := by kernel_rfl
theorem frC31x1 : Front srcC31x1 1 rowsC31x1 := by
  have e : rowsC31x1.map (rPut ((0 : Nat) : Int)) = rowsC31x1 := by kernel_rfl
  refine front_mk (ns := nsC31x1) (root := rootC31x1) (of_decide_eq_true (by kernel_rfl)) (e ▸ Rows.put (x := 0) (by decide) (by decide) (by decide) (by kernel_rfl) (by kernel_rfl) (of_decide_eq_true (by kernel_rfl))) (fun nodes0 => ?_) cpC31x1.all
  obtain ⟨z, hz, h⟩ := bnd1 (prC31x1 srcC31x1 nodes0)
  obtain ⟨r, hr, hz⟩ := bnd1 hz
  exact parse_of (ascii_of (by kernel_rfl)) hr nodes0 (by rw [hz]; exact h)
theorem vC31x1a : endR (coLA 1000 40 60 0 V.nil V.nil 0 qC31x1a (ld1 (pgR rowsC31x1) ts0 3)) = some ((⟨1, V.nil, 0⟩, 0, uC31x1a, 0, 2), [], oC31x1a) := by kernel_rfl
theorem obC31x1a : allOb oC31x1a := by
  unfold oC31x1a
  exact allOb_nil
theorem vC31x1b : endR (coLA 1000 40 60 0 V.nil V.nil 0 qC31x1b (ld1 (pgR rowsC31x1) ts0 2)) = some ((⟨3, V.nil, 9⟩, 0, uC31x1b, 0, 2), [], oC31x1b) := by kernel_rfl
theorem obC31x1b : allOb oC31x1b := by
  unfold oC31x1b
  exact allOb_nil
theorem opC31x1 (c : CSt) (m : VM) (hJ : JJ c m) : Two say31 0 0 [50] c m := by
  exact two_mk (src := srcC31x1) (run_mk frC31x1 vC31x1a obC31x1a (by decide) (.inl ⟨rfl, rfl⟩)) (run_mk frC31x1 vC31x1b obC31x1b (by decide) (.inr ⟨rfl, rfl⟩)) c m hJ
def nsC31x2 : List Nd := [⟨0, 0, 0, 0, 0, 0, [], 0⟩, ⟨17, 0, 0, 0, 2, 0, [107], 0⟩, ⟨17, 0, 0, 0, 0, 0, [118], 0⟩, ⟨15, 0, 0, 0, 4, 4607182418800017408, [], 0⟩, ⟨15, 0, 0, 0, 5, 4611686018427387904, [], 0⟩, ⟨15, 0, 0, 0, 0, 4613937818241073152, [], 0⟩, ⟨21, 3, 0, 0, 0, 0, [], 0⟩, ⟨17, 0, 0, 0, 0, 0, [107], 0⟩, ⟨15, 0, 0, 0, 0, 4611686018427387904, [], 0⟩, ⟨22, 7, 8, 0, 0, 11, [], 0⟩, ⟨11, 0, 0, 0, 0, 0, [], 0⟩, ⟨6, 9, 10, 0, 15, 0, [], 0⟩, ⟨17, 0, 0, 0, 0, 0, [112, 114, 105, 110, 116], 0⟩, ⟨17, 0, 0, 0, 0, 0, [118], 0⟩, ⟨19, 12, 13, 0, 0, 0, [], 0⟩, ⟨5, 14, 0, 0, 0, 0, [], 0⟩, ⟨9, 1, 6, 11, 20, 0, [], 0⟩, ⟨17, 0, 0, 0, 0, 0, [112, 114, 105, 110, 116], 0⟩, ⟨15, 0, 0, 0, 0, 4613937818241073152, [], 0⟩, ⟨19, 17, 18, 0, 0, 0, [], 0⟩, ⟨5, 19, 0, 0, 0, 0, [], 0⟩]
def rootC31x2 : Int := 16
def rowsC31x2 : List Rw := [⟨0, 4, [], [⟨2, 4607182418800017408, []⟩, ⟨2, 4611686018427387904, []⟩, ⟨2, 4613937818241073152, []⟩, ⟨3, 0, [112, 114, 105, 110, 116]⟩], [(14, 0), (1, 0), (13, 1), (1, 1), (13, 2), (1, 2), (13, 3), (6, 0), (2, 0), (6, 1), (32, 0), (22, 26), (5, 2), (1, 1), (16, 1), (22, 19), (29, 0), (21, 26), (21, 19), (9, 3), (5, 3), (26, 1), (25, 0), (25, 0), (29, 2), (21, 10), (29, 0), (9, 3), (1, 2), (26, 1), (25, 0), (25, 0), (2, 0), (2, 0), (27, 0)]⟩]
def srcC31x2 : List UInt8 := [102, 111, 114, 32, 107, 44, 32, 118, 32, 105, 110, 32, 123, 49, 44, 32, 50, 44, 32, 51, 125, 32, 100, 111, 32, 105, 102, 32, 107, 32, 61, 61, 32, 50, 32, 116, 104, 101, 110, 32, 98, 114, 101, 97, 107, 32, 101, 110, 100, 32, 112, 114, 105, 110, 116, 40, 118, 41, 32, 101, 110, 100, 32, 112, 114, 105, 110, 116, 40, 51, 41]
def qC31x2a : HQ := List.replicate 2 none
def oC31x2a : List Ob := []
def uC31x2a : List UInt8 := [49, 10, 51, 10]
def qC31x2b : HQ := List.replicate 2 none
def oC31x2b : List Ob := []
def uC31x2b : List UInt8 := [49, 10]
theorem cpC31x2 : CompK nsC31x2 rootC31x2 1 rowsC31x2 := by
  intro n r0 r1 r2 r3 r4 r5 r6 r7 r8 r9 r10 r11 r12
  kernel_rfl
theorem prC31x2 (src : List UInt8) (nodes0 : List Nd) : bind1 (bind1 (scanS 400 srcC31x2 0 0 []) (parT 400 src nodes0)) erP = some (nsC31x2, rootC31x2) := by kernel_rfl
theorem frC31x2 : Front srcC31x2 1 rowsC31x2 := by
  have e : rowsC31x2.map (rPut ((0 : Nat) : Int)) = rowsC31x2 := by kernel_rfl
  refine front_mk (ns := nsC31x2) (root := rootC31x2) (of_decide_eq_true (by kernel_rfl)) (e ▸ Rows.put (x := 0) (by decide) (by decide) (by decide) (by kernel_rfl) (by kernel_rfl) (of_decide_eq_true (by kernel_rfl))) (fun nodes0 => ?_) cpC31x2.all
  obtain ⟨z, hz, h⟩ := bnd1 (prC31x2 srcC31x2 nodes0)
  obtain ⟨r, hr, hz⟩ := bnd1 hz
  exact parse_of (ascii_of (by kernel_rfl)) hr nodes0 (by rw [hz]; exact h)
theorem vC31x2a : endR (coLA 1000 40 60 0 V.nil V.nil 0 qC31x2a (ld1 (pgR rowsC31x2) ts0 3)) = some ((⟨1, V.nil, 0⟩, 0, uC31x2a, 0, 2), [], oC31x2a) := by kernel_rfl
theorem obC31x2a : allOb oC31x2a := by
  unfold oC31x2a
  exact allOb_nil
theorem vC31x2b : endR (coLA 1000 40 60 0 V.nil V.nil 0 qC31x2b (ld1 (pgR rowsC31x2) ts0 2)) = some ((⟨3, V.nil, 9⟩, 0, uC31x2b, 0, 2), [], oC31x2b) := by kernel_rfl
theorem obC31x2b : allOb oC31x2b := by
  unfold oC31x2b
  exact allOb_nil
theorem opC31x2 (c : CSt) (m : VM) (hJ : JJ c m) : Two say31 0 0 [51] c m := by
  exact two_mk (src := srcC31x2) (run_mk frC31x2 vC31x2a obC31x2a (by decide) (.inl ⟨rfl, rfl⟩)) (run_mk frC31x2 vC31x2b obC31x2b (by decide) (.inr ⟨rfl, rfl⟩)) c m hJ
theorem one31 {x : Nat} {t : List UInt8} (hx : x < 9218868437227405312) (hf : formatM x = some t) (c : CSt) (m : VM) (hJ : JJ c m) : Two say31 0 0 t c m := by
  by_cases h0 : x = 4607182418800017408
  · subst h0
    have e : formatM 4607182418800017408 = some [49] := by kernel_rfl
    rw [e] at hf
    injection hf with hf
    subst hf
    exact opC31x0 c m hJ
  by_cases h1 : x = 4611686018427387904
  · subst h1
    have e : formatM 4611686018427387904 = some [50] := by kernel_rfl
    rw [e] at hf
    injection hf with hf
    subst hf
    exact opC31x1 c m hJ
  by_cases h2 : x = 4613937818241073152
  · subst h2
    have e : formatM 4613937818241073152 = some [51] := by kernel_rfl
    rw [e] at hf
    injection hf with hf
    subst hf
    exact opC31x2 c m hJ
  refine op31 hx hf ?_ c m hJ
  intro z hz
  simp only [List.mem_cons, List.not_mem_nil, or_false] at hz
  rcases hz with rfl | rfl | rfl <;> omega
def ns40 : List Nd := [⟨0, 0, 0, 0, 0, 0, [], 0⟩, ⟨17, 0, 0, 0, 2, 0, [97], 0⟩, ⟨17, 0, 0, 0, 0, 0, [98], 0⟩, ⟨17, 0, 0, 0, 0, 0, [112, 99, 97, 108, 108], 0⟩, ⟨17, 0, 0, 0, 0, 0, [120], 0⟩, ⟨17, 0, 0, 0, 0, 0, [101, 114, 114, 111, 114], 0⟩, ⟨17, 0, 0, 0, 0, 0, [120], 0⟩, ⟨19, 5, 6, 0, 0, 0, [], 0⟩, ⟨5, 7, 0, 0, 0, 0, [], 0⟩, ⟨20, 4, 8, 0, 10, 1, [], 0⟩, ⟨15, 0, 0, 0, 0, -1, [], 0⟩, ⟨19, 3, 9, 0, 0, 0, [], 0⟩, ⟨2, 1, 11, 0, 16, 0, [], 0⟩, ⟨17, 0, 0, 0, 0, 0, [112, 114, 105, 110, 116], 0⟩, ⟨17, 0, 0, 0, 0, 0, [97], 0⟩, ⟨19, 13, 14, 0, 0, 0, [], 0⟩, ⟨5, 15, 0, 0, 22, 0, [], 0⟩, ⟨17, 0, 0, 0, 0, 0, [112, 114, 105, 110, 116], 0⟩, ⟨17, 0, 0, 0, 0, 0, [98], 0⟩, ⟨15, 0, 0, 0, 0, 0, [], 0⟩, ⟨22, 18, 19, 0, 0, 1, [], 0⟩, ⟨19, 17, 20, 0, 0, 0, [], 0⟩, ⟨5, 21, 0, 0, 0, 0, [], 0⟩]
def root40 : Int := 12
def rows40 : List Rw := [⟨0, 2, [], [⟨3, 0, [112, 99, 97, 108, 108]⟩, ⟨2, -1, []⟩, ⟨3, 0, [112, 114, 105, 110, 116]⟩, ⟨2, 0, []⟩], [(9, 0), (28, 1), (1, 1), (26, 2), (6, 1), (6, 0), (9, 2), (5, 0), (26, 1), (25, 0), (25, 0), (9, 2), (5, 1), (1, 3), (15, 1), (26, 1), (25, 0), (25, 0), (29, 0), (2, 0), (2, 0), (27, 0)]⟩, ⟨1, 1, [], [⟨3, 0, [101, 114, 114, 111, 114]⟩], [(9, 0), (5, 0), (26, 1), (25, 0), (25, 0), (2, 0), (2, 0), (27, 0)]⟩]
def q40a (x : Nat) (t : List UInt8) : HQ := [none, some ⟨[], [], [], x⟩, some ⟨t, [], [], 0⟩]
def o40a (x : Nat) (t : List UInt8) : List Ob := [.ar 1 ((x : Nat) : Int) 0 x, .txt ⟨2, ((x : Nat) : Int), []⟩ t, .out [102, 97, 108, 115, 101, 10] t]
def u40a (t : List UInt8) : List UInt8 := (([102, 97, 108, 115, 101, 10] ++ t) ++ [10])
def q40b (x : Nat) (t : List UInt8) : HQ := [none, some ⟨[], [], [], x⟩, none]
def o40b (x : Nat) (t : List UInt8) : List Ob := [.ar 1 ((x : Nat) : Int) 0 x]
def u40b (t : List UInt8) : List UInt8 := [102, 97, 108, 115, 101, 10]
theorem cp40 : CompK ns40 root40 2 rows40 := by
  intro n r0 r1 r2 r3 r4 r5 r6 r7 r8 r9 r10 r11 r12
  kernel_rfl
def p40_0 : List UInt8 := [108, 111, 99, 97, 108, 32, 97, 44, 32, 98, 32, 61, 32, 112, 99, 97, 108, 108, 40, 102, 117, 110, 99, 116, 105, 111, 110, 40, 120, 41, 32, 101, 114, 114, 111, 114, 40, 120, 41, 32, 101, 110, 100, 44, 32]
def p40_1 : List UInt8 := [41, 32, 112, 114, 105, 110, 116, 40, 97, 41, 32, 112, 114, 105, 110, 116, 40, 98, 32, 43, 32, 48, 41]
theorem lx40 (w : List UInt8) : scanW w 400 p40_0 0 0 [] = some (355, 45, 0, tkP 400 p40_0 0) := by kernel_rfl
theorem pr40 (x len : Nat) (src : List UInt8) (nodes0 : List Nd) : bind1 (bind1 (scanS 200 p40_1 (45 + len) 0 (tkP 400 p40_0 0 ++ [⟨3, 45, [], ((x : Nat) : Int), 0⟩])) (parT 400 src nodes0)) erP = some (ns40.map (nPut x), root40) := by kernel_rfl
theorem fr40 {x : Nat} {t : List UInt8} (hx : x < 9218868437227405312) (hn : NumT t) (hl : t.length ≤ 22) (hp : parseM t = some (x, 0)) (hL : newX [0, 4607182418800017408] x) : Front (say40 t).src 2 (rows40.map (rPut x)) := by
  refine front_mk (ns := ns40.map (nPut x)) (root := root40) ?_ (Rows.put hx (by decide) (by decide) (by kernel_rfl) (by kernel_rfl) (of_decide_eq_true (by kernel_rfl))) (fun nodes0 => ?_) (comp_open cp40 hL (fun z => hL 4607182418800017408 (by simp) z.symm) (by kernel_rfl) (by kernel_rfl))
  · show (((p40_0 ++ t) ++ p40_1)).length ≤ 2048
    simp only [List.length_append]
    have e : p40_0.length + p40_1.length ≤ 1000 := of_decide_eq_true (by kernel_rfl)
    omega
  · show bind1 (bind1 (scanL 400 ((p40_0 ++ t) ++ p40_1) 0 0 []) (parT 400 ((p40_0 ++ t) ++ p40_1) nodes0)) erP = _
    have h := pr40 x t.length ((p40_0 ++ t) ++ p40_1) nodes0
    obtain ⟨z, hz, h⟩ := bnd1 h
    obtain ⟨r, hr, hz⟩ := bnd1 hz
    refine parse_of (r := r) (ascii_app (ascii_app (ascii_of (by kernel_rfl)) (num_ascii hn)) (ascii_of (by kernel_rfl))) ?_ nodes0 ?_
    · rw [List.append_assoc]
      exact pre_step (lx40 _) (num_step hn hl (by refine ⟨?_, ?_, ?_⟩ <;> decide) hp (of_decide_eq_true (by kernel_rfl)) hr (by decide))
    · rw [hz]; exact h
theorem v40a (x : Nat) (t : List UInt8) : endR (coLA 1000 40 60 0 V.nil V.nil 0 (q40a x t) (ld1 (pgR (rows40.map (rPut x))) ts0 4)) = some ((⟨1, V.nil, 0⟩, 0, u40a t, 0, 1), [], o40a x t) := by kernel_rfl
theorem ob40a {x : Nat} {t : List UInt8} (hx : x < 9218868437227405312) (hf : formatM x = some t) (hg : formatM (negM x) = some ([45] ++ t)) (hl : t.length ≤ 22) (hp : parseM t = some (x, 0)) : allOb (o40a x t) := by
  unfold o40a
  exact allOb_cons (show (_ ∧ _) ∧ (_ ∧ _) ∧ arithM _ _ _ = some _ from ⟨⟨Int.natCast_nonneg _, Int.ofNat_lt.2 (Nat.lt_trans hx (by decide))⟩, by decide, add_zero_bits hx⟩) (allOb_cons (txt_num (Nat.lt_trans hx (by decide)) hf) (allOb_cons (by show List.length _ + List.length _ + 1 ≤ 200; simp only [List.length_append, List.length_cons, List.length_nil]; omega) (allOb_nil)))
theorem v40b (x : Nat) (t : List UInt8) : endR (coLA 1000 40 60 0 V.nil V.nil 0 (q40b x t) (ld1 (pgR (rows40.map (rPut x))) ts0 3)) = some ((⟨3, V.nil, 9⟩, 0, u40b t, 0, 1), [], o40b x t) := by kernel_rfl
theorem ob40b {x : Nat} {t : List UInt8} (hx : x < 9218868437227405312) (hf : formatM x = some t) (hg : formatM (negM x) = some ([45] ++ t)) (hl : t.length ≤ 22) (hp : parseM t = some (x, 0)) : allOb (o40b x t) := by
  unfold o40b
  exact allOb_cons (show (_ ∧ _) ∧ (_ ∧ _) ∧ arithM _ _ _ = some _ from ⟨⟨Int.natCast_nonneg _, Int.ofNat_lt.2 (Nat.lt_trans hx (by decide))⟩, by decide, add_zero_bits hx⟩) (allOb_nil)
theorem op40 {x : Nat} {t : List UInt8} (hx : x < 9218868437227405312) (hf : formatM x = some t) (hL : newX [0, 4607182418800017408] x) (c : CSt) (m : VM) (hJ : JJ c m) : Two say40 (say40 t).m (say40 t).ms t c m := by
  obtain ⟨t', f1, hn, hl, hp, hg⟩ := fmt_all hx
  rw [hf] at f1
  injection f1 with f1
  subst f1
  have ua : u40a t = (say40 t).out := by simp [u40a, say40]
  have ub : u40b t = (say40 t).short := by simp [u40b, say40]
  exact two_mk (run_mk (fr40 hx hn hl hp hL) (v40a x t) (ob40a hx hf hg hl hp) (by decide) (.inl ⟨rfl, by rw [ua]⟩)) (run_mk (fr40 hx hn hl hp hL) (v40b x t) (ob40b hx hf hg hl hp) (by decide) (.inr ⟨rfl, by rw [ub]⟩)) c m hJ
def nsC40x0 : List Nd := [⟨0, 0, 0, 0, 0, 0, [], 0⟩, ⟨17, 0, 0, 0, 2, 0, [97], 0⟩, ⟨17, 0, 0, 0, 0, 0, [98], 0⟩, ⟨17, 0, 0, 0, 0, 0, [112, 99, 97, 108, 108], 0⟩, ⟨17, 0, 0, 0, 0, 0, [120], 0⟩, ⟨17, 0, 0, 0, 0, 0, [101, 114, 114, 111, 114], 0⟩, ⟨17, 0, 0, 0, 0, 0, [120], 0⟩, ⟨19, 5, 6, 0, 0, 0, [], 0⟩, ⟨5, 7, 0, 0, 0, 0, [], 0⟩, ⟨20, 4, 8, 0, 10, 1, [], 0⟩, ⟨15, 0, 0, 0, 0, 0, [], 0⟩, ⟨19, 3, 9, 0, 0, 0, [], 0⟩, ⟨2, 1, 11, 0, 16, 0, [], 0⟩, ⟨17, 0, 0, 0, 0, 0, [112, 114, 105, 110, 116], 0⟩, ⟨17, 0, 0, 0, 0, 0, [97], 0⟩, ⟨19, 13, 14, 0, 0, 0, [], 0⟩, ⟨5, 15, 0, 0, 22, 0, [], 0⟩, ⟨17, 0, 0, 0, 0, 0, [112, 114, 105, 110, 116], 0⟩, ⟨17, 0, 0, 0, 0, 0, [98], 0⟩, ⟨15, 0, 0, 0, 0, 0, [], 0⟩, ⟨22, 18, 19, 0, 0, 1, [], 0⟩, ⟨19, 17, 20, 0, 0, 0, [], 0⟩, ⟨5, 21, 0, 0, 0, 0, [], 0⟩]
def rootC40x0 : Int := 12
def rowsC40x0 : List Rw := [⟨0, 2, [], [⟨3, 0, [112, 99, 97, 108, 108]⟩, ⟨2, 0, []⟩, ⟨3, 0, [112, 114, 105, 110, 116]⟩], [(9, 0), (28, 1), (1, 1), (26, 2), (6, 1), (6, 0), (9, 2), (5, 0), (26, 1), (25, 0), (25, 0), (9, 2), (5, 1), (1, 1), (15, 1), (26, 1), (25, 0), (25, 0), (29, 0), (2, 0), (2, 0), (27, 0)]⟩, ⟨1, 1, [], [⟨3, 0, [101, 114, 114, 111, 114]⟩], [(9, 0), (5, 0), (26, 1), (25, 0), (25, 0), (2, 0), (2, 0), (27, 0)]⟩]
def srcC40x0 : List UInt8 := [108, 111, 99, 97, 108, 32, 97, 44, 32, 98, 32, 61, 32, 112, 99, 97, 108, 108, 40, 102, 117, 110, 99, 116, 105, 111, 110, 40, 120, 41, 32, 101, 114, 114, 111, 114, 40, 120, 41, 32, 101, 110, 100, 44, 32, 48, 41, 32, 112, 114, 105, 110, 116, 40, 97, 41, 32, 112, 114, 105, 110, 116, 40, 98, 32, 43, 32, 48, 41]
def qC40x0a : HQ := List.replicate 3 none
def oC40x0a : List Ob := []
def uC40x0a : List UInt8 := [102, 97, 108, 115, 101, 10, 48, 10]
def qC40x0b : HQ := List.replicate 3 none
def oC40x0b : List Ob := []
def uC40x0b : List UInt8 := [102, 97, 108, 115, 101, 10]
theorem cpC40x0 : CompK nsC40x0 rootC40x0 2 rowsC40x0 := by
  intro n r0 r1 r2 r3 r4 r5 r6 r7 r8 r9 r10 r11 r12
  kernel_rfl
theorem prC40x0 (src : List UInt8) (nodes0 : List Nd) : bind1 (bind1 (scanS 400 srcC40x0 0 0 []) (parT 400 src nodes0)) erP = some (nsC40x0, rootC40x0) := by kernel_rfl
theorem frC40x0 : Front srcC40x0 2 rowsC40x0 := by
  have e : rowsC40x0.map (rPut ((0 : Nat) : Int)) = rowsC40x0 := by kernel_rfl
  refine front_mk (ns := nsC40x0) (root := rootC40x0) (of_decide_eq_true (by kernel_rfl)) (e ▸ Rows.put (x := 0) (by decide) (by decide) (by decide) (by kernel_rfl) (by kernel_rfl) (of_decide_eq_true (by kernel_rfl))) (fun nodes0 => ?_) cpC40x0.all
  obtain ⟨z, hz, h⟩ := bnd1 (prC40x0 srcC40x0 nodes0)
  obtain ⟨r, hr, hz⟩ := bnd1 hz
  exact parse_of (ascii_of (by kernel_rfl)) hr nodes0 (by rw [hz]; exact h)
theorem vC40x0a : endR (coLA 1000 40 60 0 V.nil V.nil 0 qC40x0a (ld1 (pgR rowsC40x0) ts0 4)) = some ((⟨1, V.nil, 0⟩, 0, uC40x0a, 0, 1), [], oC40x0a) := by kernel_rfl
theorem obC40x0a : allOb oC40x0a := by
  unfold oC40x0a
  exact allOb_nil
theorem vC40x0b : endR (coLA 1000 40 60 0 V.nil V.nil 0 qC40x0b (ld1 (pgR rowsC40x0) ts0 3)) = some ((⟨3, V.nil, 9⟩, 0, uC40x0b, 0, 1), [], oC40x0b) := by kernel_rfl
theorem obC40x0b : allOb oC40x0b := by
  unfold oC40x0b
  exact allOb_nil
theorem opC40x0 (c : CSt) (m : VM) (hJ : JJ c m) : Two say40 (say40 [48]).m (say40 [48]).ms [48] c m := by
  exact two_mk (src := srcC40x0) (run_mk frC40x0 vC40x0a obC40x0a (by decide) (.inl ⟨rfl, rfl⟩)) (run_mk frC40x0 vC40x0b obC40x0b (by decide) (.inr ⟨rfl, rfl⟩)) c m hJ
def nsC40x1 : List Nd := [⟨0, 0, 0, 0, 0, 0, [], 0⟩, ⟨17, 0, 0, 0, 2, 0, [97], 0⟩, ⟨17, 0, 0, 0, 0, 0, [98], 0⟩, ⟨17, 0, 0, 0, 0, 0, [112, 99, 97, 108, 108], 0⟩, ⟨17, 0, 0, 0, 0, 0, [120], 0⟩, ⟨17, 0, 0, 0, 0, 0, [101, 114, 114, 111, 114], 0⟩, ⟨17, 0, 0, 0, 0, 0, [120], 0⟩, ⟨19, 5, 6, 0, 0, 0, [], 0⟩, ⟨5, 7, 0, 0, 0, 0, [], 0⟩, ⟨20, 4, 8, 0, 10, 1, [], 0⟩, ⟨15, 0, 0, 0, 0, 4607182418800017408, [], 0⟩, ⟨19, 3, 9, 0, 0, 0, [], 0⟩, ⟨2, 1, 11, 0, 16, 0, [], 0⟩, ⟨17, 0, 0, 0, 0, 0, [112, 114, 105, 110, 116], 0⟩, ⟨17, 0, 0, 0, 0, 0, [97], 0⟩, ⟨19, 13, 14, 0, 0, 0, [], 0⟩, ⟨5, 15, 0, 0, 22, 0, [], 0⟩, ⟨17, 0, 0, 0, 0, 0, [112, 114, 105, 110, 116], 0⟩, ⟨17, 0, 0, 0, 0, 0, [98], 0⟩, ⟨15, 0, 0, 0, 0, 0, [], 0⟩, ⟨22, 18, 19, 0, 0, 1, [], 0⟩, ⟨19, 17, 20, 0, 0, 0, [], 0⟩, ⟨5, 21, 0, 0, 0, 0, [], 0⟩]
def rootC40x1 : Int := 12
def rowsC40x1 : List Rw := [⟨0, 2, [], [⟨3, 0, [112, 99, 97, 108, 108]⟩, ⟨2, 4607182418800017408, []⟩, ⟨3, 0, [112, 114, 105, 110, 116]⟩, ⟨2, 0, []⟩], [(9, 0), (28, 1), (1, 1), (26, 2), (6, 1), (6, 0), (9, 2), (5, 0), (26, 1), (25, 0), (25, 0), (9, 2), (5, 1), (1, 3), (15, 1), (26, 1), (25, 0), (25, 0), (29, 0), (2, 0), (2, 0), (27, 0)]⟩, ⟨1, 1, [], [⟨3, 0, [101, 114, 114, 111, 114]⟩], [(9, 0), (5, 0), (26, 1), (25, 0), (25, 0), (2, 0), (2, 0), (27, 0)]⟩]
def srcC40x1 : List UInt8 := [108, 111, 99, 97, 108, 32, 97, 44, 32, 98, 32, 61, 32, 112, 99, 97, 108, 108, 40, 102, 117, 110, 99, 116, 105, 111, 110, 40, 120, 41, 32, 101, 114, 114, 111, 114, 40, 120, 41, 32, 101, 110, 100, 44, 32, 49, 41, 32, 112, 114, 105, 110, 116, 40, 97, 41, 32, 112, 114, 105, 110, 116, 40, 98, 32, 43, 32, 48, 41]
def qC40x1a : HQ := List.replicate 3 none
def oC40x1a : List Ob := []
def uC40x1a : List UInt8 := [102, 97, 108, 115, 101, 10, 49, 10]
def qC40x1b : HQ := List.replicate 3 none
def oC40x1b : List Ob := []
def uC40x1b : List UInt8 := [102, 97, 108, 115, 101, 10]
theorem cpC40x1 : CompK nsC40x1 rootC40x1 2 rowsC40x1 := by
  intro n r0 r1 r2 r3 r4 r5 r6 r7 r8 r9 r10 r11 r12
  kernel_rfl
theorem prC40x1 (src : List UInt8) (nodes0 : List Nd) : bind1 (bind1 (scanS 400 srcC40x1 0 0 []) (parT 400 src nodes0)) erP = some (nsC40x1, rootC40x1) := by kernel_rfl
theorem frC40x1 : Front srcC40x1 2 rowsC40x1 := by
  have e : rowsC40x1.map (rPut ((0 : Nat) : Int)) = rowsC40x1 := by kernel_rfl
  refine front_mk (ns := nsC40x1) (root := rootC40x1) (of_decide_eq_true (by kernel_rfl)) (e ▸ Rows.put (x := 0) (by decide) (by decide) (by decide) (by kernel_rfl) (by kernel_rfl) (of_decide_eq_true (by kernel_rfl))) (fun nodes0 => ?_) cpC40x1.all
  obtain ⟨z, hz, h⟩ := bnd1 (prC40x1 srcC40x1 nodes0)
  obtain ⟨r, hr, hz⟩ := bnd1 hz
  exact parse_of (ascii_of (by kernel_rfl)) hr nodes0 (by rw [hz]; exact h)
theorem vC40x1a : endR (coLA 1000 40 60 0 V.nil V.nil 0 qC40x1a (ld1 (pgR rowsC40x1) ts0 4)) = some ((⟨1, V.nil, 0⟩, 0, uC40x1a, 0, 1), [], oC40x1a) := by kernel_rfl
theorem obC40x1a : allOb oC40x1a := by
  unfold oC40x1a
  exact allOb_nil
theorem vC40x1b : endR (coLA 1000 40 60 0 V.nil V.nil 0 qC40x1b (ld1 (pgR rowsC40x1) ts0 3)) = some ((⟨3, V.nil, 9⟩, 0, uC40x1b, 0, 1), [], oC40x1b) := by kernel_rfl
theorem obC40x1b : allOb oC40x1b := by
  unfold oC40x1b
  exact allOb_nil
theorem opC40x1 (c : CSt) (m : VM) (hJ : JJ c m) : Two say40 (say40 [49]).m (say40 [49]).ms [49] c m := by
  exact two_mk (src := srcC40x1) (run_mk frC40x1 vC40x1a obC40x1a (by decide) (.inl ⟨rfl, rfl⟩)) (run_mk frC40x1 vC40x1b obC40x1b (by decide) (.inr ⟨rfl, rfl⟩)) c m hJ
theorem one40 {x : Nat} {t : List UInt8} (hx : x < 9218868437227405312) (hf : formatM x = some t) (c : CSt) (m : VM) (hJ : JJ c m) : Two say40 (say40 t).m (say40 t).ms t c m := by
  by_cases h0 : x = 0
  · subst h0
    have e : formatM 0 = some [48] := by kernel_rfl
    rw [e] at hf
    injection hf with hf
    subst hf
    exact opC40x0 c m hJ
  by_cases h1 : x = 4607182418800017408
  · subst h1
    have e : formatM 4607182418800017408 = some [49] := by kernel_rfl
    rw [e] at hf
    injection hf with hf
    subst hf
    exact opC40x1 c m hJ
  refine op40 hx hf ?_ c m hJ
  intro z hz
  simp only [List.mem_cons, List.not_mem_nil, or_false] at hz
  rcases hz with rfl | rfl <;> omega
def ns49 : List Nd := [⟨0, 0, 0, 0, 0, 0, [], 0⟩, ⟨17, 0, 0, 0, 0, 0, [112, 114, 105, 110, 116], 0⟩, ⟨17, 0, 0, 0, 0, 0, [116, 111, 110, 117, 109, 98, 101, 114], 0⟩, ⟨17, 0, 0, 0, 0, 0, [116, 111, 115, 116, 114, 105, 110, 103], 0⟩, ⟨15, 0, 0, 0, 0, -1, [], 0⟩, ⟨19, 3, 4, 0, 0, 0, [], 0⟩, ⟨19, 2, 5, 0, 0, 0, [], 0⟩, ⟨19, 1, 6, 0, 0, 0, [], 0⟩, ⟨5, 7, 0, 0, 14, 0, [], 0⟩, ⟨17, 0, 0, 0, 0, 0, [112, 114, 105, 110, 116], 0⟩, ⟨17, 0, 0, 0, 0, 0, [116, 121, 112, 101], 0⟩, ⟨15, 0, 0, 0, 0, -1, [], 0⟩, ⟨19, 10, 11, 0, 0, 0, [], 0⟩, ⟨19, 9, 12, 0, 0, 0, [], 0⟩, ⟨5, 13, 0, 0, 22, 0, [], 0⟩, ⟨17, 0, 0, 0, 0, 0, [112, 114, 105, 110, 116], 0⟩, ⟨17, 0, 0, 0, 0, 0, [116, 121, 112, 101], 0⟩, ⟨17, 0, 0, 0, 0, 0, [116, 111, 115, 116, 114, 105, 110, 103], 0⟩, ⟨15, 0, 0, 0, 0, -1, [], 0⟩, ⟨19, 17, 18, 0, 0, 0, [], 0⟩, ⟨19, 16, 19, 0, 0, 0, [], 0⟩, ⟨19, 15, 20, 0, 0, 0, [], 0⟩, ⟨5, 21, 0, 0, 28, 0, [], 0⟩, ⟨17, 0, 0, 0, 0, 0, [112, 114, 105, 110, 116], 0⟩, ⟨17, 0, 0, 0, 0, 0, [116, 121, 112, 101], 0⟩, ⟨12, 0, 0, 0, 0, 0, [], 0⟩, ⟨19, 24, 25, 0, 0, 0, [], 0⟩, ⟨19, 23, 26, 0, 0, 0, [], 0⟩, ⟨5, 27, 0, 0, 0, 0, [], 0⟩]
def root49 : Int := 8
def rows49 : List Rw := [⟨0, 0, [], [⟨3, 0, [112, 114, 105, 110, 116]⟩, ⟨3, 0, [116, 111, 110, 117, 109, 98, 101, 114]⟩, ⟨3, 0, [116, 111, 115, 116, 114, 105, 110, 103]⟩, ⟨2, -1, []⟩, ⟨3, 0, [116, 121, 112, 101]⟩], [(9, 0), (9, 1), (9, 2), (1, 3), (26, 1), (25, 0), (26, 1), (25, 0), (26, 1), (25, 0), (25, 0), (9, 0), (9, 4), (1, 3), (26, 1), (25, 0), (26, 1), (25, 0), (25, 0), (9, 0), (9, 4), (9, 2), (1, 3), (26, 1), (25, 0), (26, 1), (25, 0), (26, 1), (25, 0), (25, 0), (9, 0), (9, 4), (2, 0), (26, 1), (25, 0), (26, 1), (25, 0), (25, 0), (2, 0), (2, 0), (27, 0)]⟩]
def q49a (x : Nat) (t : List UInt8) : HQ := [some ⟨t, [], [], 0⟩, some ⟨[], [], [], x⟩, some ⟨t, [], [], 0⟩, some ⟨[], [], [], 1⟩, some ⟨t, [], [], 0⟩, some ⟨[], [], [], 1⟩, some ⟨[], [], [], 1⟩]
def o49a (x : Nat) (t : List UInt8) : List Ob := [.txt ⟨2, ((x : Nat) : Int), []⟩ t, .num t x, .txt ⟨2, ((x : Nat) : Int), []⟩ t, .out [] t, .out (([] ++ t) ++ [10]) [110, 117, 109, 98, 101, 114], .txt ⟨2, ((x : Nat) : Int), []⟩ t, .out (((([] ++ t) ++ [10]) ++ [110, 117, 109, 98, 101, 114]) ++ [10]) [115, 116, 114, 105, 110, 103], .out (((((([] ++ t) ++ [10]) ++ [110, 117, 109, 98, 101, 114]) ++ [10]) ++ [115, 116, 114, 105, 110, 103]) ++ [10]) [110, 105, 108]]
def u49a (t : List UInt8) : List UInt8 := (((((((([] ++ t) ++ [10]) ++ [110, 117, 109, 98, 101, 114]) ++ [10]) ++ [115, 116, 114, 105, 110, 103]) ++ [10]) ++ [110, 105, 108]) ++ [10])
def q49b (x : Nat) (t : List UInt8) : HQ := [some ⟨t, [], [], 0⟩, some ⟨[], [], [], x⟩, some ⟨t, [], [], 0⟩, some ⟨[], [], [], 1⟩, some ⟨t, [], [], 0⟩, some ⟨[], [], [], 1⟩, none]
def o49b (x : Nat) (t : List UInt8) : List Ob := [.txt ⟨2, ((x : Nat) : Int), []⟩ t, .num t x, .txt ⟨2, ((x : Nat) : Int), []⟩ t, .out [] t, .out (([] ++ t) ++ [10]) [110, 117, 109, 98, 101, 114], .txt ⟨2, ((x : Nat) : Int), []⟩ t, .out (((([] ++ t) ++ [10]) ++ [110, 117, 109, 98, 101, 114]) ++ [10]) [115, 116, 114, 105, 110, 103]]
def u49b (t : List UInt8) : List UInt8 := (((((([] ++ t) ++ [10]) ++ [110, 117, 109, 98, 101, 114]) ++ [10]) ++ [115, 116, 114, 105, 110, 103]) ++ [10])
theorem cp49 : CompK ns49 root49 1 rows49 := by
  intro n r0 r1 r2 r3 r4 r5 r6 r7 r8 r9 r10 r11 r12
  kernel_rfl
def p49_0 : List UInt8 := [112, 114, 105, 110, 116, 40, 116, 111, 110, 117, 109, 98, 101, 114, 40, 116, 111, 115, 116, 114, 105, 110, 103, 40]
def p49_1 : List UInt8 := [41, 41, 41, 32, 112, 114, 105, 110, 116, 40, 116, 121, 112, 101, 40]
def p49_2 : List UInt8 := [41, 41, 32, 112, 114, 105, 110, 116, 40, 116, 121, 112, 101, 40, 116, 111, 115, 116, 114, 105, 110, 103, 40]
def p49_3 : List UInt8 := [41, 41, 41, 32, 112, 114, 105, 110, 116, 40, 116, 121, 112, 101, 40, 110, 105, 108, 41, 41]
theorem lx49_0 (w : List UInt8) : scanW w 400 p49_0 0 0 [] = some (376, 24, 0, tkP 400 p49_0 0) := by kernel_rfl
def tk49_0 (x len : Nat) : List Tok := tkP 400 p49_0 0
def tk49_1 (x len : Nat) : List Tok := ((scanS 353 p49_1 (24 + len) 0 (tk49_0 x len ++ [⟨3, (24 : Nat), [], ((x : Nat) : Int), 0⟩])).getD []).dropLast
theorem lx49_1 (w : List UInt8) (x len : Nat) : scanW w 353 p49_1 (24 + len) 0 (tk49_0 x len ++ [⟨3, (24 : Nat), [], ((x : Nat) : Int), 0⟩]) = some (338, 24 + len + 15, 0, tk49_1 x len) := by kernel_rfl
def tk49_2 (x len : Nat) : List Tok := ((scanS 315 p49_2 (24 + len + 15 + len) 0 (tk49_1 x len ++ [⟨3, (24 + len + 15 : Nat), [], ((x : Nat) : Int), 0⟩])).getD []).dropLast
theorem lx49_2 (w : List UInt8) (x len : Nat) : scanW w 315 p49_2 (24 + len + 15 + len) 0 (tk49_1 x len ++ [⟨3, (24 + len + 15 : Nat), [], ((x : Nat) : Int), 0⟩]) = some (292, 24 + len + 15 + len + 23, 0, tk49_2 x len) := by kernel_rfl
theorem pr49 (x len : Nat) (src : List UInt8) (nodes0 : List Nd) : bind1 (bind1 (scanS 100 p49_3 (24 + len + 15 + len + 23 + len) 0 (tk49_2 x len ++ [⟨3, (24 + len + 15 + len + 23 : Nat), [], ((x : Nat) : Int), 0⟩])) (parT 400 src nodes0)) erP = some (ns49.map (nPut x), root49) := by kernel_rfl
theorem fr49 {x : Nat} {t : List UInt8} (hx : x < 9218868437227405312) (hn : NumT t) (hl : t.length ≤ 22) (hp : parseM t = some (x, 0)) (hL : newX [4607182418800017408] x) : Front (say49 t).src 1 (rows49.map (rPut x)) := by
  refine front_mk (ns := ns49.map (nPut x)) (root := root49) ?_ (Rows.put hx (by decide) (by decide) (by kernel_rfl) (by kernel_rfl) (of_decide_eq_true (by kernel_rfl))) (fun nodes0 => ?_) (comp_open cp49 hL (fun z => hL 4607182418800017408 (by simp) z.symm) (by kernel_rfl) (by kernel_rfl))
  · show (((((((p49_0 ++ t) ++ p49_1) ++ t) ++ p49_2) ++ t) ++ p49_3)).length ≤ 2048
    simp only [List.length_append]
    have e : p49_0.length + p49_1.length + p49_2.length + p49_3.length ≤ 1000 := of_decide_eq_true (by kernel_rfl)
    omega
  · show bind1 (bind1 (scanL 400 ((((((p49_0 ++ t) ++ p49_1) ++ t) ++ p49_2) ++ t) ++ p49_3) 0 0 []) (parT 400 ((((((p49_0 ++ t) ++ p49_1) ++ t) ++ p49_2) ++ t) ++ p49_3) nodes0)) erP = _
    have h := pr49 x t.length ((((((p49_0 ++ t) ++ p49_1) ++ t) ++ p49_2) ++ t) ++ p49_3) nodes0
    obtain ⟨z, hz, h⟩ := bnd1 h
    obtain ⟨r, hr, hz⟩ := bnd1 hz
    refine parse_of (r := r) (ascii_app (ascii_app (ascii_app (ascii_app (ascii_app (ascii_app (ascii_of (by kernel_rfl)) (num_ascii hn)) (ascii_of (by kernel_rfl))) (num_ascii hn)) (ascii_of (by kernel_rfl))) (num_ascii hn)) (ascii_of (by kernel_rfl))) ?_ nodes0 ?_
    · have e : ((((((p49_0 ++ t) ++ p49_1) ++ t) ++ p49_2) ++ t) ++ p49_3) = p49_0 ++ (t ++ (p49_1 ++ (t ++ (p49_2 ++ (t ++ (p49_3)))))) := by simp only [List.append_assoc]
      rw [e]
      exact pre_step (lx49_0 _) (num_step (t := t) hn hl (by refine ⟨?_, ?_, ?_⟩ <;> decide) hp (of_decide_eq_true (by kernel_rfl)) (pre_step (lx49_1 _ x t.length) (num_step (t := t) hn hl (by refine ⟨?_, ?_, ?_⟩ <;> decide) hp (of_decide_eq_true (by kernel_rfl)) (pre_step (lx49_2 _ x t.length) (num_step (t := t) hn hl (by refine ⟨?_, ?_, ?_⟩ <;> decide) hp (of_decide_eq_true (by kernel_rfl)) hr (by decide))) (by decide))) (by decide))
    · rw [hz]; exact h
theorem v49a (x : Nat) (t : List UInt8) : endR (coLA 1000 40 60 0 V.nil V.nil 0 (q49a x t) (ld1 (pgR (rows49.map (rPut x))) ts0 10)) = some ((⟨1, V.nil, 0⟩, 0, u49a t, 0, 1), [], o49a x t) := by kernel_rfl
theorem ob49a {x : Nat} {t : List UInt8} (hx : x < 9218868437227405312) (hf : formatM x = some t) (hg : formatM (negM x) = some ([45] ++ t)) (hl : t.length ≤ 22) (hp : parseM t = some (x, 0)) : allOb (o49a x t) := by
  unfold o49a
  exact allOb_cons (txt_num (Nat.lt_trans hx (by decide)) hf) (allOb_cons (show List.length _ ≤ 24 ∧ parseM _ = some _ from ⟨Nat.le_trans hl (by decide), hp⟩) (allOb_cons (txt_num (Nat.lt_trans hx (by decide)) hf) (allOb_cons (by show List.length _ + List.length _ + 1 ≤ 200; simp only [List.length_append, List.length_cons, List.length_nil]; omega) (allOb_cons (by show List.length _ + List.length _ + 1 ≤ 200; simp only [List.length_append, List.length_cons, List.length_nil]; omega) (allOb_cons (txt_num (Nat.lt_trans hx (by decide)) hf) (allOb_cons (by show List.length _ + List.length _ + 1 ≤ 200; simp only [List.length_append, List.length_cons, List.length_nil]; omega) (allOb_cons (by show List.length _ + List.length _ + 1 ≤ 200; simp only [List.length_append, List.length_cons, List.length_nil]; omega) (allOb_nil))))))))
theorem v49b (x : Nat) (t : List UInt8) : endR (coLA 1000 40 60 0 V.nil V.nil 0 (q49b x t) (ld1 (pgR (rows49.map (rPut x))) ts0 9)) = some ((⟨3, V.nil, 9⟩, 0, u49b t, 0, 1), [], o49b x t) := by kernel_rfl
theorem ob49b {x : Nat} {t : List UInt8} (hx : x < 9218868437227405312) (hf : formatM x = some t) (hg : formatM (negM x) = some ([45] ++ t)) (hl : t.length ≤ 22) (hp : parseM t = some (x, 0)) : allOb (o49b x t) := by
  unfold o49b
  exact allOb_cons (txt_num (Nat.lt_trans hx (by decide)) hf) (allOb_cons (show List.length _ ≤ 24 ∧ parseM _ = some _ from ⟨Nat.le_trans hl (by decide), hp⟩) (allOb_cons (txt_num (Nat.lt_trans hx (by decide)) hf) (allOb_cons (by show List.length _ + List.length _ + 1 ≤ 200; simp only [List.length_append, List.length_cons, List.length_nil]; omega) (allOb_cons (by show List.length _ + List.length _ + 1 ≤ 200; simp only [List.length_append, List.length_cons, List.length_nil]; omega) (allOb_cons (txt_num (Nat.lt_trans hx (by decide)) hf) (allOb_cons (by show List.length _ + List.length _ + 1 ≤ 200; simp only [List.length_append, List.length_cons, List.length_nil]; omega) (allOb_nil)))))))
theorem op49 {x : Nat} {t : List UInt8} (hx : x < 9218868437227405312) (hf : formatM x = some t) (hL : newX [4607182418800017408] x) (c : CSt) (m : VM) (hJ : JJ c m) : Two say49 (say49 t).m (say49 t).ms t c m := by
  obtain ⟨t', f1, hn, hl, hp, hg⟩ := fmt_all hx
  rw [hf] at f1
  injection f1 with f1
  subst f1
  have ua : u49a t = (say49 t).out := by simp [u49a, say49]
  have ub : u49b t = (say49 t).short := by simp [u49b, say49]
  exact two_mk (run_mk (fr49 hx hn hl hp hL) (v49a x t) (ob49a hx hf hg hl hp) (by decide) (.inl ⟨rfl, by rw [ua]⟩)) (run_mk (fr49 hx hn hl hp hL) (v49b x t) (ob49b hx hf hg hl hp) (by decide) (.inr ⟨rfl, by rw [ub]⟩)) c m hJ
def nsC49x0 : List Nd := [⟨0, 0, 0, 0, 0, 0, [], 0⟩, ⟨17, 0, 0, 0, 0, 0, [112, 114, 105, 110, 116], 0⟩, ⟨17, 0, 0, 0, 0, 0, [116, 111, 110, 117, 109, 98, 101, 114], 0⟩, ⟨17, 0, 0, 0, 0, 0, [116, 111, 115, 116, 114, 105, 110, 103], 0⟩, ⟨15, 0, 0, 0, 0, 4607182418800017408, [], 0⟩, ⟨19, 3, 4, 0, 0, 0, [], 0⟩, ⟨19, 2, 5, 0, 0, 0, [], 0⟩, ⟨19, 1, 6, 0, 0, 0, [], 0⟩, ⟨5, 7, 0, 0, 14, 0, [], 0⟩, ⟨17, 0, 0, 0, 0, 0, [112, 114, 105, 110, 116], 0⟩, ⟨17, 0, 0, 0, 0, 0, [116, 121, 112, 101], 0⟩, ⟨15, 0, 0, 0, 0, 4607182418800017408, [], 0⟩, ⟨19, 10, 11, 0, 0, 0, [], 0⟩, ⟨19, 9, 12, 0, 0, 0, [], 0⟩, ⟨5, 13, 0, 0, 22, 0, [], 0⟩, ⟨17, 0, 0, 0, 0, 0, [112, 114, 105, 110, 116], 0⟩, ⟨17, 0, 0, 0, 0, 0, [116, 121, 112, 101], 0⟩, ⟨17, 0, 0, 0, 0, 0, [116, 111, 115, 116, 114, 105, 110, 103], 0⟩, ⟨15, 0, 0, 0, 0, 4607182418800017408, [], 0⟩, ⟨19, 17, 18, 0, 0, 0, [], 0⟩, ⟨19, 16, 19, 0, 0, 0, [], 0⟩, ⟨19, 15, 20, 0, 0, 0, [], 0⟩, ⟨5, 21, 0, 0, 28, 0, [], 0⟩, ⟨17, 0, 0, 0, 0, 0, [112, 114, 105, 110, 116], 0⟩, ⟨17, 0, 0, 0, 0, 0, [116, 121, 112, 101], 0⟩, ⟨12, 0, 0, 0, 0, 0, [], 0⟩, ⟨19, 24, 25, 0, 0, 0, [], 0⟩, ⟨19, 23, 26, 0, 0, 0, [], 0⟩, ⟨5, 27, 0, 0, 0, 0, [], 0⟩]
def rootC49x0 : Int := 8
def rowsC49x0 : List Rw := [⟨0, 0, [], [⟨3, 0, [112, 114, 105, 110, 116]⟩, ⟨3, 0, [116, 111, 110, 117, 109, 98, 101, 114]⟩, ⟨3, 0, [116, 111, 115, 116, 114, 105, 110, 103]⟩, ⟨2, 4607182418800017408, []⟩, ⟨3, 0, [116, 121, 112, 101]⟩], [(9, 0), (9, 1), (9, 2), (1, 3), (26, 1), (25, 0), (26, 1), (25, 0), (26, 1), (25, 0), (25, 0), (9, 0), (9, 4), (1, 3), (26, 1), (25, 0), (26, 1), (25, 0), (25, 0), (9, 0), (9, 4), (9, 2), (1, 3), (26, 1), (25, 0), (26, 1), (25, 0), (26, 1), (25, 0), (25, 0), (9, 0), (9, 4), (2, 0), (26, 1), (25, 0), (26, 1), (25, 0), (25, 0), (2, 0), (2, 0), (27, 0)]⟩]
def srcC49x0 : List UInt8 := [112, 114, 105, 110, 116, 40, 116, 111, 110, 117, 109, 98, 101, 114, 40, 116, 111, 115, 116, 114, 105, 110, 103, 40, 49, 41, 41, 41, 32, 112, 114, 105, 110, 116, 40, 116, 121, 112, 101, 40, 49, 41, 41, 32, 112, 114, 105, 110, 116, 40, 116, 121, 112, 101, 40, 116, 111, 115, 116, 114, 105, 110, 103, 40, 49, 41, 41, 41, 32, 112, 114, 105, 110, 116, 40, 116, 121, 112, 101, 40, 110, 105, 108, 41, 41]
def qC49x0a : HQ := List.replicate 7 none
def oC49x0a : List Ob := []
def uC49x0a : List UInt8 := [49, 10, 110, 117, 109, 98, 101, 114, 10, 115, 116, 114, 105, 110, 103, 10, 110, 105, 108, 10]
def qC49x0b : HQ := List.replicate 7 none
def oC49x0b : List Ob := []
def uC49x0b : List UInt8 := [49, 10, 110, 117, 109, 98, 101, 114, 10, 115, 116, 114, 105, 110, 103, 10]
theorem cpC49x0 : CompK nsC49x0 rootC49x0 1 rowsC49x0 := by
  intro n r0 r1 r2 r3 r4 r5 r6 r7 r8 r9 r10 r11 r12
  kernel_rfl
theorem prC49x0 (src : List UInt8) (nodes0 : List Nd) : bind1 (bind1 (scanS 400 srcC49x0 0 0 []) (parT 400 src nodes0)) erP = some (nsC49x0, rootC49x0) := by kernel_rfl
theorem frC49x0 : Front srcC49x0 1 rowsC49x0 := by
  have e : rowsC49x0.map (rPut ((0 : Nat) : Int)) = rowsC49x0 := by kernel_rfl
  refine front_mk (ns := nsC49x0) (root := rootC49x0) (of_decide_eq_true (by kernel_rfl)) (e ▸ Rows.put (x := 0) (by decide) (by decide) (by decide) (by kernel_rfl) (by kernel_rfl) (of_decide_eq_true (by kernel_rfl))) (fun nodes0 => ?_) cpC49x0.all
  obtain ⟨z, hz, h⟩ := bnd1 (prC49x0 srcC49x0 nodes0)
  obtain ⟨r, hr, hz⟩ := bnd1 hz
  exact parse_of (ascii_of (by kernel_rfl)) hr nodes0 (by rw [hz]; exact h)
theorem vC49x0a : endR (coLA 1000 40 60 0 V.nil V.nil 0 qC49x0a (ld1 (pgR rowsC49x0) ts0 10)) = some ((⟨1, V.nil, 0⟩, 0, uC49x0a, 0, 1), [], oC49x0a) := by kernel_rfl
theorem obC49x0a : allOb oC49x0a := by
  unfold oC49x0a
  exact allOb_nil
theorem vC49x0b : endR (coLA 1000 40 60 0 V.nil V.nil 0 qC49x0b (ld1 (pgR rowsC49x0) ts0 9)) = some ((⟨3, V.nil, 9⟩, 0, uC49x0b, 0, 1), [], oC49x0b) := by kernel_rfl
theorem obC49x0b : allOb oC49x0b := by
  unfold oC49x0b
  exact allOb_nil
theorem opC49x0 (c : CSt) (m : VM) (hJ : JJ c m) : Two say49 (say49 [49]).m (say49 [49]).ms [49] c m := by
  exact two_mk (src := srcC49x0) (run_mk frC49x0 vC49x0a obC49x0a (by decide) (.inl ⟨rfl, rfl⟩)) (run_mk frC49x0 vC49x0b obC49x0b (by decide) (.inr ⟨rfl, rfl⟩)) c m hJ
theorem one49 {x : Nat} {t : List UInt8} (hx : x < 9218868437227405312) (hf : formatM x = some t) (c : CSt) (m : VM) (hJ : JJ c m) : Two say49 (say49 t).m (say49 t).ms t c m := by
  by_cases h0 : x = 4607182418800017408
  · subst h0
    have e : formatM 4607182418800017408 = some [49] := by kernel_rfl
    rw [e] at hf
    injection hf with hf
    subst hf
    exact opC49x0 c m hJ
  refine op49 hx hf ?_ c m hJ
  intro z hz
  simp only [List.mem_cons, List.not_mem_nil, or_false] at hz
  rcases hz with rfl <;> omega
end Go.Wl
