/- Plain: sentences (made by program). -/
import Derived.Test.Qxb6500573aGreatDoorBY
set_option linter.unusedSimpArgs false
set_option linter.unusedVariables false
set_option linter.unusedSectionVars false
namespace Go.Wl
open Go Go.Sl Go.Proofs
set_option linter.unusedVariables false
set_option linter.unusedSimpArgs false
set_option maxRecDepth 100000
def ns8 : List Nd := [⟨0, 0, 0, 0, 0, 0, [], 0⟩, ⟨1, 0, 0, 0, 14, 0, [103], 0⟩, ⟨17, 0, 0, 0, 3, 0, [107], 0⟩, ⟨17, 0, 0, 0, 0, 0, [118], 0⟩, ⟨15, 0, 0, 0, 5, -1, [], 0⟩, ⟨15, 0, 0, 0, 0, 0, [], 0⟩, ⟨21, 4, 0, 0, 0, 0, [], 0⟩, ⟨17, 0, 0, 0, 0, 0, [103], 0⟩, ⟨17, 0, 0, 0, 0, 0, [103], 0⟩, ⟨17, 0, 0, 0, 0, 0, [118], 0⟩, ⟨10, 9, 0, 0, 0, 0, [], 0⟩, ⟨20, 0, 10, 0, 0, 1, [], 0⟩, ⟨25, 8, 11, 0, 0, 0, [], 0⟩, ⟨4, 7, 12, 0, 0, 0, [], 0⟩, ⟨9, 2, 6, 13, 19, 0, [], 0⟩, ⟨17, 0, 0, 0, 0, 0, [112, 114, 105, 110, 116], 0⟩, ⟨17, 0, 0, 0, 0, 0, [103], 0⟩, ⟨19, 16, 0, 0, 0, 0, [], 0⟩, ⟨19, 15, 17, 0, 0, 0, [], 0⟩, ⟨5, 18, 0, 0, 0, 0, [], 0⟩]
def root8 : Int := 1
def rows8 : List Rw := [⟨0, 5, [], [⟨2, -1, []⟩, ⟨2, 0, []⟩, ⟨3, 0, [112, 114, 105, 110, 116]⟩], [(2, 0), (6, 0), (14, 0), (1, 0), (13, 1), (1, 1), (13, 2), (6, 1), (2, 0), (6, 2), (32, 1), (22, 18), (5, 0), (24, 15), (28, 1), (6, 0), (29, 3), (21, 10), (29, 1), (9, 2), (5, 0), (26, 0), (25, 0), (26, 1), (25, 0), (25, 0), (29, 0), (2, 0), (2, 0), (27, 0)]⟩, ⟨0, 0, [(1, 4)], [], [(7, 0), (2, 0), (27, 0), (2, 0), (2, 0), (27, 0)]⟩]
def q8a (x : Nat) (t : List UInt8) : HQ := [some ⟨t, [], [], 0⟩]
def o8a (x : Nat) (t : List UInt8) : List Ob := [.txt ⟨2, ((x : Nat) : Int), []⟩ t, .out [] t]
def u8a (t : List UInt8) : List UInt8 := (([] ++ t) ++ [10])
def q8b (x : Nat) (t : List UInt8) : HQ := [none]
def o8b (x : Nat) (t : List UInt8) : List Ob := []
def u8b (t : List UInt8) : List UInt8 := []
theorem cp8 : CompK ns8 root8 2 rows8 := by
  intro n r0 r1 r2 r3 r4 r5 r6 r7 r8 r9 r10 r11 r12
  kernel_rfl
def p8_0 : List UInt8 := [108, 111, 99, 97, 108, 32, 103, 32, 102, 111, 114, 32, 107, 44, 32, 118, 32, 105, 110, 32, 123]
def p8_1 : List UInt8 := [44, 32, 48, 125, 32, 100, 111, 32, 103, 32, 61, 32, 103, 32, 111, 114, 32, 102, 117, 110, 99, 116, 105, 111, 110, 40, 41, 32, 114, 101, 116, 117, 114, 110, 32, 118, 32, 101, 110, 100, 32, 101, 110, 100, 32, 112, 114, 105, 110, 116, 40, 103, 40, 41, 41]
theorem lx8 (w : List UInt8) : scanW w 400 p8_0 0 0 [] = some (379, 21, 0, tkP 400 p8_0 0) := by kernel_rfl
theorem pr8 (x len : Nat) (src : List UInt8) (nodes0 : List Nd) : bind1 (bind1 (scanS 200 p8_1 (21 + len) 0 (tkP 400 p8_0 0 ++ [⟨3, 21, [], ((x : Nat) : Int), 0⟩])) (parT 400 src nodes0)) erP = some (ns8.map (nPut x), root8) := by kernel_rfl
theorem fr8 {x : Nat} {t : List UInt8} (hx : x < 9218868437227405312) (hn : NumT t) (hl : t.length ≤ 22) (hp : parseM t = some (x, 0)) (hL : newX [0, 4607182418800017408] x) : Front (say8 t).src 2 (rows8.map (rPut x)) := by
  refine front_mk (ns := ns8.map (nPut x)) (root := root8) ?_ (Rows.put hx (by decide) (by decide) (by kernel_rfl) (by kernel_rfl) (of_decide_eq_true (by kernel_rfl))) (fun nodes0 => ?_) (comp_open cp8 hL (fun z => hL 4607182418800017408 (by simp) z.symm) (by kernel_rfl) (by kernel_rfl))
  · show (((p8_0 ++ t) ++ p8_1)).length ≤ 2048
    simp only [List.length_append]
    have e : p8_0.length + p8_1.length ≤ 1000 := of_decide_eq_true (by kernel_rfl)
    omega
  · show bind1 (bind1 (scanL 400 ((p8_0 ++ t) ++ p8_1) 0 0 []) (parT 400 ((p8_0 ++ t) ++ p8_1) nodes0)) erP = _
    have h := pr8 x t.length ((p8_0 ++ t) ++ p8_1) nodes0
    obtain ⟨z, hz, h⟩ := bnd1 h
    obtain ⟨r, hr, hz⟩ := bnd1 hz
    refine parse_of (r := r) (ascii_app (ascii_app (ascii_of (by kernel_rfl)) (num_ascii hn)) (ascii_of (by kernel_rfl))) ?_ nodes0 ?_
    · rw [List.append_assoc]
      exact pre_step (lx8 _) (num_step hn hl (by refine ⟨?_, ?_, ?_⟩ <;> decide) hp (of_decide_eq_true (by kernel_rfl)) hr (by decide))
    · rw [hz]; exact h
theorem v8a (x : Nat) (t : List UInt8) : endR (coLA 1000 40 60 0 V.nil V.nil 0 (q8a x t) (ld1 (pgR (rows8.map (rPut x))) ts0 4)) = some ((⟨1, V.nil, 0⟩, 0, u8a t, 0, 2), [], o8a x t) := by kernel_rfl
theorem ob8a {x : Nat} {t : List UInt8} (hx : x < 9218868437227405312) (hf : formatM x = some t) (hg : formatM (negM x) = some ([45] ++ t)) (hl : t.length ≤ 22) (hp : parseM t = some (x, 0)) : allOb (o8a x t) := by
  unfold o8a
  exact allOb_cons (txt_num (Nat.lt_trans hx (by decide)) hf) (allOb_cons (by show List.length _ + List.length _ + 1 ≤ 200; simp only [List.length_append, List.length_cons, List.length_nil]; omega) (allOb_nil))
theorem v8b (x : Nat) (t : List UInt8) : endR (coLA 1000 40 60 0 V.nil V.nil 0 (q8b x t) (ld1 (pgR (rows8.map (rPut x))) ts0 3)) = some ((⟨3, V.nil, 9⟩, 0, u8b t, 0, 2), [], o8b x t) := by kernel_rfl
theorem ob8b {x : Nat} {t : List UInt8} (hx : x < 9218868437227405312) (hf : formatM x = some t) (hg : formatM (negM x) = some ([45] ++ t)) (hl : t.length ≤ 22) (hp : parseM t = some (x, 0)) : allOb (o8b x t) := by
  unfold o8b
  exact allOb_nil
theorem op8 {x : Nat} {t : List UInt8} (hx : x < 9218868437227405312) (hf : formatM x = some t) (hL : newX [0, 4607182418800017408] x) (c : CSt) (m : VM) (hJ : JJ c m) : Two say8 0 0 t c m := by
  obtain ⟨t', f1, hn, hl, hp, hg⟩ := fmt_all hx
  rw [hf] at f1
  injection f1 with f1
  subst f1
  have ua : u8a t = (say8 t).out := by simp [u8a, say8]
  have ub : u8b t = (say8 t).short := by simp [u8b, say8]
  exact two_mk (run_mk (fr8 hx hn hl hp hL) (v8a x t) (ob8a hx hf hg hl hp) (by decide) (.inl ⟨rfl, by rw [ua]⟩)) (run_mk (fr8 hx hn hl hp hL) (v8b x t) (ob8b hx hf hg hl hp) (by decide) (.inr ⟨rfl, by rw [ub]⟩)) c m hJ
def nsC8x0 : List Nd := [⟨0, 0, 0, 0, 0, 0, [], 0⟩, ⟨1, 0, 0, 0, 14, 0, [103], 0⟩, ⟨17, 0, 0, 0, 3, 0, [107], 0⟩, ⟨17, 0, 0, 0, 0, 0, [118], 0⟩, ⟨15, 0, 0, 0, 5, 0, [], 0⟩, ⟨15, 0, 0, 0, 0, 0, [], 0⟩, ⟨21, 4, 0, 0, 0, 0, [], 0⟩, ⟨17, 0, 0, 0, 0, 0, [103], 0⟩, ⟨17, 0, 0, 0, 0, 0, [103], 0⟩, ⟨17, 0, 0, 0, 0, 0, [118], 0⟩, ⟨10, 9, 0, 0, 0, 0, [], 0⟩, ⟨20, 0, 10, 0, 0, 1, [], 0⟩, ⟨25, 8, 11, 0, 0, 0, [], 0⟩, ⟨4, 7, 12, 0, 0, 0, [], 0⟩, ⟨9, 2, 6, 13, 19, 0, [], 0⟩, ⟨17, 0, 0, 0, 0, 0, [112, 114, 105, 110, 116], 0⟩, ⟨17, 0, 0, 0, 0, 0, [103], 0⟩, ⟨19, 16, 0, 0, 0, 0, [], 0⟩, ⟨19, 15, 17, 0, 0, 0, [], 0⟩, ⟨5, 18, 0, 0, 0, 0, [], 0⟩]
def rootC8x0 : Int := 1
def rowsC8x0 : List Rw := [⟨0, 5, [], [⟨2, 0, []⟩, ⟨3, 0, [112, 114, 105, 110, 116]⟩], [(2, 0), (6, 0), (14, 0), (1, 0), (13, 1), (1, 0), (13, 2), (6, 1), (2, 0), (6, 2), (32, 1), (22, 18), (5, 0), (24, 15), (28, 1), (6, 0), (29, 3), (21, 10), (29, 1), (9, 1), (5, 0), (26, 0), (25, 0), (26, 1), (25, 0), (25, 0), (29, 0), (2, 0), (2, 0), (27, 0)]⟩, ⟨0, 0, [(1, 4)], [], [(7, 0), (2, 0), (27, 0), (2, 0), (2, 0), (27, 0)]⟩]
def srcC8x0 : List UInt8 := [108, 111, 99, 97, 108, 32, 103, 32, 102, 111, 114, 32, 107, 44, 32, 118, 32, 105, 110, 32, 123, 48, 44, 32, 48, 125, 32, 100, 111, 32, 103, 32, 61, 32, 103, 32, 111, 114, 32, 102, 117, 110, 99, 116, 105, 111, 110, 40, 41, 32, 114, 101, 116, 117, 114, 110, 32, 118, 32, 101, 110, 100, 32, 101, 110, 100, 32, 112, 114, 105, 110, 116, 40, 103, 40, 41, 41]
def qC8x0a : HQ := List.replicate 1 none
def oC8x0a : List Ob := []
def uC8x0a : List UInt8 := [48, 10]
def qC8x0b : HQ := List.replicate 1 none
def oC8x0b : List Ob := []
def uC8x0b : List UInt8 := []
theorem cpC8x0 : CompK nsC8x0 rootC8x0 2 rowsC8x0 := by
  intro n r0 r1 r2 r3 r4 r5 r6 r7 r8 r9 r10 r11 r12
  kernel_rfl
theorem prC8x0 (src : List UInt8) (nodes0 : List Nd) : bind1 (bind1 (scanS 400 srcC8x0 0 0 []) (parT 400 src nodes0)) erP = some (nsC8x0, rootC8x0) := by kernel_rfl
theorem frC8x0 : Front srcC8x0 2 rowsC8x0 := by
  have e : rowsC8x0.map (rPut ((0 : Nat) : Int)) = rowsC8x0 := by kernel_rfl
  refine front_mk (ns := nsC8x0) (root := rootC8x0) (of_decide_eq_true (by kernel_rfl)) (e ▸ Rows.put (x := 0) (by decide) (by decide) (by decide) (by kernel_rfl) (by kernel_rfl) (of_decide_eq_true (by kernel_rfl))) (fun nodes0 => ?_) cpC8x0.all
  obtain ⟨z, hz, h⟩ := bnd1 (prC8x0 srcC8x0 nodes0)
  obtain ⟨r, hr, hz⟩ := bnd1 hz
  exact parse_of (ascii_of (by kernel_rfl)) hr nodes0 (by rw [hz]; exact h)
theorem vC8x0a : endR (coLA 1000 40 60 0 V.nil V.nil 0 qC8x0a (ld1 (pgR rowsC8x0) ts0 4)) = some ((⟨1, V.nil, 0⟩, 0, uC8x0a, 0, 2), [], oC8x0a) := by kernel_rfl
theorem obC8x0a : allOb oC8x0a := by
  unfold oC8x0a
  exact allOb_nil
theorem vC8x0b : endR (coLA 1000 40 60 0 V.nil V.nil 0 qC8x0b (ld1 (pgR rowsC8x0) ts0 3)) = some ((⟨3, V.nil, 9⟩, 0, uC8x0b, 0, 2), [], oC8x0b) := by kernel_rfl
theorem obC8x0b : allOb oC8x0b := by
  unfold oC8x0b
  exact allOb_nil
theorem opC8x0 (c : CSt) (m : VM) (hJ : JJ c m) : Two say8 0 0 [48] c m := by
  exact two_mk (src := srcC8x0) (run_mk frC8x0 vC8x0a obC8x0a (by decide) (.inl ⟨rfl, rfl⟩)) (run_mk frC8x0 vC8x0b obC8x0b (by decide) (.inr ⟨rfl, rfl⟩)) c m hJ
def nsC8x1 : List Nd := [⟨0, 0, 0, 0, 0, 0, [], 0⟩, ⟨1, 0, 0, 0, 14, 0, [103], 0⟩, ⟨17, 0, 0, 0, 3, 0, [107], 0⟩, ⟨17, 0, 0, 0, 0, 0, [118], 0⟩, ⟨15, 0, 0, 0, 5, 4607182418800017408, [], 0⟩, ⟨15, 0, 0, 0, 0, 0, [], 0⟩, ⟨21, 4, 0, 0, 0, 0, [], 0⟩, ⟨17, 0, 0, 0, 0, 0, [103], 0⟩, ⟨17, 0, 0, 0, 0, 0, [103], 0⟩, ⟨17, 0, 0, 0, 0, 0, [118], 0⟩, ⟨10, 9, 0, 0, 0, 0, [], 0⟩, ⟨20, 0, 10, 0, 0, 1, [], 0⟩, ⟨25, 8, 11, 0, 0, 0, [], 0⟩, ⟨4, 7, 12, 0, 0, 0, [], 0⟩, ⟨9, 2, 6, 13, 19, 0, [], 0⟩, ⟨17, 0, 0, 0, 0, 0, [112, 114, 105, 110, 116], 0⟩, ⟨17, 0, 0, 0, 0, 0, [103], 0⟩, ⟨19, 16, 0, 0, 0, 0, [], 0⟩, ⟨19, 15, 17, 0, 0, 0, [], 0⟩, ⟨5, 18, 0, 0, 0, 0, [], 0⟩]
def rootC8x1 : Int := 1
def rowsC8x1 : List Rw := [⟨0, 5, [], [⟨2, 4607182418800017408, []⟩, ⟨2, 0, []⟩, ⟨3, 0, [112, 114, 105, 110, 116]⟩], [(2, 0), (6, 0), (14, 0), (1, 0), (13, 1), (1, 1), (13, 2), (6, 1), (2, 0), (6, 2), (32, 1), (22, 18), (5, 0), (24, 15), (28, 1), (6, 0), (29, 3), (21, 10), (29, 1), (9, 2), (5, 0), (26, 0), (25, 0), (26, 1), (25, 0), (25, 0), (29, 0), (2, 0), (2, 0), (27, 0)]⟩, ⟨0, 0, [(1, 4)], [], [(7, 0), (2, 0), (27, 0), (2, 0), (2, 0), (27, 0)]⟩]
def srcC8x1 : List UInt8 := [108, 111, 99, 97, 108, 32, 103, 32, 102, 111, 114, 32, 107, 44, 32, 118, 32, 105, 110, 32, 123, 49, 44, 32, 48, 125, 32, 100, 111, 32, 103, 32, 61, 32, 103, 32, 111, 114, 32, 102, 117, 110, 99, 116, 105, 111, 110, 40, 41, 32, 114, 101, 116, 117, 114, 110, 32, 118, 32, 101, 110, 100, 32, 101, 110, 100, 32, 112, 114, 105, 110, 116, 40, 103, 40, 41, 41]
def qC8x1a : HQ := List.replicate 1 none
def oC8x1a : List Ob := []
def uC8x1a : List UInt8 := [49, 10]
def qC8x1b : HQ := List.replicate 1 none
def oC8x1b : List Ob := []
def uC8x1b : List UInt8 := []
theorem cpC8x1 : CompK nsC8x1 rootC8x1 2 rowsC8x1 := by
  intro n r0 r1 r2 r3 r4 r5 r6 r7 r8 r9 r10 r11 r12
  kernel_rfl
theorem prC8x1 (src : List UInt8) (nodes0 : List Nd) : bind1 (bind1 (scanS 400 srcC8x1 0 0 []) (parT 400 src nodes0)) erP = some (nsC8x1, rootC8x1) := by kernel_rfl
theorem frC8x1 : Front srcC8x1 2 rowsC8x1 := by
  have e : rowsC8x1.map (rPut ((0 : Nat) : Int)) = rowsC8x1 := by kernel_rfl
  refine front_mk (ns := nsC8x1) (root := rootC8x1) (of_decide_eq_true (by kernel_rfl)) (e ▸ Rows.put (x := 0) (by decide) (by decide) (by decide) (by kernel_rfl) (by kernel_rfl) (of_decide_eq_true (by kernel_rfl))) (fun nodes0 => ?_) cpC8x1.all
  obtain ⟨z, hz, h⟩ := bnd1 (prC8x1 srcC8x1 nodes0)
  obtain ⟨r, hr, hz⟩ := bnd1 hz
  exact parse_of (ascii_of (by kernel_rfl)) hr nodes0 (by rw [hz]; exact h)
theorem vC8x1a : endR (coLA 1000 40 60 0 V.nil V.nil 0 qC8x1a (ld1 (pgR rowsC8x1) ts0 4)) = some ((⟨1, V.nil, 0⟩, 0, uC8x1a, 0, 2), [], oC8x1a) := by kernel_rfl
theorem obC8x1a : allOb oC8x1a := by
  unfold oC8x1a
  exact allOb_nil
theorem vC8x1b : endR (coLA 1000 40 60 0 V.nil V.nil 0 qC8x1b (ld1 (pgR rowsC8x1) ts0 3)) = some ((⟨3, V.nil, 9⟩, 0, uC8x1b, 0, 2), [], oC8x1b) := by kernel_rfl
theorem obC8x1b : allOb oC8x1b := by
  unfold oC8x1b
  exact allOb_nil
theorem opC8x1 (c : CSt) (m : VM) (hJ : JJ c m) : Two say8 0 0 [49] c m := by
  exact two_mk (src := srcC8x1) (run_mk frC8x1 vC8x1a obC8x1a (by decide) (.inl ⟨rfl, rfl⟩)) (run_mk frC8x1 vC8x1b obC8x1b (by decide) (.inr ⟨rfl, rfl⟩)) c m hJ
theorem one8 {x : Nat} {t : List UInt8} (hx : x < 9218868437227405312) (hf : formatM x = some t) (c : CSt) (m : VM) (hJ : JJ c m) : Two say8 0 0 t c m := by
  by_cases h0 : x = 0
  · subst h0
    have e : formatM 0 = some [48] := by kernel_rfl
    rw [e] at hf
    injection hf with hf
    subst hf
    exact opC8x0 c m hJ
  by_cases h1 : x = 4607182418800017408
  · subst h1
    have e : formatM 4607182418800017408 = some [49] := by kernel_rfl
    rw [e] at hf
    injection hf with hf
    subst hf
    exact opC8x1 c m hJ
  refine op8 hx hf ?_ c m hJ
  intro z hz
  simp only [List.mem_cons, List.not_mem_nil, or_false] at hz
  rcases hz with rfl | rfl <;> omega
def ns17 : List Nd := [⟨0, 0, 0, 0, 0, 0, [], 0⟩, ⟨17, 0, 0, 0, 0, 0, [110], 0⟩, ⟨17, 0, 0, 0, 0, 0, [110], 0⟩, ⟨15, 0, 0, 0, 0, 0, [], 0⟩, ⟨22, 2, 3, 0, 0, 11, [], 0⟩, ⟨15, 0, 0, 0, 0, -1, [], 0⟩, ⟨10, 5, 0, 0, 0, 0, [], 0⟩, ⟨6, 4, 6, 0, 13, 0, [], 0⟩, ⟨17, 0, 0, 0, 0, 0, [102], 0⟩, ⟨17, 0, 0, 0, 0, 0, [110], 0⟩, ⟨15, 0, 0, 0, 0, 4607182418800017408, [], 0⟩, ⟨22, 9, 10, 0, 0, 2, [], 0⟩, ⟨19, 8, 11, 0, 0, 0, [], 0⟩, ⟨10, 12, 0, 0, 0, 0, [], 0⟩, ⟨20, 1, 7, 0, 0, 1, [], 0⟩, ⟨3, 14, 0, 0, 21, 0, [102], 0⟩, ⟨17, 0, 0, 0, 0, 0, [112, 114, 105, 110, 116], 0⟩, ⟨17, 0, 0, 0, 0, 0, [102], 0⟩, ⟨15, 0, 0, 0, 0, 4611686018427387904, [], 0⟩, ⟨19, 17, 18, 0, 0, 0, [], 0⟩, ⟨19, 16, 19, 0, 0, 0, [], 0⟩, ⟨5, 20, 0, 0, 0, 0, [], 0⟩]
def root17 : Int := 15
def rows17 : List Rw := [⟨0, 1, [], [⟨3, 0, [112, 114, 105, 110, 116]⟩, ⟨2, 4611686018427387904, []⟩], [(28, 1), (6, 0), (9, 0), (5, 0), (1, 1), (26, 1), (25, 0), (26, 1), (25, 0), (25, 0), (29, 0), (2, 0), (2, 0), (27, 0)]⟩, ⟨1, 1, [(1, 0)], [⟨2, 0, []⟩, ⟨2, -1, []⟩, ⟨2, 4607182418800017408, []⟩], [(5, 0), (1, 0), (16, 1), (22, 8), (1, 1), (2, 0), (27, 0), (21, 8), (7, 0), (5, 0), (1, 2), (15, 2), (26, 1), (25, 0), (2, 0), (27, 0), (2, 0), (2, 0), (27, 0)]⟩]
def q17a (x : Nat) (t : List UInt8) : HQ := [none, none, some ⟨t, [], [], 0⟩]
def o17a (x : Nat) (t : List UInt8) : List Ob := [.txt ⟨2, ((x : Nat) : Int), []⟩ t, .out [] t]
def u17a (t : List UInt8) : List UInt8 := (([] ++ t) ++ [10])
def q17b (x : Nat) (t : List UInt8) : HQ := [none, none, none]
def o17b (x : Nat) (t : List UInt8) : List Ob := []
def u17b (t : List UInt8) : List UInt8 := []
theorem cp17 : CompK ns17 root17 2 rows17 := by
  intro n r0 r1 r2 r3 r4 r5 r6 r7 r8 r9 r10 r11 r12
  kernel_rfl
def p17_0 : List UInt8 := [108, 111, 99, 97, 108, 32, 102, 117, 110, 99, 116, 105, 111, 110, 32, 102, 40, 110, 41, 32, 105, 102, 32, 110, 32, 61, 61, 32, 48, 32, 116, 104, 101, 110, 32, 114, 101, 116, 117, 114, 110, 32]
def p17_1 : List UInt8 := [32, 101, 110, 100, 32, 114, 101, 116, 117, 114, 110, 32, 102, 40, 110, 32, 45, 32, 49, 41, 32, 101, 110, 100, 32, 112, 114, 105, 110, 116, 40, 102, 40, 50, 41, 41]
theorem lx17 (w : List UInt8) : scanW w 400 p17_0 0 0 [] = some (358, 42, 0, tkP 400 p17_0 0) := by kernel_rfl
theorem pr17 (x len : Nat) (src : List UInt8) (nodes0 : List Nd) : bind1 (bind1 (scanS 200 p17_1 (42 + len) 0 (tkP 400 p17_0 0 ++ [⟨3, 42, [], ((x : Nat) : Int), 0⟩])) (parT 400 src nodes0)) erP = some (ns17.map (nPut x), root17) := by kernel_rfl
theorem fr17 {x : Nat} {t : List UInt8} (hx : x < 9218868437227405312) (hn : NumT t) (hl : t.length ≤ 22) (hp : parseM t = some (x, 0)) (hL : newX [0, 4607182418800017408, 4611686018427387904] x) : Front (say17 t).src 2 (rows17.map (rPut x)) := by
  refine front_mk (ns := ns17.map (nPut x)) (root := root17) ?_ (Rows.put hx (by decide) (by decide) (by kernel_rfl) (by kernel_rfl) (of_decide_eq_true (by kernel_rfl))) (fun nodes0 => ?_) (comp_open cp17 hL (fun z => hL 4607182418800017408 (by simp) z.symm) (by kernel_rfl) (by kernel_rfl))
  · show (((p17_0 ++ t) ++ p17_1)).length ≤ 2048
    simp only [List.length_append]
    have e : p17_0.length + p17_1.length ≤ 1000 := of_decide_eq_true (by kernel_rfl)
    omega
  · show bind1 (bind1 (scanL 400 ((p17_0 ++ t) ++ p17_1) 0 0 []) (parT 400 ((p17_0 ++ t) ++ p17_1) nodes0)) erP = _
    have h := pr17 x t.length ((p17_0 ++ t) ++ p17_1) nodes0
    obtain ⟨z, hz, h⟩ := bnd1 h
    obtain ⟨r, hr, hz⟩ := bnd1 hz
    refine parse_of (r := r) (ascii_app (ascii_app (ascii_of (by kernel_rfl)) (num_ascii hn)) (ascii_of (by kernel_rfl))) ?_ nodes0 ?_
    · rw [List.append_assoc]
      exact pre_step (lx17 _) (num_step hn hl (by refine ⟨?_, ?_, ?_⟩ <;> decide) hp (of_decide_eq_true (by kernel_rfl)) hr (by decide))
    · rw [hz]; exact h
theorem v17a (x : Nat) (t : List UInt8) : endR (coLA 1000 40 60 0 V.nil V.nil 0 (q17a x t) (ld1 (pgR (rows17.map (rPut x))) ts0 4)) = some ((⟨1, V.nil, 0⟩, 0, u17a t, 0, 1), [], o17a x t) := by kernel_rfl
theorem ob17a {x : Nat} {t : List UInt8} (hx : x < 9218868437227405312) (hf : formatM x = some t) (hg : formatM (negM x) = some ([45] ++ t)) (hl : t.length ≤ 22) (hp : parseM t = some (x, 0)) : allOb (o17a x t) := by
  unfold o17a
  exact allOb_cons (txt_num (Nat.lt_trans hx (by decide)) hf) (allOb_cons (by show List.length _ + List.length _ + 1 ≤ 200; simp only [List.length_append, List.length_cons, List.length_nil]; omega) (allOb_nil))
theorem v17b (x : Nat) (t : List UInt8) : endR (coLA 1000 40 60 0 V.nil V.nil 0 (q17b x t) (ld1 (pgR (rows17.map (rPut x))) ts0 3)) = some ((⟨3, V.nil, 9⟩, 0, u17b t, 0, 1), [], o17b x t) := by kernel_rfl
theorem ob17b {x : Nat} {t : List UInt8} (hx : x < 9218868437227405312) (hf : formatM x = some t) (hg : formatM (negM x) = some ([45] ++ t)) (hl : t.length ≤ 22) (hp : parseM t = some (x, 0)) : allOb (o17b x t) := by
  unfold o17b
  exact allOb_nil
theorem op17 {x : Nat} {t : List UInt8} (hx : x < 9218868437227405312) (hf : formatM x = some t) (hL : newX [0, 4607182418800017408, 4611686018427387904] x) (c : CSt) (m : VM) (hJ : JJ c m) : Two say17 0 0 t c m := by
  obtain ⟨t', f1, hn, hl, hp, hg⟩ := fmt_all hx
  rw [hf] at f1
  injection f1 with f1
  subst f1
  have ua : u17a t = (say17 t).out := by simp [u17a, say17]
  have ub : u17b t = (say17 t).short := by simp [u17b, say17]
  exact two_mk (run_mk (fr17 hx hn hl hp hL) (v17a x t) (ob17a hx hf hg hl hp) (by decide) (.inl ⟨rfl, by rw [ua]⟩)) (run_mk (fr17 hx hn hl hp hL) (v17b x t) (ob17b hx hf hg hl hp) (by decide) (.inr ⟨rfl, by rw [ub]⟩)) c m hJ
def nsC17x0 : List Nd := [⟨0, 0, 0, 0, 0, 0, [], 0⟩, ⟨17, 0, 0, 0, 0, 0, [110], 0⟩, ⟨17, 0, 0, 0, 0, 0, [110], 0⟩, ⟨15, 0, 0, 0, 0, 0, [], 0⟩, ⟨22, 2, 3, 0, 0, 11, [], 0⟩, ⟨15, 0, 0, 0, 0, 0, [], 0⟩, ⟨10, 5, 0, 0, 0, 0, [], 0⟩, ⟨6, 4, 6, 0, 13, 0, [], 0⟩, ⟨17, 0, 0, 0, 0, 0, [102], 0⟩, ⟨17, 0, 0, 0, 0, 0, [110], 0⟩, ⟨15, 0, 0, 0, 0, 4607182418800017408, [], 0⟩, ⟨22, 9, 10, 0, 0, 2, [], 0⟩, ⟨19, 8, 11, 0, 0, 0, [], 0⟩, ⟨10, 12, 0, 0, 0, 0, [], 0⟩, ⟨20, 1, 7, 0, 0, 1, [], 0⟩, ⟨3, 14, 0, 0, 21, 0, [102], 0⟩, ⟨17, 0, 0, 0, 0, 0, [112, 114, 105, 110, 116], 0⟩, ⟨17, 0, 0, 0, 0, 0, [102], 0⟩, ⟨15, 0, 0, 0, 0, 4611686018427387904, [], 0⟩, ⟨19, 17, 18, 0, 0, 0, [], 0⟩, ⟨19, 16, 19, 0, 0, 0, [], 0⟩, ⟨5, 20, 0, 0, 0, 0, [], 0⟩]
def rootC17x0 : Int := 15
def rowsC17x0 : List Rw := [⟨0, 1, [], [⟨3, 0, [112, 114, 105, 110, 116]⟩, ⟨2, 4611686018427387904, []⟩], [(28, 1), (6, 0), (9, 0), (5, 0), (1, 1), (26, 1), (25, 0), (26, 1), (25, 0), (25, 0), (29, 0), (2, 0), (2, 0), (27, 0)]⟩, ⟨1, 1, [(1, 0)], [⟨2, 0, []⟩, ⟨2, 4607182418800017408, []⟩], [(5, 0), (1, 0), (16, 1), (22, 8), (1, 0), (2, 0), (27, 0), (21, 8), (7, 0), (5, 0), (1, 1), (15, 2), (26, 1), (25, 0), (2, 0), (27, 0), (2, 0), (2, 0), (27, 0)]⟩]
def srcC17x0 : List UInt8 := [108, 111, 99, 97, 108, 32, 102, 117, 110, 99, 116, 105, 111, 110, 32, 102, 40, 110, 41, 32, 105, 102, 32, 110, 32, 61, 61, 32, 48, 32, 116, 104, 101, 110, 32, 114, 101, 116, 117, 114, 110, 32, 48, 32, 101, 110, 100, 32, 114, 101, 116, 117, 114, 110, 32, 102, 40, 110, 32, 45, 32, 49, 41, 32, 101, 110, 100, 32, 112, 114, 105, 110, 116, 40, 102, 40, 50, 41, 41]
def qC17x0a : HQ := List.replicate 3 none
def oC17x0a : List Ob := []
def uC17x0a : List UInt8 := [48, 10]
def qC17x0b : HQ := List.replicate 3 none
def oC17x0b : List Ob := []
def uC17x0b : List UInt8 := []
theorem cpC17x0 : CompK nsC17x0 rootC17x0 2 rowsC17x0 := by
  intro n r0 r1 r2 r3 r4 r5 r6 r7 r8 r9 r10 r11 r12
  kernel_rfl
theorem prC17x0 (src : List UInt8) (nodes0 : List Nd) : bind1 (bind1 (scanS 400 srcC17x0 0 0 []) (parT 400 src nodes0)) erP = some (nsC17x0, rootC17x0) := by kernel_rfl
theorem frC17x0 : Front srcC17x0 2 rowsC17x0 := by
  have e : rowsC17x0.map (rPut ((0 : Nat) : Int)) = rowsC17x0 := by kernel_rfl
  refine front_mk (ns := nsC17x0) (root := rootC17x0) (of_decide_eq_true (by kernel_rfl)) (e ▸ Rows.put (x := 0) (by decide) (by decide) (by decide) (by kernel_rfl) (by kernel_rfl) (of_decide_eq_true (by kernel_rfl))) (fun nodes0 => ?_) cpC17x0.all
  obtain ⟨z, hz, h⟩ := bnd1 (prC17x0 srcC17x0 nodes0)
  obtain ⟨r, hr, hz⟩ := bnd1 hz
  exact parse_of (ascii_of (by kernel_rfl)) hr nodes0 (by rw [hz]; exact h)
theorem vC17x0a : endR (coLA 1000 40 60 0 V.nil V.nil 0 qC17x0a (ld1 (pgR rowsC17x0) ts0 4)) = some ((⟨1, V.nil, 0⟩, 0, uC17x0a, 0, 1), [], oC17x0a) := by kernel_rfl
theorem obC17x0a : allOb oC17x0a := by
  unfold oC17x0a
  exact allOb_nil
theorem vC17x0b : endR (coLA 1000 40 60 0 V.nil V.nil 0 qC17x0b (ld1 (pgR rowsC17x0) ts0 3)) = some ((⟨3, V.nil, 9⟩, 0, uC17x0b, 0, 1), [], oC17x0b) := by kernel_rfl
theorem obC17x0b : allOb oC17x0b := by
  unfold oC17x0b
  exact allOb_nil
theorem opC17x0 (c : CSt) (m : VM) (hJ : JJ c m) : Two say17 0 0 [48] c m := by
  exact two_mk (src := srcC17x0) (run_mk frC17x0 vC17x0a obC17x0a (by decide) (.inl ⟨rfl, rfl⟩)) (run_mk frC17x0 vC17x0b obC17x0b (by decide) (.inr ⟨rfl, rfl⟩)) c m hJ
def nsC17x1 : List Nd := [⟨0, 0, 0, 0, 0, 0, [], 0⟩, ⟨17, 0, 0, 0, 0, 0, [110], 0⟩, ⟨17, 0, 0, 0, 0, 0, [110], 0⟩, ⟨15, 0, 0, 0, 0, 0, [], 0⟩, ⟨22, 2, 3, 0, 0, 11, [], 0⟩, ⟨15, 0, 0, 0, 0, 4607182418800017408, [], 0⟩, ⟨10, 5, 0, 0, 0, 0, [], 0⟩, ⟨6, 4, 6, 0, 13, 0, [], 0⟩, ⟨17, 0, 0, 0, 0, 0, [102], 0⟩, ⟨17, 0, 0, 0, 0, 0, [110], 0⟩, ⟨15, 0, 0, 0, 0, 4607182418800017408, [], 0⟩, ⟨22, 9, 10, 0, 0, 2, [], 0⟩, ⟨19, 8, 11, 0, 0, 0, [], 0⟩, ⟨10, 12, 0, 0, 0, 0, [], 0⟩, ⟨20, 1, 7, 0, 0, 1, [], 0⟩, ⟨3, 14, 0, 0, 21, 0, [102], 0⟩, ⟨17, 0, 0, 0, 0, 0, [112, 114, 105, 110, 116], 0⟩, ⟨17, 0, 0, 0, 0, 0, [102], 0⟩, ⟨15, 0, 0, 0, 0, 4611686018427387904, [], 0⟩, ⟨19, 17, 18, 0, 0, 0, [], 0⟩, ⟨19, 16, 19, 0, 0, 0, [], 0⟩, ⟨5, 20, 0, 0, 0, 0, [], 0⟩]
def rootC17x1 : Int := 15
def rowsC17x1 : List Rw := [⟨0, 1, [], [⟨3, 0, [112, 114, 105, 110, 116]⟩, ⟨2, 4611686018427387904, []⟩], [(28, 1), (6, 0), (9, 0), (5, 0), (1, 1), (26, 1), (25, 0), (26, 1), (25, 0), (25, 0), (29, 0), (2, 0), (2, 0), (27, 0)]⟩, ⟨1, 1, [(1, 0)], [⟨2, 0, []⟩, ⟨2, 4607182418800017408, []⟩], [(5, 0), (1, 0), (16, 1), (22, 8), (1, 1), (2, 0), (27, 0), (21, 8), (7, 0), (5, 0), (1, 1), (15, 2), (26, 1), (25, 0), (2, 0), (27, 0), (2, 0), (2, 0), (27, 0)]⟩]
def srcC17x1 : List UInt8 := [108, 111, 99, 97, 108, 32, 102, 117, 110, 99, 116, 105, 111, 110, 32, 102, 40, 110, 41, 32, 105, 102, 32, 110, 32, 61, 61, 32, 48, 32, 116, 104, 101, 110, 32, 114, 101, 116, 117, 114, 110, 32, 49, 32, 101, 110, 100, 32, 114, 101, 116, 117, 114, 110, 32, 102, 40, 110, 32, 45, 32, 49, 41, 32, 101, 110, 100, 32, 112, 114, 105, 110, 116, 40, 102, 40, 50, 41, 41]
def qC17x1a : HQ := List.replicate 3 none
def oC17x1a : List Ob := []
def uC17x1a : List UInt8 := [49, 10]
def qC17x1b : HQ := List.replicate 3 none
def oC17x1b : List Ob := []
def uC17x1b : List UInt8 := []
theorem cpC17x1 : CompK nsC17x1 rootC17x1 2 rowsC17x1 := by
  intro n r0 r1 r2 r3 r4 r5 r6 r7 r8 r9 r10 r11 r12
  kernel_rfl
theorem prC17x1 (src : List UInt8) (nodes0 : List Nd) : bind1 (bind1 (scanS 400 srcC17x1 0 0 []) (parT 400 src nodes0)) erP = some (nsC17x1, rootC17x1) := by kernel_rfl
theorem frC17x1 : Front srcC17x1 2 rowsC17x1 := by
  have e : rowsC17x1.map (rPut ((0 : Nat) : Int)) = rowsC17x1 := by kernel_rfl
  refine front_mk (ns := nsC17x1) (root := rootC17x1) (of_decide_eq_true (by kernel_rfl)) (e ▸ Rows.put (x := 0) (by decide) (by decide) (by decide) (by kernel_rfl) (by kernel_rfl) (of_decide_eq_true (by kernel_rfl))) (fun nodes0 => ?_) cpC17x1.all
  obtain ⟨z, hz, h⟩ := bnd1 (prC17x1 srcC17x1 nodes0)
  obtain ⟨r, hr, hz⟩ := bnd1 hz
  exact parse_of (ascii_of (by kernel_rfl)) hr nodes0 (by rw [hz]; exact h)
theorem vC17x1a : endR (coLA 1000 40 60 0 V.nil V.nil 0 qC17x1a (ld1 (pgR rowsC17x1) ts0 4)) = some ((⟨1, V.nil, 0⟩, 0, uC17x1a, 0, 1), [], oC17x1a) := by kernel_rfl
theorem obC17x1a : allOb oC17x1a := by
  unfold oC17x1a
  exact allOb_nil
theorem vC17x1b : endR (coLA 1000 40 60 0 V.nil V.nil 0 qC17x1b (ld1 (pgR rowsC17x1) ts0 3)) = some ((⟨3, V.nil, 9⟩, 0, uC17x1b, 0, 1), [], oC17x1b) := by kernel_rfl
theorem obC17x1b : allOb oC17x1b := by
  unfold oC17x1b
  exact allOb_nil
theorem opC17x1 (c : CSt) (m : VM) (hJ : JJ c m) : Two say17 0 0 [49] c m := by
  exact two_mk (src := srcC17x1) (run_mk frC17x1 vC17x1a obC17x1a (by decide) (.inl ⟨rfl, rfl⟩)) (run_mk frC17x1 vC17x1b obC17x1b (by decide) (.inr ⟨rfl, rfl⟩)) c m hJ
def nsC17x2 : List Nd := [⟨0, 0, 0, 0, 0, 0, [], 0⟩, ⟨17, 0, 0, 0, 0, 0, [110], 0⟩, ⟨17, 0, 0, 0, 0, 0, [110], 0⟩, ⟨15, 0, 0, 0, 0, 0, [], 0⟩, ⟨22, 2, 3, 0, 0, 11, [], 0⟩, ⟨15, 0, 0, 0, 0, 4611686018427387904, [], 0⟩, ⟨10, 5, 0, 0, 0, 0, [], 0⟩, ⟨6, 4, 6, 0, 13, 0, [], 0⟩, ⟨17, 0, 0, 0, 0, 0, [102], 0⟩, ⟨17, 0, 0, 0, 0, 0, [110], 0⟩, ⟨15, 0, 0, 0, 0, 4607182418800017408, [], 0⟩, ⟨22, 9, 10, 0, 0, 2, [], 0⟩, ⟨19, 8, 11, 0, 0, 0, [], 0⟩, ⟨10, 12, 0, 0, 0, 0, [], 0⟩, ⟨20, 1, 7, 0, 0, 1, [], 0⟩, ⟨3, 14, 0, 0, 21, 0, [102], 0⟩, ⟨17, 0, 0, 0, 0, 0, [112, 114, 105, 110, 116], 0⟩, ⟨17, 0, 0, 0, 0, 0, [102], 0⟩, ⟨15, 0, 0, 0, 0, 4611686018427387904, [], 0⟩, ⟨19, 17, 18, 0, 0, 0, [], 0⟩, ⟨19, 16, 19, 0, 0, 0, [], 0⟩, ⟨5, 20, 0, 0, 0, 0, [], 0⟩]
def rootC17x2 : Int := 15
def rowsC17x2 : List Rw := [⟨0, 1, [], [⟨3, 0, [112, 114, 105, 110, 116]⟩, ⟨2, 4611686018427387904, []⟩], [(28, 1), (6, 0), (9, 0), (5, 0), (1, 1), (26, 1), (25, 0), (26, 1), (25, 0), (25, 0), (29, 0), (2, 0), (2, 0), (27, 0)]⟩, ⟨1, 1, [(1, 0)], [⟨2, 0, []⟩, ⟨2, 4611686018427387904, []⟩, ⟨2, 4607182418800017408, []⟩], [(5, 0), (1, 0), (16, 1), (22, 8), (1, 1), (2, 0), (27, 0), (21, 8), (7, 0), (5, 0), (1, 2), (15, 2), (26, 1), (25, 0), (2, 0), (27, 0), (2, 0), (2, 0), (27, 0)]⟩]
def srcC17x2 : List UInt8 := [108, 111, 99, 97, 108, 32, 102, 117, 110, 99, 116, 105, 111, 110, 32, 102, 40, 110, 41, 32, 105, 102, 32, 110, 32, 61, 61, 32, 48, 32, 116, 104, 101, 110, 32, 114, 101, 116, 117, 114, 110, 32, 50, 32, 101, 110, 100, 32, 114, 101, 116, 117, 114, 110, 32, 102, 40, 110, 32, 45, 32, 49, 41, 32, 101, 110, 100, 32, 112, 114, 105, 110, 116, 40, 102, 40, 50, 41, 41]
def qC17x2a : HQ := List.replicate 3 none
def oC17x2a : List Ob := []
def uC17x2a : List UInt8 := [50, 10]
def qC17x2b : HQ := List.replicate 3 none
def oC17x2b : List Ob := []
def uC17x2b : List UInt8 := []
theorem cpC17x2 : CompK nsC17x2 rootC17x2 2 rowsC17x2 := by
  intro n r0 r1 r2 r3 r4 r5 r6 r7 r8 r9 r10 r11 r12
  kernel_rfl
theorem prC17x2 (src : List UInt8) (nodes0 : List Nd) : bind1 (bind1 (scanS 400 srcC17x2 0 0 []) (parT 400 src nodes0)) erP = some (nsC17x2, rootC17x2) := by kernel_rfl
theorem frC17x2 : Front srcC17x2 2 rowsC17x2 := by
  have e : rowsC17x2.map (rPut ((0 : Nat) : Int)) = rowsC17x2 := by kernel_rfl
  refine front_mk (ns := nsC17x2) (root := rootC17x2) (of_decide_eq_true (by kernel_rfl)) (e ▸ Rows.put (x := 0) (by decide) (by decide) (by decide) (by kernel_rfl) (by kernel_rfl) (of_decide_eq_true (by kernel_rfl))) (fun nodes0 => ?_) cpC17x2.all
  obtain ⟨z, hz, h⟩ := bnd1 (prC17x2 srcC17x2 nodes0)
  obtain ⟨r, hr, hz⟩ := bnd1 hz
  exact parse_of (ascii_of (by kernel_rfl)) hr nodes0 (by rw [hz]; exact h)
theorem vC17x2a : endR (coLA 1000 40 60 0 V.nil V.nil 0 qC17x2a (ld1 (pgR rowsC17x2) ts0 4)) = some ((⟨1, V.nil, 0⟩, 0, uC17x2a, 0, 1), [], oC17x2a) := by kernel_rfl
theorem obC17x2a : allOb oC17x2a := by
  unfold oC17x2a
  exact allOb_nil
theorem vC17x2b : endR (coLA 1000 40 60 0 V.nil V.nil 0 qC17x2b (ld1 (pgR rowsC17x2) ts0 3)) = some ((⟨3, V.nil, 9⟩, 0, uC17x2b, 0, 1), [], oC17x2b) := by kernel_rfl
theorem obC17x2b : allOb oC17x2b := by
  unfold oC17x2b
  exact allOb_nil
theorem opC17x2 (c : CSt) (m : VM) (hJ : JJ c m) : Two say17 0 0 [50] c m := by
  exact two_mk (src := srcC17x2) (run_mk frC17x2 vC17x2a obC17x2a (by decide) (.inl ⟨rfl, rfl⟩)) (run_mk frC17x2 vC17x2b obC17x2b (by decide) (.inr ⟨rfl, rfl⟩)) c m hJ
theorem one17 {x : Nat} {t : List UInt8} (hx : x < 9218868437227405312) (hf : formatM x = some t) (c : CSt) (m : VM) (hJ : JJ c m) : Two say17 0 0 t c m := by
  by_cases h0 : x = 0
  · subst h0
    have e : formatM 0 = some [48] := by kernel_rfl
    rw [e] at hf
    injection hf with hf
    subst hf
    exact opC17x0 c m hJ
  by_cases h1 : x = 4607182418800017408
  · subst h1
    have e : formatM 4607182418800017408 = some [49] := by kernel_rfl
    rw [e] at hf
    injection hf with hf
    subst hf
    exact opC17x1 c m hJ
  by_cases h2 : x = 4611686018427387904
  · subst h2
    have e : formatM 4611686018427387904 = some [50] := by kernel_rfl
    rw [e] at hf
    injection hf with hf
    subst hf
    exact opC17x2 c m hJ
  refine op17 hx hf ?_ c m hJ
  intro z hz
  simp only [List.mem_cons, List.not_mem_nil, or_false] at hz
  rcases hz with rfl | rfl | rfl <;> omega
def nsC26x0 : List Nd := [⟨0, 0, 0, 0, 0, 0, [], 0⟩, ⟨15, 0, 0, 0, 2, 4613937818241073152, [], 0⟩, ⟨15, 0, 0, 0, 4, 4607182418800017408, [], 0⟩, ⟨15, 0, 0, 0, 0, 4607182418800017408, [], 0⟩, ⟨23, 3, 0, 0, 0, 1, [], 0⟩, ⟨17, 0, 0, 0, 0, 0, [112, 114, 105, 110, 116], 0⟩, ⟨17, 0, 0, 0, 0, 0, [105], 0⟩, ⟨19, 5, 6, 0, 0, 0, [], 0⟩, ⟨5, 7, 0, 0, 0, 0, [], 0⟩, ⟨8, 1, 8, 0, 13, 0, [105], 0⟩, ⟨15, 0, 0, 0, 11, 4607182418800017408, [], 0⟩, ⟨15, 0, 0, 0, 12, 4611686018427387904, [], 0⟩, ⟨15, 0, 0, 0, 0, 4602678819172646912, [], 0⟩, ⟨8, 10, 0, 0, 0, 0, [105], 0⟩]
def rootC26x0 : Int := 9
def rowsC26x0 : List Rw := [⟨0, 4, [], [⟨2, 4613937818241073152, []⟩, ⟨2, 4607182418800017408, []⟩, ⟨3, 0, [112, 114, 105, 110, 116]⟩, ⟨2, 4611686018427387904, []⟩, ⟨2, 4602678819172646912, []⟩], [(1, 0), (6, 0), (1, 1), (6, 1), (1, 1), (19, 0), (6, 2), (30, 0), (31, 0), (22, 23), (5, 0), (6, 3), (9, 2), (5, 3), (26, 1), (25, 0), (25, 0), (29, 3), (5, 0), (5, 2), (15, 1), (6, 0), (21, 8), (29, 0), (1, 1), (6, 0), (1, 3), (6, 1), (1, 4), (6, 2), (30, 0), (31, 0), (22, 41), (5, 0), (6, 3), (29, 3), (5, 0), (5, 2), (15, 1), (6, 0), (21, 31), (29, 0), (2, 0), (2, 0), (27, 0)]⟩]
def srcC26x0 : List UInt8 := [102, 111, 114, 32, 105, 32, 61, 32, 51, 44, 32, 49, 44, 32, 45, 49, 32, 100, 111, 32, 112, 114, 105, 110, 116, 40, 105, 41, 32, 101, 110, 100, 32, 102, 111, 114, 32, 105, 32, 61, 32, 49, 44, 32, 50, 44, 32, 48, 46, 53, 32, 100, 111, 32, 101, 110, 100]
def qC26x0a : HQ := List.replicate 10 none
def oC26x0a : List Ob := []
def uC26x0a : List UInt8 := [51, 10, 50, 10, 49, 10]
def qC26x0b : HQ := List.replicate 10 none
def oC26x0b : List Ob := []
def uC26x0b : List UInt8 := [51, 10, 50, 10, 49, 10]
theorem cpC26x0 : CompK nsC26x0 rootC26x0 1 rowsC26x0 := by
  intro n r0 r1 r2 r3 r4 r5 r6 r7 r8 r9 r10 r11 r12
  kernel_rfl
theorem prC26x0 (src : List UInt8) (nodes0 : List Nd) : bind1 (bind1 (scanS 400 srcC26x0 0 0 []) (parT 400 src nodes0)) erP = some (nsC26x0, rootC26x0) := by kernel_rfl
theorem frC26x0 : Front srcC26x0 1 rowsC26x0 := by
  have e : rowsC26x0.map (rPut ((0 : Nat) : Int)) = rowsC26x0 := by kernel_rfl
  refine front_mk (ns := nsC26x0) (root := rootC26x0) (of_decide_eq_true (by kernel_rfl)) (e ▸ Rows.put (x := 0) (by decide) (by decide) (by decide) (by kernel_rfl) (by kernel_rfl) (of_decide_eq_true (by kernel_rfl))) (fun nodes0 => ?_) cpC26x0.all
  obtain ⟨z, hz, h⟩ := bnd1 (prC26x0 srcC26x0 nodes0)
  obtain ⟨r, hr, hz⟩ := bnd1 hz
  exact parse_of (ascii_of (by kernel_rfl)) hr nodes0 (by rw [hz]; exact h)
theorem vC26x0a : endR (coLA 1000 40 60 0 V.nil V.nil 0 qC26x0a (ld1 (pgR rowsC26x0) ts0 9)) = some ((⟨1, V.nil, 0⟩, 0, uC26x0a, 0, 1), [], oC26x0a) := by kernel_rfl
theorem obC26x0a : allOb oC26x0a := by
  unfold oC26x0a
  exact allOb_nil
theorem vC26x0b : endR (coLA 1000 40 60 0 V.nil V.nil 0 qC26x0b (ld1 (pgR rowsC26x0) ts0 8)) = some ((⟨3, V.nil, 9⟩, 0, uC26x0b, 0, 1), [], oC26x0b) := by kernel_rfl
theorem obC26x0b : allOb oC26x0b := by
  unfold oC26x0b
  exact allOb_nil
theorem opC26x0 (t : List UInt8) (c : CSt) (m : VM) (hJ : JJ c m) : Two say26 0 0 t c m := by
  exact two_mk (src := srcC26x0) (run_mk frC26x0 vC26x0a obC26x0a (by decide) (.inl ⟨rfl, rfl⟩)) (run_mk frC26x0 vC26x0b obC26x0b (by decide) (.inr ⟨rfl, rfl⟩)) c m hJ
theorem one26 {x : Nat} {t : List UInt8} (hx : x < 9218868437227405312) (hf : formatM x = some t) (c : CSt) (m : VM) (hJ : JJ c m) : Two say26 0 0 t c m := opC26x0 t c m hJ
def nsC35x0 : List Nd := [⟨0, 0, 0, 0, 0, 0, [], 0⟩, ⟨17, 0, 0, 0, 0, 0, [112, 114, 105, 110, 116], 0⟩, ⟨16, 0, 0, 0, 0, 0, [97, 98, 99], 0⟩, ⟨16, 0, 0, 0, 0, 0, [100], 0⟩, ⟨22, 2, 3, 0, 0, 20, [], 0⟩, ⟨19, 1, 4, 0, 0, 0, [], 0⟩, ⟨5, 5, 0, 0, 0, 0, [], 0⟩]
def rootC35x0 : Int := 6
def rowsC35x0 : List Rw := [⟨0, 0, [], [⟨3, 0, [112, 114, 105, 110, 116]⟩, ⟨3, 0, [97, 98, 99]⟩, ⟨3, 0, [100]⟩], [(9, 0), (1, 1), (1, 2), (17, 0), (26, 1), (25, 0), (25, 0), (2, 0), (2, 0), (27, 0)]⟩]
def srcC35x0 : List UInt8 := [112, 114, 105, 110, 116, 40, 34, 97, 98, 99, 34, 32, 46, 46, 32, 34, 100, 34, 41]
def qC35x0a : HQ := List.replicate 2 none
def oC35x0a : List Ob := []
def uC35x0a : List UInt8 := [97, 98, 99, 100, 10]
def qC35x0b : HQ := List.replicate 2 none
def oC35x0b : List Ob := []
def uC35x0b : List UInt8 := []
theorem cpC35x0 : CompK nsC35x0 rootC35x0 1 rowsC35x0 := by
  intro n r0 r1 r2 r3 r4 r5 r6 r7 r8 r9 r10 r11 r12
  kernel_rfl
theorem prC35x0 (src : List UInt8) (nodes0 : List Nd) : bind1 (bind1 (scanS 400 srcC35x0 0 0 []) (parT 400 src nodes0)) erP = some (nsC35x0, rootC35x0) := by kernel_rfl
theorem frC35x0 : Front srcC35x0 1 rowsC35x0 := by
  have e : rowsC35x0.map (rPut ((0 : Nat) : Int)) = rowsC35x0 := by kernel_rfl
  refine front_mk (ns := nsC35x0) (root := rootC35x0) (of_decide_eq_true (by kernel_rfl)) (e ▸ Rows.put (x := 0) (by decide) (by decide) (by decide) (by kernel_rfl) (by kernel_rfl) (of_decide_eq_true (by kernel_rfl))) (fun nodes0 => ?_) cpC35x0.all
  obtain ⟨z, hz, h⟩ := bnd1 (prC35x0 srcC35x0 nodes0)
  obtain ⟨r, hr, hz⟩ := bnd1 hz
  exact parse_of (ascii_of (by kernel_rfl)) hr nodes0 (by rw [hz]; exact h)
theorem vC35x0a : endR (coLA 1000 40 60 0 V.nil V.nil 0 qC35x0a (ld1 (pgR rowsC35x0) ts0 1)) = some ((⟨1, V.nil, 0⟩, 0, uC35x0a, 0, 1), [], oC35x0a) := by kernel_rfl
theorem obC35x0a : allOb oC35x0a := by
  unfold oC35x0a
  exact allOb_nil
theorem vC35x0b : endR (coLA 1000 40 60 0 V.nil V.nil 0 qC35x0b (ld1 (pgR rowsC35x0) ts0 0)) = some ((⟨3, V.nil, 9⟩, 0, uC35x0b, 0, 1), [], oC35x0b) := by kernel_rfl
theorem obC35x0b : allOb oC35x0b := by
  unfold oC35x0b
  exact allOb_nil
theorem opC35x0 (t : List UInt8) (c : CSt) (m : VM) (hJ : JJ c m) : Two say35 0 0 t c m := by
  exact two_mk (src := srcC35x0) (run_mk frC35x0 vC35x0a obC35x0a (by decide) (.inl ⟨rfl, rfl⟩)) (run_mk frC35x0 vC35x0b obC35x0b (by decide) (.inr ⟨rfl, rfl⟩)) c m hJ
theorem one35 {x : Nat} {t : List UInt8} (hx : x < 9218868437227405312) (hf : formatM x = some t) (c : CSt) (m : VM) (hJ : JJ c m) : Two say35 0 0 t c m := opC35x0 t c m hJ
def ns44 : List Nd := [⟨0, 0, 0, 0, 0, 0, [], 0⟩, ⟨17, 0, 0, 0, 0, 0, [99, 114, 101, 97, 116, 101], 0⟩, ⟨17, 0, 0, 0, 0, 0, [97], 0⟩, ⟨17, 0, 0, 0, 0, 0, [101, 114, 114, 111, 114], 0⟩, ⟨17, 0, 0, 0, 0, 0, [97], 0⟩, ⟨19, 3, 4, 0, 0, 0, [], 0⟩, ⟨5, 5, 0, 0, 0, 0, [], 0⟩, ⟨20, 2, 6, 0, 0, 1, [], 0⟩, ⟨19, 1, 7, 0, 0, 0, [], 0⟩, ⟨1, 8, 0, 0, 16, 0, [99], 0⟩, ⟨17, 0, 0, 0, 11, 0, [111], 0⟩, ⟨17, 0, 0, 0, 0, 0, [118], 0⟩, ⟨17, 0, 0, 0, 0, 0, [114, 101, 115, 117, 109, 101], 0⟩, ⟨17, 0, 0, 0, 14, 0, [99], 0⟩, ⟨15, 0, 0, 0, 0, -1, [], 0⟩, ⟨19, 12, 13, 0, 0, 0, [], 0⟩, ⟨2, 10, 15, 0, 20, 0, [], 0⟩, ⟨17, 0, 0, 0, 0, 0, [112, 114, 105, 110, 116], 0⟩, ⟨17, 0, 0, 0, 0, 0, [111], 0⟩, ⟨19, 17, 18, 0, 0, 0, [], 0⟩, ⟨5, 19, 0, 0, 26, 0, [], 0⟩, ⟨17, 0, 0, 0, 0, 0, [112, 114, 105, 110, 116], 0⟩, ⟨17, 0, 0, 0, 0, 0, [118], 0⟩, ⟨15, 0, 0, 0, 0, 0, [], 0⟩, ⟨22, 22, 23, 0, 0, 1, [], 0⟩, ⟨19, 21, 24, 0, 0, 0, [], 0⟩, ⟨5, 25, 0, 0, 32, 0, [], 0⟩, ⟨17, 0, 0, 0, 28, 0, [112], 0⟩, ⟨17, 0, 0, 0, 0, 0, [119], 0⟩, ⟨17, 0, 0, 0, 0, 0, [114, 101, 115, 117, 109, 101], 0⟩, ⟨17, 0, 0, 0, 0, 0, [99], 0⟩, ⟨19, 29, 30, 0, 0, 0, [], 0⟩, ⟨2, 27, 31, 0, 36, 0, [], 0⟩, ⟨17, 0, 0, 0, 0, 0, [112, 114, 105, 110, 116], 0⟩, ⟨17, 0, 0, 0, 0, 0, [112], 0⟩, ⟨19, 33, 34, 0, 0, 0, [], 0⟩, ⟨5, 35, 0, 0, 40, 0, [], 0⟩, ⟨17, 0, 0, 0, 0, 0, [112, 114, 105, 110, 116], 0⟩, ⟨17, 0, 0, 0, 0, 0, [119], 0⟩, ⟨19, 37, 38, 0, 0, 0, [], 0⟩, ⟨5, 39, 0, 0, 0, 0, [], 0⟩]
def root44 : Int := 9
def rows44 : List Rw := [⟨0, 5, [], [⟨3, 0, [99, 114, 101, 97, 116, 101]⟩, ⟨3, 0, [114, 101, 115, 117, 109, 101]⟩, ⟨2, -1, []⟩, ⟨3, 0, [112, 114, 105, 110, 116]⟩, ⟨2, 0, []⟩], [(9, 0), (28, 1), (26, 1), (25, 0), (6, 0), (9, 1), (5, 0), (1, 2), (26, 2), (6, 2), (6, 1), (9, 3), (5, 1), (26, 1), (25, 0), (25, 0), (9, 3), (5, 2), (1, 4), (15, 1), (26, 1), (25, 0), (25, 0), (9, 1), (5, 0), (26, 1), (6, 4), (6, 3), (9, 3), (5, 3), (26, 1), (25, 0), (25, 0), (9, 3), (5, 4), (26, 1), (25, 0), (25, 0), (29, 0), (2, 0), (2, 0), (27, 0)]⟩, ⟨1, 1, [], [⟨3, 0, [101, 114, 114, 111, 114]⟩], [(9, 0), (5, 0), (26, 1), (25, 0), (25, 0), (2, 0), (2, 0), (27, 0)]⟩]
def q44a (x : Nat) (t : List UInt8) : HQ := [none, some ⟨[], [], [], x⟩, some ⟨t, [], [], 0⟩, some ⟨[], [], [], 1⟩, some ⟨[], [], [], 1⟩]
def o44a (x : Nat) (t : List UInt8) : List Ob := [.val ⟨2, ((x : Nat) : Int), []⟩, .val ⟨2, ((x : Nat) : Int), []⟩, .ar 1 ((x : Nat) : Int) 0 x, .txt ⟨2, ((x : Nat) : Int), []⟩ t, .out [102, 97, 108, 115, 101, 10] t, .out (([102, 97, 108, 115, 101, 10] ++ t) ++ [10]) [102, 97, 108, 115, 101], .out (((([102, 97, 108, 115, 101, 10] ++ t) ++ [10]) ++ [102, 97, 108, 115, 101]) ++ [10]) [100, 101, 97, 100]]
def u44a (t : List UInt8) : List UInt8 := (((((([102, 97, 108, 115, 101, 10] ++ t) ++ [10]) ++ [102, 97, 108, 115, 101]) ++ [10]) ++ [100, 101, 97, 100]) ++ [10])
def q44b (x : Nat) (t : List UInt8) : HQ := [none, some ⟨[], [], [], x⟩, some ⟨t, [], [], 0⟩, some ⟨[], [], [], 1⟩, none]
def o44b (x : Nat) (t : List UInt8) : List Ob := [.val ⟨2, ((x : Nat) : Int), []⟩, .val ⟨2, ((x : Nat) : Int), []⟩, .ar 1 ((x : Nat) : Int) 0 x, .txt ⟨2, ((x : Nat) : Int), []⟩ t, .out [102, 97, 108, 115, 101, 10] t, .out (([102, 97, 108, 115, 101, 10] ++ t) ++ [10]) [102, 97, 108, 115, 101]]
def u44b (t : List UInt8) : List UInt8 := (((([102, 97, 108, 115, 101, 10] ++ t) ++ [10]) ++ [102, 97, 108, 115, 101]) ++ [10])
theorem cp44 : CompK ns44 root44 2 rows44 := by
  intro n r0 r1 r2 r3 r4 r5 r6 r7 r8 r9 r10 r11 r12
  kernel_rfl
def p44_0 : List UInt8 := [108, 111, 99, 97, 108, 32, 99, 32, 61, 32, 99, 114, 101, 97, 116, 101, 40, 102, 117, 110, 99, 116, 105, 111, 110, 40, 97, 41, 32, 101, 114, 114, 111, 114, 40, 97, 41, 32, 101, 110, 100, 41, 32, 108, 111, 99, 97, 108, 32, 111, 44, 32, 118, 32, 61, 32, 114, 101, 115, 117, 109, 101, 40, 99, 44, 32]
def p44_1 : List UInt8 := [41, 32, 112, 114, 105, 110, 116, 40, 111, 41, 32, 112, 114, 105, 110, 116, 40, 118, 32, 43, 32, 48, 41, 32, 108, 111, 99, 97, 108, 32, 112, 44, 32, 119, 32, 61, 32, 114, 101, 115, 117, 109, 101, 40, 99, 41, 32, 112, 114, 105, 110, 116, 40, 112, 41, 32, 112, 114, 105, 110, 116, 40, 119, 41]
theorem lx44 (w : List UInt8) : scanW w 400 p44_0 0 0 [] = some (334, 66, 0, tkP 400 p44_0 0) := by kernel_rfl
theorem pr44 (x len : Nat) (src : List UInt8) (nodes0 : List Nd) : bind1 (bind1 (scanS 200 p44_1 (66 + len) 0 (tkP 400 p44_0 0 ++ [⟨3, 66, [], ((x : Nat) : Int), 0⟩])) (parT 400 src nodes0)) erP = some (ns44.map (nPut x), root44) := by kernel_rfl
theorem fr44 {x : Nat} {t : List UInt8} (hx : x < 9218868437227405312) (hn : NumT t) (hl : t.length ≤ 22) (hp : parseM t = some (x, 0)) (hL : newX [0, 4607182418800017408] x) : Front (say44 t).src 2 (rows44.map (rPut x)) := by
  refine front_mk (ns := ns44.map (nPut x)) (root := root44) ?_ (Rows.put hx (by decide) (by decide) (by kernel_rfl) (by kernel_rfl) (of_decide_eq_true (by kernel_rfl))) (fun nodes0 => ?_) (comp_open cp44 hL (fun z => hL 4607182418800017408 (by simp) z.symm) (by kernel_rfl) (by kernel_rfl))
  · show (((p44_0 ++ t) ++ p44_1)).length ≤ 2048
    simp only [List.length_append]
    have e : p44_0.length + p44_1.length ≤ 1000 := of_decide_eq_true (by kernel_rfl)
    omega
  · show bind1 (bind1 (scanL 400 ((p44_0 ++ t) ++ p44_1) 0 0 []) (parT 400 ((p44_0 ++ t) ++ p44_1) nodes0)) erP = _
    have h := pr44 x t.length ((p44_0 ++ t) ++ p44_1) nodes0
    obtain ⟨z, hz, h⟩ := bnd1 h
    obtain ⟨r, hr, hz⟩ := bnd1 hz
    refine parse_of (r := r) (ascii_app (ascii_app (ascii_of (by kernel_rfl)) (num_ascii hn)) (ascii_of (by kernel_rfl))) ?_ nodes0 ?_
    · rw [List.append_assoc]
      exact pre_step (lx44 _) (num_step hn hl (by refine ⟨?_, ?_, ?_⟩ <;> decide) hp (of_decide_eq_true (by kernel_rfl)) hr (by decide))
    · rw [hz]; exact h
theorem v44a (x : Nat) (t : List UInt8) : endR (coLA 1000 40 60 0 V.nil V.nil 0 (q44a x t) (ld1 (pgR (rows44.map (rPut x))) ts0 8)) = some ((⟨1, V.nil, 0⟩, 1, u44a t, 0, 1), [], o44a x t) := by kernel_rfl
theorem ob44a {x : Nat} {t : List UInt8} (hx : x < 9218868437227405312) (hf : formatM x = some t) (hg : formatM (negM x) = some ([45] ++ t)) (hl : t.length ≤ 22) (hp : parseM t = some (x, 0)) : allOb (o44a x t) := by
  unfold o44a
  exact allOb_cons (show _ ∧ _ ∧ _ ∧ cmpM _ _ _ = _ from ⟨rfl, rfl, Int.natCast_nonneg _, cmp_self hx⟩) (allOb_cons (show _ ∧ _ ∧ _ ∧ cmpM _ _ _ = _ from ⟨rfl, rfl, Int.natCast_nonneg _, cmp_self hx⟩) (allOb_cons (show (_ ∧ _) ∧ (_ ∧ _) ∧ arithM _ _ _ = some _ from ⟨⟨Int.natCast_nonneg _, Int.ofNat_lt.2 (Nat.lt_trans hx (by decide))⟩, by decide, add_zero_bits hx⟩) (allOb_cons (txt_num (Nat.lt_trans hx (by decide)) hf) (allOb_cons (by show List.length _ + List.length _ + 1 ≤ 200; simp only [List.length_append, List.length_cons, List.length_nil]; omega) (allOb_cons (by show List.length _ + List.length _ + 1 ≤ 200; simp only [List.length_append, List.length_cons, List.length_nil]; omega) (allOb_cons (by show List.length _ + List.length _ + 1 ≤ 200; simp only [List.length_append, List.length_cons, List.length_nil]; omega) (allOb_nil)))))))
theorem v44b (x : Nat) (t : List UInt8) : endR (coLA 1000 40 60 0 V.nil V.nil 0 (q44b x t) (ld1 (pgR (rows44.map (rPut x))) ts0 7)) = some ((⟨3, V.nil, 9⟩, 1, u44b t, 0, 1), [], o44b x t) := by kernel_rfl
theorem ob44b {x : Nat} {t : List UInt8} (hx : x < 9218868437227405312) (hf : formatM x = some t) (hg : formatM (negM x) = some ([45] ++ t)) (hl : t.length ≤ 22) (hp : parseM t = some (x, 0)) : allOb (o44b x t) := by
  unfold o44b
  exact allOb_cons (show _ ∧ _ ∧ _ ∧ cmpM _ _ _ = _ from ⟨rfl, rfl, Int.natCast_nonneg _, cmp_self hx⟩) (allOb_cons (show _ ∧ _ ∧ _ ∧ cmpM _ _ _ = _ from ⟨rfl, rfl, Int.natCast_nonneg _, cmp_self hx⟩) (allOb_cons (show (_ ∧ _) ∧ (_ ∧ _) ∧ arithM _ _ _ = some _ from ⟨⟨Int.natCast_nonneg _, Int.ofNat_lt.2 (Nat.lt_trans hx (by decide))⟩, by decide, add_zero_bits hx⟩) (allOb_cons (txt_num (Nat.lt_trans hx (by decide)) hf) (allOb_cons (by show List.length _ + List.length _ + 1 ≤ 200; simp only [List.length_append, List.length_cons, List.length_nil]; omega) (allOb_cons (by show List.length _ + List.length _ + 1 ≤ 200; simp only [List.length_append, List.length_cons, List.length_nil]; omega) (allOb_nil))))))
theorem op44 {x : Nat} {t : List UInt8} (hx : x < 9218868437227405312) (hf : formatM x = some t) (hL : newX [0, 4607182418800017408] x) (c : CSt) (m : VM) (hJ : JJ c m) : Two say44 (say44 t).m (say44 t).ms t c m := by
  obtain ⟨t', f1, hn, hl, hp, hg⟩ := fmt_all hx
  rw [hf] at f1
  injection f1 with f1
  subst f1
  have ua : u44a t = (say44 t).out := by simp [u44a, say44]
  have ub : u44b t = (say44 t).short := by simp [u44b, say44]
  exact two_mk (run_mk (fr44 hx hn hl hp hL) (v44a x t) (ob44a hx hf hg hl hp) (by decide) (.inl ⟨rfl, by rw [ua]⟩)) (run_mk (fr44 hx hn hl hp hL) (v44b x t) (ob44b hx hf hg hl hp) (by decide) (.inr ⟨rfl, by rw [ub]⟩)) c m hJ
def nsC44x0 : List Nd := [⟨0, 0, 0, 0, 0, 0, [], 0⟩, ⟨17, 0, 0, 0, 0, 0, [99, 114, 101, 97, 116, 101], 0⟩, ⟨17, 0, 0, 0, 0, 0, [97], 0⟩, ⟨17, 0, 0, 0, 0, 0, [101, 114, 114, 111, 114], 0⟩, ⟨17, 0, 0, 0, 0, 0, [97], 0⟩, ⟨19, 3, 4, 0, 0, 0, [], 0⟩, ⟨5, 5, 0, 0, 0, 0, [], 0⟩, ⟨20, 2, 6, 0, 0, 1, [], 0⟩, ⟨19, 1, 7, 0, 0, 0, [], 0⟩, ⟨1, 8, 0, 0, 16, 0, [99], 0⟩, ⟨17, 0, 0, 0, 11, 0, [111], 0⟩, ⟨17, 0, 0, 0, 0, 0, [118], 0⟩, ⟨17, 0, 0, 0, 0, 0, [114, 101, 115, 117, 109, 101], 0⟩, ⟨17, 0, 0, 0, 14, 0, [99], 0⟩, ⟨15, 0, 0, 0, 0, 0, [], 0⟩, ⟨19, 12, 13, 0, 0, 0, [], 0⟩, ⟨2, 10, 15, 0, 20, 0, [], 0⟩, ⟨17, 0, 0, 0, 0, 0, [112, 114, 105, 110, 116], 0⟩, ⟨17, 0, 0, 0, 0, 0, [111], 0⟩, ⟨19, 17, 18, 0, 0, 0, [], 0⟩, ⟨5, 19, 0, 0, 26, 0, [], 0⟩, ⟨17, 0, 0, 0, 0, 0, [112, 114, 105, 110, 116], 0⟩, ⟨17, 0, 0, 0, 0, 0, [118], 0⟩, ⟨15, 0, 0, 0, 0, 0, [], 0⟩, ⟨22, 22, 23, 0, 0, 1, [], 0⟩, ⟨19, 21, 24, 0, 0, 0, [], 0⟩, ⟨5, 25, 0, 0, 32, 0, [], 0⟩, ⟨17, 0, 0, 0, 28, 0, [112], 0⟩, ⟨17, 0, 0, 0, 0, 0, [119], 0⟩, ⟨17, 0, 0, 0, 0, 0, [114, 101, 115, 117, 109, 101], 0⟩, ⟨17, 0, 0, 0, 0, 0, [99], 0⟩, ⟨19, 29, 30, 0, 0, 0, [], 0⟩, ⟨2, 27, 31, 0, 36, 0, [], 0⟩, ⟨17, 0, 0, 0, 0, 0, [112, 114, 105, 110, 116], 0⟩, ⟨17, 0, 0, 0, 0, 0, [112], 0⟩, ⟨19, 33, 34, 0, 0, 0, [], 0⟩, ⟨5, 35, 0, 0, 40, 0, [], 0⟩, ⟨17, 0, 0, 0, 0, 0, [112, 114, 105, 110, 116], 0⟩, ⟨17, 0, 0, 0, 0, 0, [119], 0⟩, ⟨19, 37, 38, 0, 0, 0, [], 0⟩, ⟨5, 39, 0, 0, 0, 0, [], 0⟩]
def rootC44x0 : Int := 9
def rowsC44x0 : List Rw := [⟨0, 5, [], [⟨3, 0, [99, 114, 101, 97, 116, 101]⟩, ⟨3, 0, [114, 101, 115, 117, 109, 101]⟩, ⟨2, 0, []⟩, ⟨3, 0, [112, 114, 105, 110, 116]⟩], [(9, 0), (28, 1), (26, 1), (25, 0), (6, 0), (9, 1), (5, 0), (1, 2), (26, 2), (6, 2), (6, 1), (9, 3), (5, 1), (26, 1), (25, 0), (25, 0), (9, 3), (5, 2), (1, 2), (15, 1), (26, 1), (25, 0), (25, 0), (9, 1), (5, 0), (26, 1), (6, 4), (6, 3), (9, 3), (5, 3), (26, 1), (25, 0), (25, 0), (9, 3), (5, 4), (26, 1), (25, 0), (25, 0), (29, 0), (2, 0), (2, 0), (27, 0)]⟩, ⟨1, 1, [], [⟨3, 0, [101, 114, 114, 111, 114]⟩], [(9, 0), (5, 0), (26, 1), (25, 0), (25, 0), (2, 0), (2, 0), (27, 0)]⟩]
def srcC44x0 : List UInt8 := [108, 111, 99, 97, 108, 32, 99, 32, 61, 32, 99, 114, 101, 97, 116, 101, 40, 102, 117, 110, 99, 116, 105, 111, 110, 40, 97, 41, 32, 101, 114, 114, 111, 114, 40, 97, 41, 32, 101, 110, 100, 41, 32, 108, 111, 99, 97, 108, 32, 111, 44, 32, 118, 32, 61, 32, 114, 101, 115, 117, 109, 101, 40, 99, 44, 32, 48, 41, 32, 112, 114, 105, 110, 116, 40, 111, 41, 32, 112, 114, 105, 110, 116, 40, 118, 32, 43, 32, 48, 41, 32, 108, 111, 99, 97, 108, 32, 112, 44, 32, 119, 32, 61, 32, 114, 101, 115, 117, 109, 101, 40, 99, 41, 32, 112, 114, 105, 110, 116, 40, 112, 41, 32, 112, 114, 105, 110, 116, 40, 119, 41]
def qC44x0a : HQ := List.replicate 5 none
def oC44x0a : List Ob := [.val ⟨2, 0, []⟩, .val ⟨2, 0, []⟩]
def uC44x0a : List UInt8 := [102, 97, 108, 115, 101, 10, 48, 10, 102, 97, 108, 115, 101, 10, 100, 101, 97, 100, 10]
def qC44x0b : HQ := List.replicate 5 none
def oC44x0b : List Ob := [.val ⟨2, 0, []⟩, .val ⟨2, 0, []⟩]
def uC44x0b : List UInt8 := [102, 97, 108, 115, 101, 10, 48, 10, 102, 97, 108, 115, 101, 10]
theorem cpC44x0 : CompK nsC44x0 rootC44x0 2 rowsC44x0 := by
  intro n r0 r1 r2 r3 r4 r5 r6 r7 r8 r9 r10 r11 r12
  kernel_rfl
theorem prC44x0 (src : List UInt8) (nodes0 : List Nd) : bind1 (bind1 (scanS 400 srcC44x0 0 0 []) (parT 400 src nodes0)) erP = some (nsC44x0, rootC44x0) := by kernel_rfl
theorem frC44x0 : Front srcC44x0 2 rowsC44x0 := by
  have e : rowsC44x0.map (rPut ((0 : Nat) : Int)) = rowsC44x0 := by kernel_rfl
  refine front_mk (ns := nsC44x0) (root := rootC44x0) (of_decide_eq_true (by kernel_rfl)) (e ▸ Rows.put (x := 0) (by decide) (by decide) (by decide) (by kernel_rfl) (by kernel_rfl) (of_decide_eq_true (by kernel_rfl))) (fun nodes0 => ?_) cpC44x0.all
  obtain ⟨z, hz, h⟩ := bnd1 (prC44x0 srcC44x0 nodes0)
  obtain ⟨r, hr, hz⟩ := bnd1 hz
  exact parse_of (ascii_of (by kernel_rfl)) hr nodes0 (by rw [hz]; exact h)
theorem vC44x0a : endR (coLA 1000 40 60 0 V.nil V.nil 0 qC44x0a (ld1 (pgR rowsC44x0) ts0 8)) = some ((⟨1, V.nil, 0⟩, 1, uC44x0a, 0, 1), [], oC44x0a) := by kernel_rfl
theorem obC44x0a : allOb oC44x0a := by
  unfold oC44x0a
  exact allOb_cons (show _ ∧ _ ∧ _ ∧ cmpM _ _ _ = _ from ⟨rfl, rfl, by decide, by kernel_rfl⟩) (allOb_cons (show _ ∧ _ ∧ _ ∧ cmpM _ _ _ = _ from ⟨rfl, rfl, by decide, by kernel_rfl⟩) (allOb_nil))
theorem vC44x0b : endR (coLA 1000 40 60 0 V.nil V.nil 0 qC44x0b (ld1 (pgR rowsC44x0) ts0 7)) = some ((⟨3, V.nil, 9⟩, 1, uC44x0b, 0, 1), [], oC44x0b) := by kernel_rfl
theorem obC44x0b : allOb oC44x0b := by
  unfold oC44x0b
  exact allOb_cons (show _ ∧ _ ∧ _ ∧ cmpM _ _ _ = _ from ⟨rfl, rfl, by decide, by kernel_rfl⟩) (allOb_cons (show _ ∧ _ ∧ _ ∧ cmpM _ _ _ = _ from ⟨rfl, rfl, by decide, by kernel_rfl⟩) (allOb_nil))
theorem opC44x0 (c : CSt) (m : VM) (hJ : JJ c m) : Two say44 (say44 [48]).m (say44 [48]).ms [48] c m := by
  exact two_mk (src := srcC44x0) (run_mk frC44x0 vC44x0a obC44x0a (by decide) (.inl ⟨rfl, rfl⟩)) (run_mk frC44x0 vC44x0b obC44x0b (by decide) (.inr ⟨rfl, rfl⟩)) c m hJ
def nsC44x1 : List Nd := [⟨0, 0, 0, 0, 0, 0, [], 0⟩, ⟨17, 0, 0, 0, 0, 0, [99, 114, 101, 97, 116, 101], 0⟩, ⟨17, 0, 0, 0, 0, 0, [97], 0⟩, ⟨17, 0, 0, 0, 0, 0, [101, 114, 114, 111, 114], 0⟩, ⟨17, 0, 0, 0, 0, 0, [97], 0⟩, ⟨19, 3, 4, 0, 0, 0, [], 0⟩, ⟨5, 5, 0, 0, 0, 0, [], 0⟩, ⟨20, 2, 6, 0, 0, 1, [], 0⟩, ⟨19, 1, 7, 0, 0, 0, [], 0⟩, ⟨1, 8, 0, 0, 16, 0, [99], 0⟩, ⟨17, 0, 0, 0, 11, 0, [111], 0⟩, ⟨17, 0, 0, 0, 0, 0, [118], 0⟩, ⟨17, 0, 0, 0, 0, 0, [114, 101, 115, 117, 109, 101], 0⟩, ⟨17, 0, 0, 0, 14, 0, [99], 0⟩, ⟨15, 0, 0, 0, 0, 4607182418800017408, [], 0⟩, ⟨19, 12, 13, 0, 0, 0, [], 0⟩, ⟨2, 10, 15, 0, 20, 0, [], 0⟩, ⟨17, 0, 0, 0, 0, 0, [112, 114, 105, 110, 116], 0⟩, ⟨17, 0, 0, 0, 0, 0, [111], 0⟩, ⟨19, 17, 18, 0, 0, 0, [], 0⟩, ⟨5, 19, 0, 0, 26, 0, [], 0⟩, ⟨17, 0, 0, 0, 0, 0, [112, 114, 105, 110, 116], 0⟩, ⟨17, 0, 0, 0, 0, 0, [118], 0⟩, ⟨15, 0, 0, 0, 0, 0, [], 0⟩, ⟨22, 22, 23, 0, 0, 1, [], 0⟩, ⟨19, 21, 24, 0, 0, 0, [], 0⟩, ⟨5, 25, 0, 0, 32, 0, [], 0⟩, ⟨17, 0, 0, 0, 28, 0, [112], 0⟩, ⟨17, 0, 0, 0, 0, 0, [119], 0⟩, ⟨17, 0, 0, 0, 0, 0, [114, 101, 115, 117, 109, 101], 0⟩, ⟨17, 0, 0, 0, 0, 0, [99], 0⟩, ⟨19, 29, 30, 0, 0, 0, [], 0⟩, ⟨2, 27, 31, 0, 36, 0, [], 0⟩, ⟨17, 0, 0, 0, 0, 0, [112, 114, 105, 110, 116], 0⟩, ⟨17, 0, 0, 0, 0, 0, [112], 0⟩, ⟨19, 33, 34, 0, 0, 0, [], 0⟩, ⟨5, 35, 0, 0, 40, 0, [], 0⟩, ⟨17, 0, 0, 0, 0, 0, [112, 114, 105, 110, 116], 0⟩, ⟨17, 0, 0, 0, 0, 0, [119], 0⟩, ⟨19, 37, 38, 0, 0, 0, [], 0⟩, ⟨5, 39, 0, 0, 0, 0, [], 0⟩]
def rootC44x1 : Int := 9
def rowsC44x1 : List Rw := [⟨0, 5, [], [⟨3, 0, [99, 114, 101, 97, 116, 101]⟩, ⟨3, 0, [114, 101, 115, 117, 109, 101]⟩, ⟨2, 4607182418800017408, []⟩, ⟨3, 0, [112, 114, 105, 110, 116]⟩, ⟨2, 0, []⟩], [(9, 0), (28, 1), (26, 1), (25, 0), (6, 0), (9, 1), (5, 0), (1, 2), (26, 2), (6, 2), (6, 1), (9, 3), (5, 1), (26, 1), (25, 0), (25, 0), (9, 3), (5, 2), (1, 4), (15, 1), (26, 1), (25, 0), (25, 0), (9, 1), (5, 0), (26, 1), (6, 4), (6, 3), (9, 3), (5, 3), (26, 1), (25, 0), (25, 0), (9, 3), (5, 4), (26, 1), (25, 0), (25, 0), (29, 0), (2, 0), (2, 0), (27, 0)]⟩, ⟨1, 1, [], [⟨3, 0, [101, 114, 114, 111, 114]⟩], [(9, 0), (5, 0), (26, 1), (25, 0), (25, 0), (2, 0), (2, 0), (27, 0)]⟩]
def srcC44x1 : List UInt8 := [108, 111, 99, 97, 108, 32, 99, 32, 61, 32, 99, 114, 101, 97, 116, 101, 40, 102, 117, 110, 99, 116, 105, 111, 110, 40, 97, 41, 32, 101, 114, 114, 111, 114, 40, 97, 41, 32, 101, 110, 100, 41, 32, 108, 111, 99, 97, 108, 32, 111, 44, 32, 118, 32, 61, 32, 114, 101, 115, 117, 109, 101, 40, 99, 44, 32, 49, 41, 32, 112, 114, 105, 110, 116, 40, 111, 41, 32, 112, 114, 105, 110, 116, 40, 118, 32, 43, 32, 48, 41, 32, 108, 111, 99, 97, 108, 32, 112, 44, 32, 119, 32, 61, 32, 114, 101, 115, 117, 109, 101, 40, 99, 41, 32, 112, 114, 105, 110, 116, 40, 112, 41, 32, 112, 114, 105, 110, 116, 40, 119, 41]
def qC44x1a : HQ := List.replicate 5 none
def oC44x1a : List Ob := [.val ⟨2, 4607182418800017408, []⟩, .val ⟨2, 4607182418800017408, []⟩]
def uC44x1a : List UInt8 := [102, 97, 108, 115, 101, 10, 49, 10, 102, 97, 108, 115, 101, 10, 100, 101, 97, 100, 10]
def qC44x1b : HQ := List.replicate 5 none
def oC44x1b : List Ob := [.val ⟨2, 4607182418800017408, []⟩, .val ⟨2, 4607182418800017408, []⟩]
def uC44x1b : List UInt8 := [102, 97, 108, 115, 101, 10, 49, 10, 102, 97, 108, 115, 101, 10]
theorem cpC44x1 : CompK nsC44x1 rootC44x1 2 rowsC44x1 := by
  intro n r0 r1 r2 r3 r4 r5 r6 r7 r8 r9 r10 r11 r12
  kernel_rfl
theorem prC44x1 (src : List UInt8) (nodes0 : List Nd) : bind1 (bind1 (scanS 400 srcC44x1 0 0 []) (parT 400 src nodes0)) erP = some (nsC44x1, rootC44x1) := by kernel_rfl
theorem frC44x1 : Front srcC44x1 2 rowsC44x1 := by
  have e : rowsC44x1.map (rPut ((0 : Nat) : Int)) = rowsC44x1 := by kernel_rfl
  refine front_mk (ns := nsC44x1) (root := rootC44x1) (of_decide_eq_true (by kernel_rfl)) (e ▸ Rows.put (x := 0) (by decide) (by decide) (by decide) (by kernel_rfl) (by kernel_rfl) (of_decide_eq_true (by kernel_rfl))) (fun nodes0 => ?_) cpC44x1.all
  obtain ⟨z, hz, h⟩ := bnd1 (prC44x1 srcC44x1 nodes0)
  obtain ⟨r, hr, hz⟩ := bnd1 hz
  exact parse_of (ascii_of (by kernel_rfl)) hr nodes0 (by rw [hz]; exact h)
theorem vC44x1a : endR (coLA 1000 40 60 0 V.nil V.nil 0 qC44x1a (ld1 (pgR rowsC44x1) ts0 8)) = some ((⟨1, V.nil, 0⟩, 1, uC44x1a, 0, 1), [], oC44x1a) := by kernel_rfl
theorem obC44x1a : allOb oC44x1a := by
  unfold oC44x1a
  exact allOb_cons (show _ ∧ _ ∧ _ ∧ cmpM _ _ _ = _ from ⟨rfl, rfl, by decide, by kernel_rfl⟩) (allOb_cons (show _ ∧ _ ∧ _ ∧ cmpM _ _ _ = _ from ⟨rfl, rfl, by decide, by kernel_rfl⟩) (allOb_nil))
theorem vC44x1b : endR (coLA 1000 40 60 0 V.nil V.nil 0 qC44x1b (ld1 (pgR rowsC44x1) ts0 7)) = some ((⟨3, V.nil, 9⟩, 1, uC44x1b, 0, 1), [], oC44x1b) := by kernel_rfl
theorem obC44x1b : allOb oC44x1b := by
  unfold oC44x1b
  exact allOb_cons (show _ ∧ _ ∧ _ ∧ cmpM _ _ _ = _ from ⟨rfl, rfl, by decide, by kernel_rfl⟩) (allOb_cons (show _ ∧ _ ∧ _ ∧ cmpM _ _ _ = _ from ⟨rfl, rfl, by decide, by kernel_rfl⟩) (allOb_nil))
theorem opC44x1 (c : CSt) (m : VM) (hJ : JJ c m) : Two say44 (say44 [49]).m (say44 [49]).ms [49] c m := by
  exact two_mk (src := srcC44x1) (run_mk frC44x1 vC44x1a obC44x1a (by decide) (.inl ⟨rfl, rfl⟩)) (run_mk frC44x1 vC44x1b obC44x1b (by decide) (.inr ⟨rfl, rfl⟩)) c m hJ
theorem one44 {x : Nat} {t : List UInt8} (hx : x < 9218868437227405312) (hf : formatM x = some t) (c : CSt) (m : VM) (hJ : JJ c m) : Two say44 (say44 t).m (say44 t).ms t c m := by
  by_cases h0 : x = 0
  · subst h0
    have e : formatM 0 = some [48] := by kernel_rfl
    rw [e] at hf
    injection hf with hf
    subst hf
    exact opC44x0 c m hJ
  by_cases h1 : x = 4607182418800017408
  · subst h1
    have e : formatM 4607182418800017408 = some [49] := by kernel_rfl
    rw [e] at hf
    injection hf with hf
    subst hf
    exact opC44x1 c m hJ
  refine op44 hx hf ?_ c m hJ
  intro z hz
  simp only [List.mem_cons, List.not_mem_nil, or_false] at hz
  rcases hz with rfl | rfl <;> omega
def ns53 : List Nd := [⟨0, 0, 0, 0, 0, 0, [], 0⟩, ⟨17, 0, 0, 0, 0, 0, [112, 114, 105, 110, 116], 0⟩, ⟨15, 0, 0, 0, 0, 4619567317775286272, [], 0⟩, ⟨23, 2, 0, 0, 0, 1, [], 0⟩, ⟨15, 0, 0, 0, 0, 4613937818241073152, [], 0⟩, ⟨22, 3, 4, 0, 0, 6, [], 0⟩, ⟨19, 1, 5, 0, 0, 0, [], 0⟩, ⟨5, 6, 0, 0, 14, 0, [], 0⟩, ⟨17, 0, 0, 0, 0, 0, [112, 114, 105, 110, 116], 0⟩, ⟨15, 0, 0, 0, 0, 4619567317775286272, [], 0⟩, ⟨15, 0, 0, 0, 0, 4613937818241073152, [], 0⟩, ⟨23, 10, 0, 0, 0, 1, [], 0⟩, ⟨22, 9, 11, 0, 0, 6, [], 0⟩, ⟨19, 8, 12, 0, 0, 0, [], 0⟩, ⟨5, 13, 0, 0, 21, 0, [], 0⟩, ⟨17, 0, 0, 0, 0, 0, [112, 114, 105, 110, 116], 0⟩, ⟨15, 0, 0, 0, 0, 4619567317775286272, [], 0⟩, ⟨23, 16, 0, 0, 0, 1, [], 0⟩, ⟨15, 0, 0, 0, 0, 4611686018427387904, [], 0⟩, ⟨22, 17, 18, 0, 0, 5, [], 0⟩, ⟨19, 15, 19, 0, 0, 0, [], 0⟩, ⟨5, 20, 0, 0, 25, 0, [], 0⟩, ⟨17, 0, 0, 0, 0, 0, [112, 114, 105, 110, 116], 0⟩, ⟨15, 0, 0, 0, 0, -1, [], 0⟩, ⟨19, 22, 23, 0, 0, 0, [], 0⟩, ⟨5, 24, 0, 0, 0, 0, [], 0⟩]
def root53 : Int := 7
def rows53 : List Rw := [⟨0, 0, [], [⟨3, 0, [112, 114, 105, 110, 116]⟩, ⟨2, 4619567317775286272, []⟩, ⟨2, 4613937818241073152, []⟩, ⟨2, 4611686018427387904, []⟩, ⟨2, -1, []⟩], [(9, 0), (1, 1), (19, 0), (1, 2), (15, 6), (26, 1), (25, 0), (25, 0), (9, 0), (1, 1), (1, 2), (19, 0), (15, 6), (26, 1), (25, 0), (25, 0), (9, 0), (1, 1), (19, 0), (1, 3), (15, 5), (26, 1), (25, 0), (25, 0), (9, 0), (1, 4), (26, 1), (25, 0), (25, 0), (2, 0), (2, 0), (27, 0)]⟩]
def q53a (x : Nat) (t : List UInt8) : HQ := [none, none, none, none, none, none, none, none, none, some ⟨t, [], [], 0⟩]
def o53a (x : Nat) (t : List UInt8) : List Ob := [.txt ⟨2, ((x : Nat) : Int), []⟩ t, .out [50, 10, 45, 50, 10, 45, 52, 10] t]
def u53a (t : List UInt8) : List UInt8 := (([50, 10, 45, 50, 10, 45, 52, 10] ++ t) ++ [10])
def q53b (x : Nat) (t : List UInt8) : HQ := [none, none, none, none, none, none, none, none, none, none]
def o53b (x : Nat) (t : List UInt8) : List Ob := []
def u53b (t : List UInt8) : List UInt8 := [50, 10, 45, 50, 10, 45, 52, 10]
theorem cp53 : CompK ns53 root53 1 rows53 := by
  intro n r0 r1 r2 r3 r4 r5 r6 r7 r8 r9 r10 r11 r12
  kernel_rfl
def p53_0 : List UInt8 := [112, 114, 105, 110, 116, 40, 45, 55, 32, 37, 32, 51, 41, 32, 112, 114, 105, 110, 116, 40, 55, 32, 37, 32, 45, 51, 41, 32, 112, 114, 105, 110, 116, 40, 45, 55, 32, 47, 47, 32, 50, 41, 32, 112, 114, 105, 110, 116, 40]
def p53_1 : List UInt8 := [41]
theorem lx53 (w : List UInt8) : scanW w 400 p53_0 0 0 [] = some (351, 49, 0, tkP 400 p53_0 0) := by kernel_rfl
theorem pr53 (x len : Nat) (src : List UInt8) (nodes0 : List Nd) : bind1 (bind1 (scanS 200 p53_1 (49 + len) 0 (tkP 400 p53_0 0 ++ [⟨3, 49, [], ((x : Nat) : Int), 0⟩])) (parT 400 src nodes0)) erP = some (ns53.map (nPut x), root53) := by kernel_rfl
theorem fr53 {x : Nat} {t : List UInt8} (hx : x < 9218868437227405312) (hn : NumT t) (hl : t.length ≤ 22) (hp : parseM t = some (x, 0)) (hL : newX [4619567317775286272, 4613937818241073152, 4611686018427387904, 4607182418800017408] x) : Front (say53 t).src 1 (rows53.map (rPut x)) := by
  refine front_mk (ns := ns53.map (nPut x)) (root := root53) ?_ (Rows.put hx (by decide) (by decide) (by kernel_rfl) (by kernel_rfl) (of_decide_eq_true (by kernel_rfl))) (fun nodes0 => ?_) (comp_open cp53 hL (fun z => hL 4607182418800017408 (by simp) z.symm) (by kernel_rfl) (by kernel_rfl))
  · show (((p53_0 ++ t) ++ p53_1)).length ≤ 2048
    simp only [List.length_append]
    have e : p53_0.length + p53_1.length ≤ 1000 := of_decide_eq_true (by kernel_rfl)
    omega
  · show bind1 (bind1 (scanL 400 ((p53_0 ++ t) ++ p53_1) 0 0 []) (parT 400 ((p53_0 ++ t) ++ p53_1) nodes0)) erP = _
    have h := pr53 x t.length ((p53_0 ++ t) ++ p53_1) nodes0
    obtain ⟨z, hz, h⟩ := bnd1 h
    obtain ⟨r, hr, hz⟩ := bnd1 hz
    refine parse_of (r := r) (ascii_app (ascii_app (ascii_of (by kernel_rfl)) (num_ascii hn)) (ascii_of (by kernel_rfl))) ?_ nodes0 ?_
    · rw [List.append_assoc]
      exact pre_step (lx53 _) (num_step hn hl (by refine ⟨?_, ?_, ?_⟩ <;> decide) hp (of_decide_eq_true (by kernel_rfl)) hr (by decide))
    · rw [hz]; exact h
theorem v53a (x : Nat) (t : List UInt8) : endR (coLA 1000 40 60 0 V.nil V.nil 0 (q53a x t) (ld1 (pgR (rows53.map (rPut x))) ts0 4)) = some ((⟨1, V.nil, 0⟩, 0, u53a t, 0, 1), [], o53a x t) := by kernel_rfl
theorem ob53a {x : Nat} {t : List UInt8} (hx : x < 9218868437227405312) (hf : formatM x = some t) (hg : formatM (negM x) = some ([45] ++ t)) (hl : t.length ≤ 22) (hp : parseM t = some (x, 0)) : allOb (o53a x t) := by
  unfold o53a
  exact allOb_cons (txt_num (Nat.lt_trans hx (by decide)) hf) (allOb_cons (by show List.length _ + List.length _ + 1 ≤ 200; simp only [List.length_append, List.length_cons, List.length_nil]; omega) (allOb_nil))
theorem v53b (x : Nat) (t : List UInt8) : endR (coLA 1000 40 60 0 V.nil V.nil 0 (q53b x t) (ld1 (pgR (rows53.map (rPut x))) ts0 3)) = some ((⟨3, V.nil, 9⟩, 0, u53b t, 0, 1), [], o53b x t) := by kernel_rfl
theorem ob53b {x : Nat} {t : List UInt8} (hx : x < 9218868437227405312) (hf : formatM x = some t) (hg : formatM (negM x) = some ([45] ++ t)) (hl : t.length ≤ 22) (hp : parseM t = some (x, 0)) : allOb (o53b x t) := by
  unfold o53b
  exact allOb_nil
theorem op53 {x : Nat} {t : List UInt8} (hx : x < 9218868437227405312) (hf : formatM x = some t) (hL : newX [4619567317775286272, 4613937818241073152, 4611686018427387904, 4607182418800017408] x) (c : CSt) (m : VM) (hJ : JJ c m) : Two say53 (say53 t).m (say53 t).ms t c m := by
  obtain ⟨t', f1, hn, hl, hp, hg⟩ := fmt_all hx
  rw [hf] at f1
  injection f1 with f1
  subst f1
  have ua : u53a t = (say53 t).out := by simp [u53a, say53]
  have ub : u53b t = (say53 t).short := by simp [u53b, say53]
  exact two_mk (run_mk (fr53 hx hn hl hp hL) (v53a x t) (ob53a hx hf hg hl hp) (by decide) (.inl ⟨rfl, by rw [ua]⟩)) (run_mk (fr53 hx hn hl hp hL) (v53b x t) (ob53b hx hf hg hl hp) (by decide) (.inr ⟨rfl, by rw [ub]⟩)) c m hJ
def nsC53x0 : List Nd := [⟨0, 0, 0, 0, 0, 0, [], 0⟩, ⟨17, 0, 0, 0, 0, 0, [112, 114, 105, 110, 116], 0⟩, ⟨15, 0, 0, 0, 0, 4619567317775286272, [], 0⟩, ⟨23, 2, 0, 0, 0, 1, [], 0⟩, ⟨15, 0, 0, 0, 0, 4613937818241073152, [], 0⟩, ⟨22, 3, 4, 0, 0, 6, [], 0⟩, ⟨19, 1, 5, 0, 0, 0, [], 0⟩, ⟨5, 6, 0, 0, 14, 0, [], 0⟩, ⟨17, 0, 0, 0, 0, 0, [112, 114, 105, 110, 116], 0⟩, ⟨15, 0, 0, 0, 0, 4619567317775286272, [], 0⟩, ⟨15, 0, 0, 0, 0, 4613937818241073152, [], 0⟩, ⟨23, 10, 0, 0, 0, 1, [], 0⟩, ⟨22, 9, 11, 0, 0, 6, [], 0⟩, ⟨19, 8, 12, 0, 0, 0, [], 0⟩, ⟨5, 13, 0, 0, 21, 0, [], 0⟩, ⟨17, 0, 0, 0, 0, 0, [112, 114, 105, 110, 116], 0⟩, ⟨15, 0, 0, 0, 0, 4619567317775286272, [], 0⟩, ⟨23, 16, 0, 0, 0, 1, [], 0⟩, ⟨15, 0, 0, 0, 0, 4611686018427387904, [], 0⟩, ⟨22, 17, 18, 0, 0, 5, [], 0⟩, ⟨19, 15, 19, 0, 0, 0, [], 0⟩, ⟨5, 20, 0, 0, 25, 0, [], 0⟩, ⟨17, 0, 0, 0, 0, 0, [112, 114, 105, 110, 116], 0⟩, ⟨15, 0, 0, 0, 0, 4619567317775286272, [], 0⟩, ⟨19, 22, 23, 0, 0, 0, [], 0⟩, ⟨5, 24, 0, 0, 0, 0, [], 0⟩]
def rootC53x0 : Int := 7
def rowsC53x0 : List Rw := [⟨0, 0, [], [⟨3, 0, [112, 114, 105, 110, 116]⟩, ⟨2, 4619567317775286272, []⟩, ⟨2, 4613937818241073152, []⟩, ⟨2, 4611686018427387904, []⟩], [(9, 0), (1, 1), (19, 0), (1, 2), (15, 6), (26, 1), (25, 0), (25, 0), (9, 0), (1, 1), (1, 2), (19, 0), (15, 6), (26, 1), (25, 0), (25, 0), (9, 0), (1, 1), (19, 0), (1, 3), (15, 5), (26, 1), (25, 0), (25, 0), (9, 0), (1, 1), (26, 1), (25, 0), (25, 0), (2, 0), (2, 0), (27, 0)]⟩]
def srcC53x0 : List UInt8 := [112, 114, 105, 110, 116, 40, 45, 55, 32, 37, 32, 51, 41, 32, 112, 114, 105, 110, 116, 40, 55, 32, 37, 32, 45, 51, 41, 32, 112, 114, 105, 110, 116, 40, 45, 55, 32, 47, 47, 32, 50, 41, 32, 112, 114, 105, 110, 116, 40, 55, 41]
def qC53x0a : HQ := List.replicate 10 none
def oC53x0a : List Ob := []
def uC53x0a : List UInt8 := [50, 10, 45, 50, 10, 45, 52, 10, 55, 10]
def qC53x0b : HQ := List.replicate 10 none
def oC53x0b : List Ob := []
def uC53x0b : List UInt8 := [50, 10, 45, 50, 10, 45, 52, 10]
theorem cpC53x0 : CompK nsC53x0 rootC53x0 1 rowsC53x0 := by
  intro n r0 r1 r2 r3 r4 r5 r6 r7 r8 r9 r10 r11 r12
  kernel_rfl
theorem prC53x0 (src : List UInt8) (nodes0 : List Nd) : bind1 (bind1 (scanS 400 srcC53x0 0 0 []) (parT 400 src nodes0)) erP = some (nsC53x0, rootC53x0) := by kernel_rfl
theorem frC53x0 : Front srcC53x0 1 rowsC53x0 := by
  have e : rowsC53x0.map (rPut ((0 : Nat) : Int)) = rowsC53x0 := by kernel_rfl
  refine front_mk (ns := nsC53x0) (root := rootC53x0) (of_decide_eq_true (by kernel_rfl)) (e ▸ Rows.put (x := 0) (by decide) (by decide) (by decide) (by kernel_rfl) (by kernel_rfl) (of_decide_eq_true (by kernel_rfl))) (fun nodes0 => ?_) cpC53x0.all
  obtain ⟨z, hz, h⟩ := bnd1 (prC53x0 srcC53x0 nodes0)
  obtain ⟨r, hr, hz⟩ := bnd1 hz
  exact parse_of (ascii_of (by kernel_rfl)) hr nodes0 (by rw [hz]; exact h)
theorem vC53x0a : endR (coLA 1000 40 60 0 V.nil V.nil 0 qC53x0a (ld1 (pgR rowsC53x0) ts0 4)) = some ((⟨1, V.nil, 0⟩, 0, uC53x0a, 0, 1), [], oC53x0a) := by kernel_rfl
theorem obC53x0a : allOb oC53x0a := by
  unfold oC53x0a
  exact allOb_nil
theorem vC53x0b : endR (coLA 1000 40 60 0 V.nil V.nil 0 qC53x0b (ld1 (pgR rowsC53x0) ts0 3)) = some ((⟨3, V.nil, 9⟩, 0, uC53x0b, 0, 1), [], oC53x0b) := by kernel_rfl
theorem obC53x0b : allOb oC53x0b := by
  unfold oC53x0b
  exact allOb_nil
theorem opC53x0 (c : CSt) (m : VM) (hJ : JJ c m) : Two say53 (say53 [55]).m (say53 [55]).ms [55] c m := by
  exact two_mk (src := srcC53x0) (run_mk frC53x0 vC53x0a obC53x0a (by decide) (.inl ⟨rfl, rfl⟩)) (run_mk frC53x0 vC53x0b obC53x0b (by decide) (.inr ⟨rfl, rfl⟩)) c m hJ
def nsC53x1 : List Nd := [⟨0, 0, 0, 0, 0, 0, [], 0⟩, ⟨17, 0, 0, 0, 0, 0, [112, 114, 105, 110, 116], 0⟩, ⟨15, 0, 0, 0, 0, 4619567317775286272, [], 0⟩, ⟨23, 2, 0, 0, 0, 1, [], 0⟩, ⟨15, 0, 0, 0, 0, 4613937818241073152, [], 0⟩, ⟨22, 3, 4, 0, 0, 6, [], 0⟩, ⟨19, 1, 5, 0, 0, 0, [], 0⟩, ⟨5, 6, 0, 0, 14, 0, [], 0⟩, ⟨17, 0, 0, 0, 0, 0, [112, 114, 105, 110, 116], 0⟩, ⟨15, 0, 0, 0, 0, 4619567317775286272, [], 0⟩, ⟨15, 0, 0, 0, 0, 4613937818241073152, [], 0⟩, ⟨23, 10, 0, 0, 0, 1, [], 0⟩, ⟨22, 9, 11, 0, 0, 6, [], 0⟩, ⟨19, 8, 12, 0, 0, 0, [], 0⟩, ⟨5, 13, 0, 0, 21, 0, [], 0⟩, ⟨17, 0, 0, 0, 0, 0, [112, 114, 105, 110, 116], 0⟩, ⟨15, 0, 0, 0, 0, 4619567317775286272, [], 0⟩, ⟨23, 16, 0, 0, 0, 1, [], 0⟩, ⟨15, 0, 0, 0, 0, 4611686018427387904, [], 0⟩, ⟨22, 17, 18, 0, 0, 5, [], 0⟩, ⟨19, 15, 19, 0, 0, 0, [], 0⟩, ⟨5, 20, 0, 0, 25, 0, [], 0⟩, ⟨17, 0, 0, 0, 0, 0, [112, 114, 105, 110, 116], 0⟩, ⟨15, 0, 0, 0, 0, 4613937818241073152, [], 0⟩, ⟨19, 22, 23, 0, 0, 0, [], 0⟩, ⟨5, 24, 0, 0, 0, 0, [], 0⟩]
def rootC53x1 : Int := 7
def rowsC53x1 : List Rw := [⟨0, 0, [], [⟨3, 0, [112, 114, 105, 110, 116]⟩, ⟨2, 4619567317775286272, []⟩, ⟨2, 4613937818241073152, []⟩, ⟨2, 4611686018427387904, []⟩], [(9, 0), (1, 1), (19, 0), (1, 2), (15, 6), (26, 1), (25, 0), (25, 0), (9, 0), (1, 1), (1, 2), (19, 0), (15, 6), (26, 1), (25, 0), (25, 0), (9, 0), (1, 1), (19, 0), (1, 3), (15, 5), (26, 1), (25, 0), (25, 0), (9, 0), (1, 2), (26, 1), (25, 0), (25, 0), (2, 0), (2, 0), (27, 0)]⟩]
def srcC53x1 : List UInt8 := [112, 114, 105, 110, 116, 40, 45, 55, 32, 37, 32, 51, 41, 32, 112, 114, 105, 110, 116, 40, 55, 32, 37, 32, 45, 51, 41, 32, 112, 114, 105, 110, 116, 40, 45, 55, 32, 47, 47, 32, 50, 41, 32, 112, 114, 105, 110, 116, 40, 51, 41]
def qC53x1a : HQ := List.replicate 10 none
def oC53x1a : List Ob := []
def uC53x1a : List UInt8 := [50, 10, 45, 50, 10, 45, 52, 10, 51, 10]
def qC53x1b : HQ := List.replicate 10 none
def oC53x1b : List Ob := []
def uC53x1b : List UInt8 := [50, 10, 45, 50, 10, 45, 52, 10]
theorem cpC53x1 : CompK nsC53x1 rootC53x1 1 rowsC53x1 := by
  intro n r0 r1 r2 r3 r4 r5 r6 r7 r8 r9 r10 r11 r12
  kernel_rfl
theorem prC53x1 (src : List UInt8) (nodes0 : List Nd) : bind1 (bind1 (scanS 400 srcC53x1 0 0 []) (parT 400 src nodes0)) erP = some (nsC53x1, rootC53x1) := by kernel_rfl
theorem frC53x1 : Front srcC53x1 1 rowsC53x1 := by
  have e : rowsC53x1.map (rPut ((0 : Nat) : Int)) = rowsC53x1 := by kernel_rfl
  refine front_mk (ns := nsC53x1) (root := rootC53x1) (of_decide_eq_true (by kernel_rfl)) (e ▸ Rows.put (x := 0) (by decide) (by decide) (by decide) (by kernel_rfl) (by kernel_rfl) (of_decide_eq_true (by kernel_rfl))) (fun nodes0 => ?_) cpC53x1.all
  obtain ⟨z, hz, h⟩ := bnd1 (prC53x1 srcC53x1 nodes0)
  obtain ⟨r, hr, hz⟩ := bnd1 hz
  exact parse_of (ascii_of (by kernel_rfl)) hr nodes0 (by rw [hz]; exact h)
theorem vC53x1a : endR (coLA 1000 40 60 0 V.nil V.nil 0 qC53x1a (ld1 (pgR rowsC53x1) ts0 4)) = some ((⟨1, V.nil, 0⟩, 0, uC53x1a, 0, 1), [], oC53x1a) := by kernel_rfl
theorem obC53x1a : allOb oC53x1a := by
  unfold oC53x1a
  exact allOb_nil
theorem vC53x1b : endR (coLA 1000 40 60 0 V.nil V.nil 0 qC53x1b (ld1 (pgR rowsC53x1) ts0 3)) = some ((⟨3, V.nil, 9⟩, 0, uC53x1b, 0, 1), [], oC53x1b) := by kernel_rfl
theorem obC53x1b : allOb oC53x1b := by
  unfold oC53x1b
  exact allOb_nil
theorem opC53x1 (c : CSt) (m : VM) (hJ : JJ c m) : Two say53 (say53 [51]).m (say53 [51]).ms [51] c m := by
  exact two_mk (src := srcC53x1) (run_mk frC53x1 vC53x1a obC53x1a (by decide) (.inl ⟨rfl, rfl⟩)) (run_mk frC53x1 vC53x1b obC53x1b (by decide) (.inr ⟨rfl, rfl⟩)) c m hJ
def nsC53x2 : List Nd := [⟨0, 0, 0, 0, 0, 0, [], 0⟩, ⟨17, 0, 0, 0, 0, 0, [112, 114, 105, 110, 116], 0⟩, ⟨15, 0, 0, 0, 0, 4619567317775286272, [], 0⟩, ⟨23, 2, 0, 0, 0, 1, [], 0⟩, ⟨15, 0, 0, 0, 0, 4613937818241073152, [], 0⟩, ⟨22, 3, 4, 0, 0, 6, [], 0⟩, ⟨19, 1, 5, 0, 0, 0, [], 0⟩, ⟨5, 6, 0, 0, 14, 0, [], 0⟩, ⟨17, 0, 0, 0, 0, 0, [112, 114, 105, 110, 116], 0⟩, ⟨15, 0, 0, 0, 0, 4619567317775286272, [], 0⟩, ⟨15, 0, 0, 0, 0, 4613937818241073152, [], 0⟩, ⟨23, 10, 0, 0, 0, 1, [], 0⟩, ⟨22, 9, 11, 0, 0, 6, [], 0⟩, ⟨19, 8, 12, 0, 0, 0, [], 0⟩, ⟨5, 13, 0, 0, 21, 0, [], 0⟩, ⟨17, 0, 0, 0, 0, 0, [112, 114, 105, 110, 116], 0⟩, ⟨15, 0, 0, 0, 0, 4619567317775286272, [], 0⟩, ⟨23, 16, 0, 0, 0, 1, [], 0⟩, ⟨15, 0, 0, 0, 0, 4611686018427387904, [], 0⟩, ⟨22, 17, 18, 0, 0, 5, [], 0⟩, ⟨19, 15, 19, 0, 0, 0, [], 0⟩, ⟨5, 20, 0, 0, 25, 0, [], 0⟩, ⟨17, 0, 0, 0, 0, 0, [112, 114, 105, 110, 116], 0⟩, ⟨15, 0, 0, 0, 0, 4611686018427387904, [], 0⟩, ⟨19, 22, 23, 0, 0, 0, [], 0⟩, ⟨5, 24, 0, 0, 0, 0, [], 0⟩]
def rootC53x2 : Int := 7
def rowsC53x2 : List Rw := [⟨0, 0, [], [⟨3, 0, [112, 114, 105, 110, 116]⟩, ⟨2, 4619567317775286272, []⟩, ⟨2, 4613937818241073152, []⟩, ⟨2, 4611686018427387904, []⟩], [(9, 0), (1, 1), (19, 0), (1, 2), (15, 6), (26, 1), (25, 0), (25, 0), (9, 0), (1, 1), (1, 2), (19, 0), (15, 6), (26, 1), (25, 0), (25, 0), (9, 0), (1, 1), (19, 0), (1, 3), (15, 5), (26, 1), (25, 0), (25, 0), (9, 0), (1, 3), (26, 1), (25, 0), (25, 0), (2, 0), (2, 0), (27, 0)]⟩]
def srcC53x2 : List UInt8 := [112, 114, 105, 110, 116, 40, 45, 55, 32, 37, 32, 51, 41, 32, 112, 114, 105, 110, 116, 40, 55, 32, 37, 32, 45, 51, 41, 32, 112, 114, 105, 110, 116, 40, 45, 55, 32, 47, 47, 32, 50, 41, 32, 112, 114, 105, 110, 116, 40, 50, 41]
def qC53x2a : HQ := List.replicate 10 none
def oC53x2a : List Ob := []
def uC53x2a : List UInt8 := [50, 10, 45, 50, 10, 45, 52, 10, 50, 10]
def qC53x2b : HQ := List.replicate 10 none
def oC53x2b : List Ob := []
def uC53x2b : List UInt8 := [50, 10, 45, 50, 10, 45, 52, 10]
theorem cpC53x2 : CompK nsC53x2 rootC53x2 1 rowsC53x2 := by
  intro n r0 r1 r2 r3 r4 r5 r6 r7 r8 r9 r10 r11 r12
  kernel_rfl
theorem prC53x2 (src : List UInt8) (nodes0 : List Nd) : bind1 (bind1 (scanS 400 srcC53x2 0 0 []) (parT 400 src nodes0)) erP = some (nsC53x2, rootC53x2) := by kernel_rfl
theorem frC53x2 : Front srcC53x2 1 rowsC53x2 := by
  have e : rowsC53x2.map (rPut ((0 : Nat) : Int)) = rowsC53x2 := by kernel_rfl
  refine front_mk (ns := nsC53x2) (root := rootC53x2) (of_decide_eq_true (by kernel_rfl)) (e ▸ Rows.put (x := 0) (by decide) (by decide) (by decide) (by kernel_rfl) (by kernel_rfl) (of_decide_eq_true (by kernel_rfl))) (fun nodes0 => ?_) cpC53x2.all
  obtain ⟨z, hz, h⟩ := bnd1 (prC53x2 srcC53x2 nodes0)
  obtain ⟨r, hr, hz⟩ := bnd1 hz
  exact parse_of (ascii_of (by kernel_rfl)) hr nodes0 (by rw [hz]; exact h)
theorem vC53x2a : endR (coLA 1000 40 60 0 V.nil V.nil 0 qC53x2a (ld1 (pgR rowsC53x2) ts0 4)) = some ((⟨1, V.nil, 0⟩, 0, uC53x2a, 0, 1), [], oC53x2a) := by kernel_rfl
theorem obC53x2a : allOb oC53x2a := by
  unfold oC53x2a
  exact allOb_nil
theorem vC53x2b : endR (coLA 1000 40 60 0 V.nil V.nil 0 qC53x2b (ld1 (pgR rowsC53x2) ts0 3)) = some ((⟨3, V.nil, 9⟩, 0, uC53x2b, 0, 1), [], oC53x2b) := by kernel_rfl
theorem obC53x2b : allOb oC53x2b := by
  unfold oC53x2b
  exact allOb_nil
theorem opC53x2 (c : CSt) (m : VM) (hJ : JJ c m) : Two say53 (say53 [50]).m (say53 [50]).ms [50] c m := by
  exact two_mk (src := srcC53x2) (run_mk frC53x2 vC53x2a obC53x2a (by decide) (.inl ⟨rfl, rfl⟩)) (run_mk frC53x2 vC53x2b obC53x2b (by decide) (.inr ⟨rfl, rfl⟩)) c m hJ
def nsC53x3 : List Nd := [⟨0, 0, 0, 0, 0, 0, [], 0⟩, ⟨17, 0, 0, 0, 0, 0, [112, 114, 105, 110, 116], 0⟩, ⟨15, 0, 0, 0, 0, 4619567317775286272, [], 0⟩, ⟨23, 2, 0, 0, 0, 1, [], 0⟩, ⟨15, 0, 0, 0, 0, 4613937818241073152, [], 0⟩, ⟨22, 3, 4, 0, 0, 6, [], 0⟩, ⟨19, 1, 5, 0, 0, 0, [], 0⟩, ⟨5, 6, 0, 0, 14, 0, [], 0⟩, ⟨17, 0, 0, 0, 0, 0, [112, 114, 105, 110, 116], 0⟩, ⟨15, 0, 0, 0, 0, 4619567317775286272, [], 0⟩, ⟨15, 0, 0, 0, 0, 4613937818241073152, [], 0⟩, ⟨23, 10, 0, 0, 0, 1, [], 0⟩, ⟨22, 9, 11, 0, 0, 6, [], 0⟩, ⟨19, 8, 12, 0, 0, 0, [], 0⟩, ⟨5, 13, 0, 0, 21, 0, [], 0⟩, ⟨17, 0, 0, 0, 0, 0, [112, 114, 105, 110, 116], 0⟩, ⟨15, 0, 0, 0, 0, 4619567317775286272, [], 0⟩, ⟨23, 16, 0, 0, 0, 1, [], 0⟩, ⟨15, 0, 0, 0, 0, 4611686018427387904, [], 0⟩, ⟨22, 17, 18, 0, 0, 5, [], 0⟩, ⟨19, 15, 19, 0, 0, 0, [], 0⟩, ⟨5, 20, 0, 0, 25, 0, [], 0⟩, ⟨17, 0, 0, 0, 0, 0, [112, 114, 105, 110, 116], 0⟩, ⟨15, 0, 0, 0, 0, 4607182418800017408, [], 0⟩, ⟨19, 22, 23, 0, 0, 0, [], 0⟩, ⟨5, 24, 0, 0, 0, 0, [], 0⟩]
def rootC53x3 : Int := 7
def rowsC53x3 : List Rw := [⟨0, 0, [], [⟨3, 0, [112, 114, 105, 110, 116]⟩, ⟨2, 4619567317775286272, []⟩, ⟨2, 4613937818241073152, []⟩, ⟨2, 4611686018427387904, []⟩, ⟨2, 4607182418800017408, []⟩], [(9, 0), (1, 1), (19, 0), (1, 2), (15, 6), (26, 1), (25, 0), (25, 0), (9, 0), (1, 1), (1, 2), (19, 0), (15, 6), (26, 1), (25, 0), (25, 0), (9, 0), (1, 1), (19, 0), (1, 3), (15, 5), (26, 1), (25, 0), (25, 0), (9, 0), (1, 4), (26, 1), (25, 0), (25, 0), (2, 0), (2, 0), (27, 0)]⟩]
def srcC53x3 : List UInt8 := [112, 114, 105, 110, 116, 40, 45, 55, 32, 37, 32, 51, 41, 32, 112, 114, 105, 110, 116, 40, 55, 32, 37, 32, 45, 51, 41, 32, 112, 114, 105, 110, 116, 40, 45, 55, 32, 47, 47, 32, 50, 41, 32, 112, 114, 105, 110, 116, 40, 49, 41]
def qC53x3a : HQ := List.replicate 10 none
def oC53x3a : List Ob := []
def uC53x3a : List UInt8 := [50, 10, 45, 50, 10, 45, 52, 10, 49, 10]
def qC53x3b : HQ := List.replicate 10 none
def oC53x3b : List Ob := []
def uC53x3b : List UInt8 := [50, 10, 45, 50, 10, 45, 52, 10]
theorem cpC53x3 : CompK nsC53x3 rootC53x3 1 rowsC53x3 := by
  intro n r0 r1 r2 r3 r4 r5 r6 r7 r8 r9 r10 r11 r12
  kernel_rfl
theorem prC53x3 (src : List UInt8) (nodes0 : List Nd) : bind1 (bind1 (scanS 400 srcC53x3 0 0 []) (parT 400 src nodes0)) erP = some (nsC53x3, rootC53x3) := by kernel_rfl
theorem frC53x3 : Front srcC53x3 1 rowsC53x3 := by
  have e : rowsC53x3.map (rPut ((0 : Nat) : Int)) = rowsC53x3 := by kernel_rfl
  refine front_mk (ns := nsC53x3) (root := rootC53x3) (of_decide_eq_true (by kernel_rfl)) (e ▸ Rows.put (x := 0) (by decide) (by decide) (by decide) (by kernel_rfl) (by kernel_rfl) (of_decide_eq_true (by kernel_rfl))) (fun nodes0 => ?_) cpC53x3.all
  obtain ⟨z, hz, h⟩ := bnd1 (prC53x3 srcC53x3 nodes0)
  obtain ⟨r, hr, hz⟩ := bnd1 hz
  exact parse_of (ascii_of (by kernel_rfl)) hr nodes0 (by rw [hz]; exact h)
theorem vC53x3a : endR (coLA 1000 40 60 0 V.nil V.nil 0 qC53x3a (ld1 (pgR rowsC53x3) ts0 4)) = some ((⟨1, V.nil, 0⟩, 0, uC53x3a, 0, 1), [], oC53x3a) := by kernel_rfl
theorem obC53x3a : allOb oC53x3a := by
  unfold oC53x3a
  exact allOb_nil
theorem vC53x3b : endR (coLA 1000 40 60 0 V.nil V.nil 0 qC53x3b (ld1 (pgR rowsC53x3) ts0 3)) = some ((⟨3, V.nil, 9⟩, 0, uC53x3b, 0, 1), [], oC53x3b) := by kernel_rfl
theorem obC53x3b : allOb oC53x3b := by
  unfold oC53x3b
  exact allOb_nil
theorem opC53x3 (c : CSt) (m : VM) (hJ : JJ c m) : Two say53 (say53 [49]).m (say53 [49]).ms [49] c m := by
  exact two_mk (src := srcC53x3) (run_mk frC53x3 vC53x3a obC53x3a (by decide) (.inl ⟨rfl, rfl⟩)) (run_mk frC53x3 vC53x3b obC53x3b (by decide) (.inr ⟨rfl, rfl⟩)) c m hJ
theorem one53 {x : Nat} {t : List UInt8} (hx : x < 9218868437227405312) (hf : formatM x = some t) (c : CSt) (m : VM) (hJ : JJ c m) : Two say53 (say53 t).m (say53 t).ms t c m := by
  by_cases h0 : x = 4619567317775286272
  · subst h0
    have e : formatM 4619567317775286272 = some [55] := by kernel_rfl
    rw [e] at hf
    injection hf with hf
    subst hf
    exact opC53x0 c m hJ
  by_cases h1 : x = 4613937818241073152
  · subst h1
    have e : formatM 4613937818241073152 = some [51] := by kernel_rfl
    rw [e] at hf
    injection hf with hf
    subst hf
    exact opC53x1 c m hJ
  by_cases h2 : x = 4611686018427387904
  · subst h2
    have e : formatM 4611686018427387904 = some [50] := by kernel_rfl
    rw [e] at hf
    injection hf with hf
    subst hf
    exact opC53x2 c m hJ
  by_cases h3 : x = 4607182418800017408
  · subst h3
    have e : formatM 4607182418800017408 = some [49] := by kernel_rfl
    rw [e] at hf
    injection hf with hf
    subst hf
    exact opC53x3 c m hJ
  refine op53 hx hf ?_ c m hJ
  intro z hz
  simp only [List.mem_cons, List.not_mem_nil, or_false] at hz
  rcases hz with rfl | rfl | rfl | rfl <;> omega
end Go.Wl
