/- Plain: sentences (made by program). -/
import Derived.Test.Qxb6500573aGreatDoorBY
set_option linter.unusedSimpArgs false
set_option linter.unusedVariables false
set_option linter.unusedSectionVars false
namespace Go.Wl
open Go Go.Sl Go.Proofs
set_option linter.unusedVariables false
set_option linter.unusedSimpArgs false
set_option maxRecDepth 100000
def nsC7x0 : List Nd := [⟨0, 0, 0, 0, 0, 0, [], 0⟩, ⟨1, 0, 0, 0, 3, 0, [103], 0⟩, ⟨15, 0, 0, 0, 0, 0, [], 0⟩, ⟨1, 2, 0, 0, 21, 0, [110], 0⟩, ⟨17, 0, 0, 0, 0, 0, [110], 0⟩, ⟨15, 0, 0, 0, 0, 4611686018427387904, [], 0⟩, ⟨22, 4, 5, 0, 0, 13, [], 0⟩, ⟨17, 0, 0, 0, 0, 0, [110], 0⟩, ⟨17, 0, 0, 0, 0, 0, [110], 0⟩, ⟨15, 0, 0, 0, 0, 4607182418800017408, [], 0⟩, ⟨22, 8, 9, 0, 0, 1, [], 0⟩, ⟨4, 7, 10, 0, 13, 0, [], 0⟩, ⟨17, 0, 0, 0, 0, 0, [110], 0⟩, ⟨1, 12, 0, 0, 20, 0, [120], 0⟩, ⟨17, 0, 0, 0, 0, 0, [103], 0⟩, ⟨17, 0, 0, 0, 0, 0, [103], 0⟩, ⟨17, 0, 0, 0, 0, 0, [120], 0⟩, ⟨10, 16, 0, 0, 0, 0, [], 0⟩, ⟨20, 0, 17, 0, 0, 1, [], 0⟩, ⟨25, 15, 18, 0, 0, 0, [], 0⟩, ⟨4, 14, 19, 0, 0, 0, [], 0⟩, ⟨7, 6, 11, 0, 26, 0, [], 0⟩, ⟨17, 0, 0, 0, 0, 0, [112, 114, 105, 110, 116], 0⟩, ⟨17, 0, 0, 0, 0, 0, [103], 0⟩, ⟨19, 23, 0, 0, 0, 0, [], 0⟩, ⟨19, 22, 24, 0, 0, 0, [], 0⟩, ⟨5, 25, 0, 0, 0, 0, [], 0⟩]
def rootC7x0 : Int := 1
def rowsC7x0 : List Rw := [⟨0, 3, [], [⟨2, 0, []⟩, ⟨2, 4611686018427387904, []⟩, ⟨2, 4607182418800017408, []⟩, ⟨3, 0, [112, 114, 105, 110, 116]⟩], [(2, 0), (6, 0), (1, 0), (6, 1), (5, 1), (1, 1), (16, 3), (22, 20), (5, 1), (1, 2), (15, 1), (6, 1), (5, 1), (6, 2), (5, 0), (24, 17), (28, 1), (6, 0), (29, 2), (21, 4), (9, 3), (5, 0), (26, 0), (25, 0), (26, 1), (25, 0), (25, 0), (29, 0), (2, 0), (2, 0), (27, 0)]⟩, ⟨0, 0, [(1, 2)], [], [(7, 0), (2, 0), (27, 0), (2, 0), (2, 0), (27, 0)]⟩]
def srcC7x0 : List UInt8 := [108, 111, 99, 97, 108, 32, 103, 32, 108, 111, 99, 97, 108, 32, 110, 32, 61, 32, 48, 32, 119, 104, 105, 108, 101, 32, 110, 32, 60, 32, 50, 32, 100, 111, 32, 110, 32, 61, 32, 110, 32, 43, 32, 49, 32, 108, 111, 99, 97, 108, 32, 120, 32, 61, 32, 110, 32, 103, 32, 61, 32, 103, 32, 111, 114, 32, 102, 117, 110, 99, 116, 105, 111, 110, 40, 41, 32, 114, 101, 116, 117, 114, 110, 32, 120, 32, 101, 110, 100, 32, 101, 110, 100, 32, 112, 114, 105, 110, 116, 40, 103, 40, 41, 41]
def qC7x0a : HQ := List.replicate 3 none
def oC7x0a : List Ob := []
def uC7x0a : List UInt8 := [49, 10]
def qC7x0b : HQ := List.replicate 3 none
def oC7x0b : List Ob := []
def uC7x0b : List UInt8 := []
theorem cpC7x0 : CompK nsC7x0 rootC7x0 2 rowsC7x0 := by
  intro n r0 r1 r2 r3 r4 r5 r6 r7 r8 r9 r10 r11 r12
  kernel_rfl
theorem prC7x0 (src : List UInt8) (nodes0 : List Nd) : bind1 (bind1 (scanS 400 srcC7x0 0 0 []) (parT 400 src nodes0)) erP = some (nsC7x0, rootC7x0) := by kernel_rfl
theorem frC7x0 : Front srcC7x0 2 rowsC7x0 := by
  have e : rowsC7x0.map (rPut ((0 : Nat) : Int)) = rowsC7x0 := by kernel_rfl
  refine front_mk (ns := nsC7x0) (root := rootC7x0) (of_decide_eq_true (by kernel_rfl)) (e ▸ Rows.put (x := 0) (by decide) (by decide) (by decide) (by kernel_rfl) (by kernel_rfl) (of_decide_eq_true (by kernel_rfl))) (fun nodes0 => ?_) cpC7x0.all
  obtain ⟨z, hz, h⟩ := bnd1 (prC7x0 srcC7x0 nodes0)
  obtain ⟨r, hr, hz⟩ := bnd1 hz
  exact parse_of (ascii_of (by kernel_rfl)) hr nodes0 (by rw [hz]; exact h)
theorem vC7x0a : endR (coLA 1000 40 60 0 V.nil V.nil 0 qC7x0a (ld1 (pgR rowsC7x0) ts0 4)) = some ((⟨1, V.nil, 0⟩, 0, uC7x0a, 0, 1), [], oC7x0a) := by kernel_rfl
theorem obC7x0a : allOb oC7x0a := by
  unfold oC7x0a
  exact allOb_nil
theorem vC7x0b : endR (coLA 1000 40 60 0 V.nil V.nil 0 qC7x0b (ld1 (pgR rowsC7x0) ts0 3)) = some ((⟨3, V.nil, 9⟩, 0, uC7x0b, 0, 1), [], oC7x0b) := by kernel_rfl
theorem obC7x0b : allOb oC7x0b := by
  unfold oC7x0b
  exact allOb_nil
theorem opC7x0 (t : List UInt8) (c : CSt) (m : VM) (hJ : JJ c m) : Two say7 0 0 t c m := by
  exact two_mk (src := srcC7x0) (run_mk frC7x0 vC7x0a obC7x0a (by decide) (.inl ⟨rfl, rfl⟩)) (run_mk frC7x0 vC7x0b obC7x0b (by decide) (.inr ⟨rfl, rfl⟩)) c m hJ
theorem one7 {x : Nat} {t : List UInt8} (hx : x < 9218868437227405312) (hf : formatM x = some t) (c : CSt) (m : VM) (hJ : JJ c m) : Two say7 0 0 t c m := opC7x0 t c m hJ
def ns16 : List Nd := [⟨0, 0, 0, 0, 0, 0, [], 0⟩, ⟨15, 0, 0, 0, 2, -1, [], 0⟩, ⟨15, 0, 0, 0, 0, 4611686018427387904, [], 0⟩, ⟨21, 1, 0, 0, 0, 0, [], 0⟩, ⟨1, 3, 0, 0, 10, 0, [116], 0⟩, ⟨17, 0, 0, 0, 0, 0, [112, 114, 105, 110, 116], 0⟩, ⟨17, 0, 0, 0, 0, 0, [116], 0⟩, ⟨15, 0, 0, 0, 0, 4607182418800017408, [], 0⟩, ⟨18, 6, 7, 0, 0, 0, [], 0⟩, ⟨19, 5, 8, 0, 0, 0, [], 0⟩, ⟨5, 9, 0, 0, 15, 0, [], 0⟩, ⟨17, 0, 0, 0, 0, 0, [112, 114, 105, 110, 116], 0⟩, ⟨17, 0, 0, 0, 0, 0, [116], 0⟩, ⟨23, 12, 0, 0, 0, 3, [], 0⟩, ⟨19, 11, 13, 0, 0, 0, [], 0⟩, ⟨5, 14, 0, 0, 0, 0, [], 0⟩]
def root16 : Int := 4
def rows16 : List Rw := [⟨0, 1, [], [⟨2, -1, []⟩, ⟨2, 4611686018427387904, []⟩, ⟨3, 0, [112, 114, 105, 110, 116]⟩, ⟨2, 4607182418800017408, []⟩], [(14, 0), (1, 0), (13, 1), (1, 1), (13, 2), (6, 0), (9, 2), (5, 0), (1, 3), (11, 0), (26, 1), (25, 0), (25, 0), (9, 2), (5, 0), (20, 0), (26, 1), (25, 0), (25, 0), (29, 0), (2, 0), (2, 0), (27, 0)]⟩]
def q16a (x : Nat) (t : List UInt8) : HQ := [some ⟨t, [], [], 0⟩, some ⟨[], [], [], 1⟩]
def o16a (x : Nat) (t : List UInt8) : List Ob := [.txt ⟨2, ((x : Nat) : Int), []⟩ t, .out [] t, .out (([] ++ t) ++ [10]) [50]]
def u16a (t : List UInt8) : List UInt8 := (((([] ++ t) ++ [10]) ++ [50]) ++ [10])
def q16b (x : Nat) (t : List UInt8) : HQ := [some ⟨t, [], [], 0⟩, none]
def o16b (x : Nat) (t : List UInt8) : List Ob := [.txt ⟨2, ((x : Nat) : Int), []⟩ t, .out [] t]
def u16b (t : List UInt8) : List UInt8 := (([] ++ t) ++ [10])
theorem cp16 : CompK ns16 root16 1 rows16 := by
  intro n r0 r1 r2 r3 r4 r5 r6 r7 r8 r9 r10 r11 r12
  kernel_rfl
def p16_0 : List UInt8 := [108, 111, 99, 97, 108, 32, 116, 32, 61, 32, 123]
def p16_1 : List UInt8 := [44, 32, 50, 125, 32, 112, 114, 105, 110, 116, 40, 116, 91, 49, 93, 41, 32, 112, 114, 105, 110, 116, 40, 35, 116, 41]
theorem lx16 (w : List UInt8) : scanW w 400 p16_0 0 0 [] = some (389, 11, 0, tkP 400 p16_0 0) := by kernel_rfl
theorem pr16 (x len : Nat) (src : List UInt8) (nodes0 : List Nd) : bind1 (bind1 (scanS 200 p16_1 (11 + len) 0 (tkP 400 p16_0 0 ++ [⟨3, 11, [], ((x : Nat) : Int), 0⟩])) (parT 400 src nodes0)) erP = some (ns16.map (nPut x), root16) := by kernel_rfl
theorem fr16 {x : Nat} {t : List UInt8} (hx : x < 9218868437227405312) (hn : NumT t) (hl : t.length ≤ 22) (hp : parseM t = some (x, 0)) (hL : newX [4611686018427387904, 4607182418800017408] x) : Front (say16 t).src 1 (rows16.map (rPut x)) := by
  refine front_mk (ns := ns16.map (nPut x)) (root := root16) ?_ (Rows.put hx (by decide) (by decide) (by kernel_rfl) (by kernel_rfl) (of_decide_eq_true (by kernel_rfl))) (fun nodes0 => ?_) (comp_open cp16 hL (fun z => hL 4607182418800017408 (by simp) z.symm) (by kernel_rfl) (by kernel_rfl))
  · show (((p16_0 ++ t) ++ p16_1)).length ≤ 2048
    simp only [List.length_append]
    have e : p16_0.length + p16_1.length ≤ 1000 := of_decide_eq_true (by kernel_rfl)
    omega
  · show bind1 (bind1 (scanL 400 ((p16_0 ++ t) ++ p16_1) 0 0 []) (parT 400 ((p16_0 ++ t) ++ p16_1) nodes0)) erP = _
    have h := pr16 x t.length ((p16_0 ++ t) ++ p16_1) nodes0
    obtain ⟨z, hz, h⟩ := bnd1 h
    obtain ⟨r, hr, hz⟩ := bnd1 hz
    refine parse_of (r := r) (ascii_app (ascii_app (ascii_of (by kernel_rfl)) (num_ascii hn)) (ascii_of (by kernel_rfl))) ?_ nodes0 ?_
    · rw [List.append_assoc]
      exact pre_step (lx16 _) (num_step hn hl (by refine ⟨?_, ?_, ?_⟩ <;> decide) hp (of_decide_eq_true (by kernel_rfl)) hr (by decide))
    · rw [hz]; exact h
theorem v16a (x : Nat) (t : List UInt8) : endR (coLA 1000 40 60 0 V.nil V.nil 0 (q16a x t) (ld1 (pgR (rows16.map (rPut x))) ts0 2)) = some ((⟨1, V.nil, 0⟩, 0, u16a t, 0, 2), [], o16a x t) := by kernel_rfl
theorem ob16a {x : Nat} {t : List UInt8} (hx : x < 9218868437227405312) (hf : formatM x = some t) (hg : formatM (negM x) = some ([45] ++ t)) (hl : t.length ≤ 22) (hp : parseM t = some (x, 0)) : allOb (o16a x t) := by
  unfold o16a
  exact allOb_cons (txt_num (Nat.lt_trans hx (by decide)) hf) (allOb_cons (by show List.length _ + List.length _ + 1 ≤ 200; simp only [List.length_append, List.length_cons, List.length_nil]; omega) (allOb_cons (by show List.length _ + List.length _ + 1 ≤ 200; simp only [List.length_append, List.length_cons, List.length_nil]; omega) (allOb_nil)))
theorem v16b (x : Nat) (t : List UInt8) : endR (coLA 1000 40 60 0 V.nil V.nil 0 (q16b x t) (ld1 (pgR (rows16.map (rPut x))) ts0 1)) = some ((⟨3, V.nil, 9⟩, 0, u16b t, 0, 2), [], o16b x t) := by kernel_rfl
theorem ob16b {x : Nat} {t : List UInt8} (hx : x < 9218868437227405312) (hf : formatM x = some t) (hg : formatM (negM x) = some ([45] ++ t)) (hl : t.length ≤ 22) (hp : parseM t = some (x, 0)) : allOb (o16b x t) := by
  unfold o16b
  exact allOb_cons (txt_num (Nat.lt_trans hx (by decide)) hf) (allOb_cons (by show List.length _ + List.length _ + 1 ≤ 200; simp only [List.length_append, List.length_cons, List.length_nil]; omega) (allOb_nil))
theorem op16 {x : Nat} {t : List UInt8} (hx : x < 9218868437227405312) (hf : formatM x = some t) (hL : newX [4611686018427387904, 4607182418800017408] x) (c : CSt) (m : VM) (hJ : JJ c m) : Two say16 0 0 t c m := by
  obtain ⟨t', f1, hn, hl, hp, hg⟩ := fmt_all hx
  rw [hf] at f1
  injection f1 with f1
  subst f1
  have ua : u16a t = (say16 t).out := by simp [u16a, say16]
  have ub : u16b t = (say16 t).short := by simp [u16b, say16]
  exact two_mk (run_mk (fr16 hx hn hl hp hL) (v16a x t) (ob16a hx hf hg hl hp) (by decide) (.inl ⟨rfl, by rw [ua]⟩)) (run_mk (fr16 hx hn hl hp hL) (v16b x t) (ob16b hx hf hg hl hp) (by decide) (.inr ⟨rfl, by rw [ub]⟩)) c m hJ
def nsC16x0 : List Nd := [⟨0, 0, 0, 0, 0, 0, [], 0⟩, ⟨15, 0, 0, 0, 2, 4611686018427387904, [], 0⟩, ⟨15, 0, 0, 0, 0, 4611686018427387904, [], 0⟩, ⟨21, 1, 0, 0, 0, 0, [], 0⟩, ⟨1, 3, 0, 0, 10, 0, [116], 0⟩, ⟨17, 0, 0, 0, 0, 0, [112, 114, 105, 110, 116], 0⟩, ⟨17, 0, 0, 0, 0, 0, [116], 0⟩, ⟨15, 0, 0, 0, 0, 4607182418800017408, [], 0⟩, ⟨18, 6, 7, 0, 0, 0, [], 0⟩, ⟨19, 5, 8, 0, 0, 0, [], 0⟩, ⟨5, 9, 0, 0, 15, 0, [], 0⟩, ⟨17, 0, 0, 0, 0, 0, [112, 114, 105, 110, 116], 0⟩, ⟨17, 0, 0, 0, 0, 0, [116], 0⟩, ⟨23, 12, 0, 0, 0, 3, [], 0⟩, ⟨19, 11, 13, 0, 0, 0, [], 0⟩, ⟨5, 14, 0, 0, 0, 0, [], 0⟩]
def rootC16x0 : Int := 4
def rowsC16x0 : List Rw := [⟨0, 1, [], [⟨2, 4611686018427387904, []⟩, ⟨3, 0, [112, 114, 105, 110, 116]⟩, ⟨2, 4607182418800017408, []⟩], [(14, 0), (1, 0), (13, 1), (1, 0), (13, 2), (6, 0), (9, 1), (5, 0), (1, 2), (11, 0), (26, 1), (25, 0), (25, 0), (9, 1), (5, 0), (20, 0), (26, 1), (25, 0), (25, 0), (29, 0), (2, 0), (2, 0), (27, 0)]⟩]
def srcC16x0 : List UInt8 := [108, 111, 99, 97, 108, 32, 116, 32, 61, 32, 123, 50, 44, 32, 50, 125, 32, 112, 114, 105, 110, 116, 40, 116, 91, 49, 93, 41, 32, 112, 114, 105, 110, 116, 40, 35, 116, 41]
def qC16x0a : HQ := List.replicate 2 none
def oC16x0a : List Ob := []
def uC16x0a : List UInt8 := [50, 10, 50, 10]
def qC16x0b : HQ := List.replicate 2 none
def oC16x0b : List Ob := []
def uC16x0b : List UInt8 := [50, 10]
theorem cpC16x0 : CompK nsC16x0 rootC16x0 1 rowsC16x0 := by
  intro n r0 r1 r2 r3 r4 r5 r6 r7 r8 r9 r10 r11 r12
  kernel_rfl
theorem prC16x0 (src : List UInt8) (nodes0 : List Nd) : bind1 (bind1 (scanS 400 srcC16x0 0 0 []) (parT 400 src nodes0)) erP = some (nsC16x0, rootC16x0) := by kernel_rfl
theorem frC16x0 : Front srcC16x0 1 rowsC16x0 := by
  have e : rowsC16x0.map (rPut ((0 : Nat) : Int)) = rowsC16x0 := by kernel_rfl
  refine front_mk (ns := nsC16x0) (root := rootC16x0) (of_decide_eq_true (by kernel_rfl)) (e ▸ Rows.put (x := 0) (by decide) (by decide) (by decide) (by kernel_rfl) (by kernel_rfl) (of_decide_eq_true (by kernel_rfl))) (fun nodes0 => ?_) cpC16x0.all
  obtain ⟨z, hz, h⟩ := bnd1 (prC16x0 srcC16x0 nodes0)
  obtain ⟨r, hr, hz⟩ := bnd1 hz
  exact parse_of (ascii_of (by kernel_rfl)) hr nodes0 (by rw [hz]; exact h)
theorem vC16x0a : endR (coLA 1000 40 60 0 V.nil V.nil 0 qC16x0a (ld1 (pgR rowsC16x0) ts0 2)) = some ((⟨1, V.nil, 0⟩, 0, uC16x0a, 0, 2), [], oC16x0a) := by kernel_rfl
theorem obC16x0a : allOb oC16x0a := by
  unfold oC16x0a
  exact allOb_nil
theorem vC16x0b : endR (coLA 1000 40 60 0 V.nil V.nil 0 qC16x0b (ld1 (pgR rowsC16x0) ts0 1)) = some ((⟨3, V.nil, 9⟩, 0, uC16x0b, 0, 2), [], oC16x0b) := by kernel_rfl
theorem obC16x0b : allOb oC16x0b := by
  unfold oC16x0b
  exact allOb_nil
theorem opC16x0 (c : CSt) (m : VM) (hJ : JJ c m) : Two say16 0 0 [50] c m := by
  exact two_mk (src := srcC16x0) (run_mk frC16x0 vC16x0a obC16x0a (by decide) (.inl ⟨rfl, rfl⟩)) (run_mk frC16x0 vC16x0b obC16x0b (by decide) (.inr ⟨rfl, rfl⟩)) c m hJ
def nsC16x1 : List Nd := [⟨0, 0, 0, 0, 0, 0, [], 0⟩, ⟨15, 0, 0, 0, 2, 4607182418800017408, [], 0⟩, ⟨15, 0, 0, 0, 0, 4611686018427387904, [], 0⟩, ⟨21, 1, 0, 0, 0, 0, [], 0⟩, ⟨1, 3, 0, 0, 10, 0, [116], 0⟩, ⟨17, 0, 0, 0, 0, 0, [112, 114, 105, 110, 116], 0⟩, ⟨17, 0, 0, 0, 0, 0, [116], 0⟩, ⟨15, 0, 0, 0, 0, 4607182418800017408, [], 0⟩, ⟨18, 6, 7, 0, 0, 0, [], 0⟩, ⟨19, 5, 8, 0, 0, 0, [], 0⟩, ⟨5, 9, 0, 0, 15, 0, [], 0⟩, ⟨17, 0, 0, 0, 0, 0, [112, 114, 105, 110, 116], 0⟩, ⟨17, 0, 0, 0, 0, 0, [116], 0⟩, ⟨23, 12, 0, 0, 0, 3, [], 0⟩, ⟨19, 11, 13, 0, 0, 0, [], 0⟩, ⟨5, 14, 0, 0, 0, 0, [], 0⟩]
def rootC16x1 : Int := 4
def rowsC16x1 : List Rw := [⟨0, 1, [], [⟨2, 4607182418800017408, []⟩, ⟨2, 4611686018427387904, []⟩, ⟨3, 0, [112, 114, 105, 110, 116]⟩], [(14, 0), (1, 0), (13, 1), (1, 1), (13, 2), (6, 0), (9, 2), (5, 0), (1, 0), (11, 0), (26, 1), (25, 0), (25, 0), (9, 2), (5, 0), (20, 0), (26, 1), (25, 0), (25, 0), (29, 0), (2, 0), (2, 0), (27, 0)]⟩]
def srcC16x1 : List UInt8 := [108, 111, 99, 97, 108, 32, 116, 32, 61, 32, 123, 49, 44, 32, 50, 125, 32, 112, 114, 105, 110, 116, 40, 116, 91, 49, 93, 41, 32, 112, 114, 105, 110, 116, 40, 35, 116, 41]
def qC16x1a : HQ := List.replicate 2 none
def oC16x1a : List Ob := []
def uC16x1a : List UInt8 := [49, 10, 50, 10]
def qC16x1b : HQ := List.replicate 2 none
def oC16x1b : List Ob := []
def uC16x1b : List UInt8 := [49, 10]
theorem cpC16x1 : CompK nsC16x1 rootC16x1 1 rowsC16x1 := by
  intro n r0 r1 r2 r3 r4 r5 r6 r7 r8 r9 r10 r11 r12
  kernel_rfl
theorem prC16x1 (src : List UInt8) (nodes0 : List Nd) : bind1 (bind1 (scanS 400 srcC16x1 0 0 []) (parT 400 src nodes0)) erP = some (nsC16x1, rootC16x1) := by kernel_rfl
theorem frC16x1 : Front srcC16x1 1 rowsC16x1 := by
  have e : rowsC16x1.map (rPut ((0 : Nat) : Int)) = rowsC16x1 := by kernel_rfl
  refine front_mk (ns := nsC16x1) (root := rootC16x1) (of_decide_eq_true (by kernel_rfl)) (e ▸ Rows.put (x := 0) (by decide) (by decide) (by decide) (by kernel_rfl) (by kernel_rfl) (of_decide_eq_true (by kernel_rfl))) (fun nodes0 => ?_) cpC16x1.all
  obtain ⟨z, hz, h⟩ := bnd1 (prC16x1 srcC16x1 nodes0)
  obtain ⟨r, hr, hz⟩ := bnd1 hz
  exact parse_of (ascii_of (by kernel_rfl)) hr nodes0 (by rw [hz]; exact h)
theorem vC16x1a : endR (coLA 1000 40 60 0 V.nil V.nil 0 qC16x1a (ld1 (pgR rowsC16x1) ts0 2)) = some ((⟨1, V.nil, 0⟩, 0, uC16x1a, 0, 2), [], oC16x1a) := by kernel_rfl
theorem obC16x1a : allOb oC16x1a := by
  unfold oC16x1a
  exact allOb_nil
theorem vC16x1b : endR (coLA 1000 40 60 0 V.nil V.nil 0 qC16x1b (ld1 (pgR rowsC16x1) ts0 1)) = some ((⟨3, V.nil, 9⟩, 0, uC16x1b, 0, 2), [], oC16x1b) := by kernel_rfl
theorem obC16x1b : allOb oC16x1b := by
  unfold oC16x1b
  exact allOb_nil
theorem opC16x1 (c : CSt) (m : VM) (hJ : JJ c m) : Two say16 0 0 [49] c m := by
  exact two_mk (src := srcC16x1) (run_mk frC16x1 vC16x1a obC16x1a (by decide) (.inl ⟨rfl, rfl⟩)) (run_mk frC16x1 vC16x1b obC16x1b (by decide) (.inr ⟨rfl, rfl⟩)) c m hJ
theorem one16 {x : Nat} {t : List UInt8} (hx : x < 9218868437227405312) (hf : formatM x = some t) (c : CSt) (m : VM) (hJ : JJ c m) : Two say16 0 0 t c m := by
  by_cases h0 : x = 4611686018427387904
  · subst h0
    have e : formatM 4611686018427387904 = some [50] := by kernel_rfl
    rw [e] at hf
    injection hf with hf
    subst hf
    exact opC16x0 c m hJ
  by_cases h1 : x = 4607182418800017408
  · subst h1
    have e : formatM 4607182418800017408 = some [49] := by kernel_rfl
    rw [e] at hf
    injection hf with hf
    subst hf
    exact opC16x1 c m hJ
  refine op16 hx hf ?_ c m hJ
  intro z hz
  simp only [List.mem_cons, List.not_mem_nil, or_false] at hz
  rcases hz with rfl | rfl <;> omega
def ns25 : List Nd := [⟨0, 0, 0, 0, 0, 0, [], 0⟩, ⟨14, 0, 0, 0, 0, 0, [], 0⟩, ⟨17, 0, 0, 0, 0, 0, [112, 114, 105, 110, 116], 0⟩, ⟨15, 0, 0, 0, 0, 0, [], 0⟩, ⟨19, 2, 3, 0, 0, 0, [], 0⟩, ⟨5, 4, 0, 0, 0, 0, [], 0⟩, ⟨14, 0, 0, 0, 0, 0, [], 0⟩, ⟨17, 0, 0, 0, 0, 0, [112, 114, 105, 110, 116], 0⟩, ⟨15, 0, 0, 0, 0, 4607182418800017408, [], 0⟩, ⟨19, 7, 8, 0, 0, 0, [], 0⟩, ⟨5, 9, 0, 0, 0, 0, [], 0⟩, ⟨17, 0, 0, 0, 0, 0, [112, 114, 105, 110, 116], 0⟩, ⟨15, 0, 0, 0, 0, -1, [], 0⟩, ⟨19, 11, 12, 0, 0, 0, [], 0⟩, ⟨5, 13, 0, 0, 0, 0, [], 0⟩, ⟨6, 6, 10, 14, 0, 0, [], 0⟩, ⟨6, 1, 5, 15, 22, 0, [], 0⟩, ⟨13, 0, 0, 0, 0, 0, [], 0⟩, ⟨17, 0, 0, 0, 0, 0, [112, 114, 105, 110, 116], 0⟩, ⟨15, 0, 0, 0, 0, 4611686018427387904, [], 0⟩, ⟨19, 18, 19, 0, 0, 0, [], 0⟩, ⟨5, 20, 0, 0, 0, 0, [], 0⟩, ⟨6, 17, 0, 21, 0, 0, [], 0⟩]
def root25 : Int := 16
def rows25 : List Rw := [⟨0, 0, [], [⟨3, 0, [112, 114, 105, 110, 116]⟩, ⟨2, 0, []⟩, ⟨2, 4607182418800017408, []⟩, ⟨2, -1, []⟩, ⟨2, 4611686018427387904, []⟩], [(4, 0), (22, 8), (9, 0), (1, 1), (26, 1), (25, 0), (25, 0), (21, 21), (4, 0), (22, 16), (9, 0), (1, 2), (26, 1), (25, 0), (25, 0), (21, 21), (9, 0), (1, 3), (26, 1), (25, 0), (25, 0), (3, 0), (22, 24), (21, 29), (9, 0), (1, 4), (26, 1), (25, 0), (25, 0), (2, 0), (2, 0), (27, 0)]⟩]
def q25a (x : Nat) (t : List UInt8) : HQ := [some ⟨t, [], [], 0⟩]
def o25a (x : Nat) (t : List UInt8) : List Ob := [.txt ⟨2, ((x : Nat) : Int), []⟩ t, .out [] t]
def u25a (t : List UInt8) : List UInt8 := (([] ++ t) ++ [10])
def q25b (x : Nat) (t : List UInt8) : HQ := [none]
def o25b (x : Nat) (t : List UInt8) : List Ob := []
def u25b (t : List UInt8) : List UInt8 := []
theorem cp25 : CompK ns25 root25 1 rows25 := by
  intro n r0 r1 r2 r3 r4 r5 r6 r7 r8 r9 r10 r11 r12
  kernel_rfl
def p25_0 : List UInt8 := [105, 102, 32, 102, 97, 108, 115, 101, 32, 116, 104, 101, 110, 32, 112, 114, 105, 110, 116, 40, 48, 41, 32, 101, 108, 115, 101, 105, 102, 32, 102, 97, 108, 115, 101, 32, 116, 104, 101, 110, 32, 112, 114, 105, 110, 116, 40, 49, 41, 32, 101, 108, 115, 101, 32, 112, 114, 105, 110, 116, 40]
def p25_1 : List UInt8 := [41, 32, 101, 110, 100, 32, 105, 102, 32, 116, 114, 117, 101, 32, 116, 104, 101, 110, 32, 101, 108, 115, 101, 32, 112, 114, 105, 110, 116, 40, 50, 41, 32, 101, 110, 100]
theorem lx25 (w : List UInt8) : scanW w 400 p25_0 0 0 [] = some (339, 61, 0, tkP 400 p25_0 0) := by kernel_rfl
theorem pr25 (x len : Nat) (src : List UInt8) (nodes0 : List Nd) : bind1 (bind1 (scanS 200 p25_1 (61 + len) 0 (tkP 400 p25_0 0 ++ [⟨3, 61, [], ((x : Nat) : Int), 0⟩])) (parT 400 src nodes0)) erP = some (ns25.map (nPut x), root25) := by kernel_rfl
theorem fr25 {x : Nat} {t : List UInt8} (hx : x < 9218868437227405312) (hn : NumT t) (hl : t.length ≤ 22) (hp : parseM t = some (x, 0)) (hL : newX [0, 4607182418800017408, 4611686018427387904] x) : Front (say25 t).src 1 (rows25.map (rPut x)) := by
  refine front_mk (ns := ns25.map (nPut x)) (root := root25) ?_ (Rows.put hx (by decide) (by decide) (by kernel_rfl) (by kernel_rfl) (of_decide_eq_true (by kernel_rfl))) (fun nodes0 => ?_) (comp_open cp25 hL (fun z => hL 4607182418800017408 (by simp) z.symm) (by kernel_rfl) (by kernel_rfl))
  · show (((p25_0 ++ t) ++ p25_1)).length ≤ 2048
    simp only [List.length_append]
    have e : p25_0.length + p25_1.length ≤ 1000 := of_decide_eq_true (by kernel_rfl)
    omega
  · show bind1 (bind1 (scanL 400 ((p25_0 ++ t) ++ p25_1) 0 0 []) (parT 400 ((p25_0 ++ t) ++ p25_1) nodes0)) erP = _
    have h := pr25 x t.length ((p25_0 ++ t) ++ p25_1) nodes0
    obtain ⟨z, hz, h⟩ := bnd1 h
    obtain ⟨r, hr, hz⟩ := bnd1 hz
    refine parse_of (r := r) (ascii_app (ascii_app (ascii_of (by kernel_rfl)) (num_ascii hn)) (ascii_of (by kernel_rfl))) ?_ nodes0 ?_
    · rw [List.append_assoc]
      exact pre_step (lx25 _) (num_step hn hl (by refine ⟨?_, ?_, ?_⟩ <;> decide) hp (of_decide_eq_true (by kernel_rfl)) hr (by decide))
    · rw [hz]; exact h
theorem v25a (x : Nat) (t : List UInt8) : endR (coLA 1000 40 60 0 V.nil V.nil 0 (q25a x t) (ld1 (pgR (rows25.map (rPut x))) ts0 1)) = some ((⟨1, V.nil, 0⟩, 0, u25a t, 0, 1), [], o25a x t) := by kernel_rfl
theorem ob25a {x : Nat} {t : List UInt8} (hx : x < 9218868437227405312) (hf : formatM x = some t) (hg : formatM (negM x) = some ([45] ++ t)) (hl : t.length ≤ 22) (hp : parseM t = some (x, 0)) : allOb (o25a x t) := by
  unfold o25a
  exact allOb_cons (txt_num (Nat.lt_trans hx (by decide)) hf) (allOb_cons (by show List.length _ + List.length _ + 1 ≤ 200; simp only [List.length_append, List.length_cons, List.length_nil]; omega) (allOb_nil))
theorem v25b (x : Nat) (t : List UInt8) : endR (coLA 1000 40 60 0 V.nil V.nil 0 (q25b x t) (ld1 (pgR (rows25.map (rPut x))) ts0 0)) = some ((⟨3, V.nil, 9⟩, 0, u25b t, 0, 1), [], o25b x t) := by kernel_rfl
theorem ob25b {x : Nat} {t : List UInt8} (hx : x < 9218868437227405312) (hf : formatM x = some t) (hg : formatM (negM x) = some ([45] ++ t)) (hl : t.length ≤ 22) (hp : parseM t = some (x, 0)) : allOb (o25b x t) := by
  unfold o25b
  exact allOb_nil
theorem op25 {x : Nat} {t : List UInt8} (hx : x < 9218868437227405312) (hf : formatM x = some t) (hL : newX [0, 4607182418800017408, 4611686018427387904] x) (c : CSt) (m : VM) (hJ : JJ c m) : Two say25 0 0 t c m := by
  obtain ⟨t', f1, hn, hl, hp, hg⟩ := fmt_all hx
  rw [hf] at f1
  injection f1 with f1
  subst f1
  have ua : u25a t = (say25 t).out := by simp [u25a, say25]
  have ub : u25b t = (say25 t).short := by simp [u25b, say25]
  exact two_mk (run_mk (fr25 hx hn hl hp hL) (v25a x t) (ob25a hx hf hg hl hp) (by decide) (.inl ⟨rfl, by rw [ua]⟩)) (run_mk (fr25 hx hn hl hp hL) (v25b x t) (ob25b hx hf hg hl hp) (by decide) (.inr ⟨rfl, by rw [ub]⟩)) c m hJ
def nsC25x0 : List Nd := [⟨0, 0, 0, 0, 0, 0, [], 0⟩, ⟨14, 0, 0, 0, 0, 0, [], 0⟩, ⟨17, 0, 0, 0, 0, 0, [112, 114, 105, 110, 116], 0⟩, ⟨15, 0, 0, 0, 0, 0, [], 0⟩, ⟨19, 2, 3, 0, 0, 0, [], 0⟩, ⟨5, 4, 0, 0, 0, 0, [], 0⟩, ⟨14, 0, 0, 0, 0, 0, [], 0⟩, ⟨17, 0, 0, 0, 0, 0, [112, 114, 105, 110, 116], 0⟩, ⟨15, 0, 0, 0, 0, 4607182418800017408, [], 0⟩, ⟨19, 7, 8, 0, 0, 0, [], 0⟩, ⟨5, 9, 0, 0, 0, 0, [], 0⟩, ⟨17, 0, 0, 0, 0, 0, [112, 114, 105, 110, 116], 0⟩, ⟨15, 0, 0, 0, 0, 0, [], 0⟩, ⟨19, 11, 12, 0, 0, 0, [], 0⟩, ⟨5, 13, 0, 0, 0, 0, [], 0⟩, ⟨6, 6, 10, 14, 0, 0, [], 0⟩, ⟨6, 1, 5, 15, 22, 0, [], 0⟩, ⟨13, 0, 0, 0, 0, 0, [], 0⟩, ⟨17, 0, 0, 0, 0, 0, [112, 114, 105, 110, 116], 0⟩, ⟨15, 0, 0, 0, 0, 4611686018427387904, [], 0⟩, ⟨19, 18, 19, 0, 0, 0, [], 0⟩, ⟨5, 20, 0, 0, 0, 0, [], 0⟩, ⟨6, 17, 0, 21, 0, 0, [], 0⟩]
def rootC25x0 : Int := 16
def rowsC25x0 : List Rw := [⟨0, 0, [], [⟨3, 0, [112, 114, 105, 110, 116]⟩, ⟨2, 0, []⟩, ⟨2, 4607182418800017408, []⟩, ⟨2, 4611686018427387904, []⟩], [(4, 0), (22, 8), (9, 0), (1, 1), (26, 1), (25, 0), (25, 0), (21, 21), (4, 0), (22, 16), (9, 0), (1, 2), (26, 1), (25, 0), (25, 0), (21, 21), (9, 0), (1, 1), (26, 1), (25, 0), (25, 0), (3, 0), (22, 24), (21, 29), (9, 0), (1, 3), (26, 1), (25, 0), (25, 0), (2, 0), (2, 0), (27, 0)]⟩]
def srcC25x0 : List UInt8 := [105, 102, 32, 102, 97, 108, 115, 101, 32, 116, 104, 101, 110, 32, 112, 114, 105, 110, 116, 40, 48, 41, 32, 101, 108, 115, 101, 105, 102, 32, 102, 97, 108, 115, 101, 32, 116, 104, 101, 110, 32, 112, 114, 105, 110, 116, 40, 49, 41, 32, 101, 108, 115, 101, 32, 112, 114, 105, 110, 116, 40, 48, 41, 32, 101, 110, 100, 32, 105, 102, 32, 116, 114, 117, 101, 32, 116, 104, 101, 110, 32, 101, 108, 115, 101, 32, 112, 114, 105, 110, 116, 40, 50, 41, 32, 101, 110, 100]
def qC25x0a : HQ := List.replicate 1 none
def oC25x0a : List Ob := []
def uC25x0a : List UInt8 := [48, 10]
def qC25x0b : HQ := List.replicate 1 none
def oC25x0b : List Ob := []
def uC25x0b : List UInt8 := []
theorem cpC25x0 : CompK nsC25x0 rootC25x0 1 rowsC25x0 := by
  intro n r0 r1 r2 r3 r4 r5 r6 r7 r8 r9 r10 r11 r12
  kernel_rfl
theorem prC25x0 (src : List UInt8) (nodes0 : List Nd) : bind1 (bind1 (scanS 400 srcC25x0 0 0 []) (parT 400 src nodes0)) erP = some (nsC25x0, rootC25x0) := by kernel_rfl
theorem frC25x0 : Front srcC25x0 1 rowsC25x0 := by
  have e : rowsC25x0.map (rPut ((0 : Nat) : Int)) = rowsC25x0 := by kernel_rfl
  refine front_mk (ns := nsC25x0) (root := rootC25x0) (of_decide_eq_true (by kernel_rfl)) (e ▸ Rows.put (x := 0) (by decide) (by decide) (by decide) (by kernel_rfl) (by kernel_rfl) (of_decide_eq_true (by kernel_rfl))) (fun nodes0 => ?_) cpC25x0.all
  obtain ⟨z, hz, h⟩ := bnd1 (prC25x0 srcC25x0 nodes0)
  obtain ⟨r, hr, hz⟩ := bnd1 hz
  exact parse_of (ascii_of (by kernel_rfl)) hr nodes0 (by rw [hz]; exact h)
theorem vC25x0a : endR (coLA 1000 40 60 0 V.nil V.nil 0 qC25x0a (ld1 (pgR rowsC25x0) ts0 1)) = some ((⟨1, V.nil, 0⟩, 0, uC25x0a, 0, 1), [], oC25x0a) := by kernel_rfl
theorem obC25x0a : allOb oC25x0a := by
  unfold oC25x0a
  exact allOb_nil
theorem vC25x0b : endR (coLA 1000 40 60 0 V.nil V.nil 0 qC25x0b (ld1 (pgR rowsC25x0) ts0 0)) = some ((⟨3, V.nil, 9⟩, 0, uC25x0b, 0, 1), [], oC25x0b) := by kernel_rfl
theorem obC25x0b : allOb oC25x0b := by
  unfold oC25x0b
  exact allOb_nil
theorem opC25x0 (c : CSt) (m : VM) (hJ : JJ c m) : Two say25 0 0 [48] c m := by
  exact two_mk (src := srcC25x0) (run_mk frC25x0 vC25x0a obC25x0a (by decide) (.inl ⟨rfl, rfl⟩)) (run_mk frC25x0 vC25x0b obC25x0b (by decide) (.inr ⟨rfl, rfl⟩)) c m hJ
def nsC25x1 : List Nd := [⟨0, 0, 0, 0, 0, 0, [], 0⟩, ⟨14, 0, 0, 0, 0, 0, [], 0⟩, ⟨17, 0, 0, 0, 0, 0, [112, 114, 105, 110, 116], 0⟩, ⟨15, 0, 0, 0, 0, 0, [], 0⟩, ⟨19, 2, 3, 0, 0, 0, [], 0⟩, ⟨5, 4, 0, 0, 0, 0, [], 0⟩, ⟨14, 0, 0, 0, 0, 0, [], 0⟩, ⟨17, 0, 0, 0, 0, 0, [112, 114, 105, 110, 116], 0⟩, ⟨15, 0, 0, 0, 0, 4607182418800017408, [], 0⟩, ⟨19, 7, 8, 0, 0, 0, [], 0⟩, ⟨5, 9, 0, 0, 0, 0, [], 0⟩, ⟨17, 0, 0, 0, 0, 0, [112, 114, 105, 110, 116], 0⟩, ⟨15, 0, 0, 0, 0, 4607182418800017408, [], 0⟩, ⟨19, 11, 12, 0, 0, 0, [], 0⟩, ⟨5, 13, 0, 0, 0, 0, [], 0⟩, ⟨6, 6, 10, 14, 0, 0, [], 0⟩, ⟨6, 1, 5, 15, 22, 0, [], 0⟩, ⟨13, 0, 0, 0, 0, 0, [], 0⟩, ⟨17, 0, 0, 0, 0, 0, [112, 114, 105, 110, 116], 0⟩, ⟨15, 0, 0, 0, 0, 4611686018427387904, [], 0⟩, ⟨19, 18, 19, 0, 0, 0, [], 0⟩, ⟨5, 20, 0, 0, 0, 0, [], 0⟩, ⟨6, 17, 0, 21, 0, 0, [], 0⟩]
def rootC25x1 : Int := 16
def rowsC25x1 : List Rw := [⟨0, 0, [], [⟨3, 0, [112, 114, 105, 110, 116]⟩, ⟨2, 0, []⟩, ⟨2, 4607182418800017408, []⟩, ⟨2, 4611686018427387904, []⟩], [(4, 0), (22, 8), (9, 0), (1, 1), (26, 1), (25, 0), (25, 0), (21, 21), (4, 0), (22, 16), (9, 0), (1, 2), (26, 1), (25, 0), (25, 0), (21, 21), (9, 0), (1, 2), (26, 1), (25, 0), (25, 0), (3, 0), (22, 24), (21, 29), (9, 0), (1, 3), (26, 1), (25, 0), (25, 0), (2, 0), (2, 0), (27, 0)]⟩]
def srcC25x1 : List UInt8 := [105, 102, 32, 102, 97, 108, 115, 101, 32, 116, 104, 101, 110, 32, 112, 114, 105, 110, 116, 40, 48, 41, 32, 101, 108, 115, 101, 105, 102, 32, 102, 97, 108, 115, 101, 32, 116, 104, 101, 110, 32, 112, 114, 105, 110, 116, 40, 49, 41, 32, 101, 108, 115, 101, 32, 112, 114, 105, 110, 116, 40, 49, 41, 32, 101, 110, 100, 32, 105, 102, 32, 116, 114, 117, 101, 32, 116, 104, 101, 110, 32, 101, 108, 115, 101, 32, 112, 114, 105, 110, 116, 40, 50, 41, 32, 101, 110, 100]
def qC25x1a : HQ := List.replicate 1 none
def oC25x1a : List Ob := []
def uC25x1a : List UInt8 := [49, 10]
def qC25x1b : HQ := List.replicate 1 none
def oC25x1b : List Ob := []
def uC25x1b : List UInt8 := []
theorem cpC25x1 : CompK nsC25x1 rootC25x1 1 rowsC25x1 := by
  intro n r0 r1 r2 r3 r4 r5 r6 r7 r8 r9 r10 r11 r12
  kernel_rfl
theorem prC25x1 (src : List UInt8) (nodes0 : List Nd) : bind1 (bind1 (scanS 400 srcC25x1 0 0 []) (parT 400 src nodes0)) erP = some (nsC25x1, rootC25x1) := by kernel_rfl
theorem frC25x1 : Front srcC25x1 1 rowsC25x1 := by
  have e : rowsC25x1.map (rPut ((0 : Nat) : Int)) = rowsC25x1 := by kernel_rfl
  refine front_mk (ns := nsC25x1) (root := rootC25x1) (of_decide_eq_true (by kernel_rfl)) (e ▸ Rows.put (x := 0) (by decide) (by decide) (by decide) (by kernel_rfl) (by kernel_rfl) (of_decide_eq_true (by kernel_rfl))) (fun nodes0 => ?_) cpC25x1.all
  obtain ⟨z, hz, h⟩ := bnd1 (prC25x1 srcC25x1 nodes0)
  obtain ⟨r, hr, hz⟩ := bnd1 hz
  exact parse_of (ascii_of (by kernel_rfl)) hr nodes0 (by rw [hz]; exact h)
theorem vC25x1a : endR (coLA 1000 40 60 0 V.nil V.nil 0 qC25x1a (ld1 (pgR rowsC25x1) ts0 1)) = some ((⟨1, V.nil, 0⟩, 0, uC25x1a, 0, 1), [], oC25x1a) := by kernel_rfl
theorem obC25x1a : allOb oC25x1a := by
  unfold oC25x1a
  exact allOb_nil
theorem vC25x1b : endR (coLA 1000 40 60 0 V.nil V.nil 0 qC25x1b (ld1 (pgR rowsC25x1) ts0 0)) = some ((⟨3, V.nil, 9⟩, 0, uC25x1b, 0, 1), [], oC25x1b) := by kernel_rfl
theorem obC25x1b : allOb oC25x1b := by
  unfold oC25x1b
  exact allOb_nil
theorem opC25x1 (c : CSt) (m : VM) (hJ : JJ c m) : Two say25 0 0 [49] c m := by
  exact two_mk (src := srcC25x1) (run_mk frC25x1 vC25x1a obC25x1a (by decide) (.inl ⟨rfl, rfl⟩)) (run_mk frC25x1 vC25x1b obC25x1b (by decide) (.inr ⟨rfl, rfl⟩)) c m hJ
def nsC25x2 : List Nd := [⟨0, 0, 0, 0, 0, 0, [], 0⟩, ⟨14, 0, 0, 0, 0, 0, [], 0⟩, ⟨17, 0, 0, 0, 0, 0, [112, 114, 105, 110, 116], 0⟩, ⟨15, 0, 0, 0, 0, 0, [], 0⟩, ⟨19, 2, 3, 0, 0, 0, [], 0⟩, ⟨5, 4, 0, 0, 0, 0, [], 0⟩, ⟨14, 0, 0, 0, 0, 0, [], 0⟩, ⟨17, 0, 0, 0, 0, 0, [112, 114, 105, 110, 116], 0⟩, ⟨15, 0, 0, 0, 0, 4607182418800017408, [], 0⟩, ⟨19, 7, 8, 0, 0, 0, [], 0⟩, ⟨5, 9, 0, 0, 0, 0, [], 0⟩, ⟨17, 0, 0, 0, 0, 0, [112, 114, 105, 110, 116], 0⟩, ⟨15, 0, 0, 0, 0, 4611686018427387904, [], 0⟩, ⟨19, 11, 12, 0, 0, 0, [], 0⟩, ⟨5, 13, 0, 0, 0, 0, [], 0⟩, ⟨6, 6, 10, 14, 0, 0, [], 0⟩, ⟨6, 1, 5, 15, 22, 0, [], 0⟩, ⟨13, 0, 0, 0, 0, 0, [], 0⟩, ⟨17, 0, 0, 0, 0, 0, [112, 114, 105, 110, 116], 0⟩, ⟨15, 0, 0, 0, 0, 4611686018427387904, [], 0⟩, ⟨19, 18, 19, 0, 0, 0, [], 0⟩, ⟨5, 20, 0, 0, 0, 0, [], 0⟩, ⟨6, 17, 0, 21, 0, 0, [], 0⟩]
def rootC25x2 : Int := 16
def rowsC25x2 : List Rw := [⟨0, 0, [], [⟨3, 0, [112, 114, 105, 110, 116]⟩, ⟨2, 0, []⟩, ⟨2, 4607182418800017408, []⟩, ⟨2, 4611686018427387904, []⟩], [(4, 0), (22, 8), (9, 0), (1, 1), (26, 1), (25, 0), (25, 0), (21, 21), (4, 0), (22, 16), (9, 0), (1, 2), (26, 1), (25, 0), (25, 0), (21, 21), (9, 0), (1, 3), (26, 1), (25, 0), (25, 0), (3, 0), (22, 24), (21, 29), (9, 0), (1, 3), (26, 1), (25, 0), (25, 0), (2, 0), (2, 0), (27, 0)]⟩]
def srcC25x2 : List UInt8 := [105, 102, 32, 102, 97, 108, 115, 101, 32, 116, 104, 101, 110, 32, 112, 114, 105, 110, 116, 40, 48, 41, 32, 101, 108, 115, 101, 105, 102, 32, 102, 97, 108, 115, 101, 32, 116, 104, 101, 110, 32, 112, 114, 105, 110, 116, 40, 49, 41, 32, 101, 108, 115, 101, 32, 112, 114, 105, 110, 116, 40, 50, 41, 32, 101, 110, 100, 32, 105, 102, 32, 116, 114, 117, 101, 32, 116, 104, 101, 110, 32, 101, 108, 115, 101, 32, 112, 114, 105, 110, 116, 40, 50, 41, 32, 101, 110, 100]
def qC25x2a : HQ := List.replicate 1 none
def oC25x2a : List Ob := []
def uC25x2a : List UInt8 := [50, 10]
def qC25x2b : HQ := List.replicate 1 none
def oC25x2b : List Ob := []
def uC25x2b : List UInt8 := []
theorem cpC25x2 : CompK nsC25x2 rootC25x2 1 rowsC25x2 := by
  intro n r0 r1 r2 r3 r4 r5 r6 r7 r8 r9 r10 r11 r12
  kernel_rfl
theorem prC25x2 (src : List UInt8) (nodes0 : List Nd) : bind1 (bind1 (scanS 400 srcC25x2 0 0 []) (parT 400 src nodes0)) erP = some (nsC25x2, rootC25x2) := by kernel_rfl
theorem frC25x2 : Front srcC25x2 1 rowsC25x2 := by
  have e : rowsC25x2.map (rPut ((0 : Nat) : Int)) = rowsC25x2 := by kernel_rfl
  refine front_mk (ns := nsC25x2) (root := rootC25x2) (of_decide_eq_true (by kernel_rfl)) (e ▸ Rows.put (x := 0) (by decide) (by decide) (by decide) (by kernel_rfl) (by kernel_rfl) (of_decide_eq_true (by kernel_rfl))) (fun nodes0 => ?_) cpC25x2.all
  obtain ⟨z, hz, h⟩ := bnd1 (prC25x2 srcC25x2 nodes0)
  obtain ⟨r, hr, hz⟩ := bnd1 hz
  exact parse_of (ascii_of (by kernel_rfl)) hr nodes0 (by rw [hz]; exact h)
theorem vC25x2a : endR (coLA 1000 40 60 0 V.nil V.nil 0 qC25x2a (ld1 (pgR rowsC25x2) ts0 1)) = some ((⟨1, V.nil, 0⟩, 0, uC25x2a, 0, 1), [], oC25x2a) := by kernel_rfl
theorem obC25x2a : allOb oC25x2a := by
  unfold oC25x2a
  exact allOb_nil
theorem vC25x2b : endR (coLA 1000 40 60 0 V.nil V.nil 0 qC25x2b (ld1 (pgR rowsC25x2) ts0 0)) = some ((⟨3, V.nil, 9⟩, 0, uC25x2b, 0, 1), [], oC25x2b) := by kernel_rfl
theorem obC25x2b : allOb oC25x2b := by
  unfold oC25x2b
  exact allOb_nil
theorem opC25x2 (c : CSt) (m : VM) (hJ : JJ c m) : Two say25 0 0 [50] c m := by
  exact two_mk (src := srcC25x2) (run_mk frC25x2 vC25x2a obC25x2a (by decide) (.inl ⟨rfl, rfl⟩)) (run_mk frC25x2 vC25x2b obC25x2b (by decide) (.inr ⟨rfl, rfl⟩)) c m hJ
theorem one25 {x : Nat} {t : List UInt8} (hx : x < 9218868437227405312) (hf : formatM x = some t) (c : CSt) (m : VM) (hJ : JJ c m) : Two say25 0 0 t c m := by
  by_cases h0 : x = 0
  · subst h0
    have e : formatM 0 = some [48] := by kernel_rfl
    rw [e] at hf
    injection hf with hf
    subst hf
    exact opC25x0 c m hJ
  by_cases h1 : x = 4607182418800017408
  · subst h1
    have e : formatM 4607182418800017408 = some [49] := by kernel_rfl
    rw [e] at hf
    injection hf with hf
    subst hf
    exact opC25x1 c m hJ
  by_cases h2 : x = 4611686018427387904
  · subst h2
    have e : formatM 4611686018427387904 = some [50] := by kernel_rfl
    rw [e] at hf
    injection hf with hf
    subst hf
    exact opC25x2 c m hJ
  refine op25 hx hf ?_ c m hJ
  intro z hz
  simp only [List.mem_cons, List.not_mem_nil, or_false] at hz
  rcases hz with rfl | rfl | rfl <;> omega
def nsC34x0 : List Nd := [⟨0, 0, 0, 0, 0, 0, [], 0⟩, ⟨17, 0, 0, 0, 0, 0, [112, 114, 105, 110, 116], 0⟩, ⟨12, 0, 0, 0, 0, 0, [], 0⟩, ⟨19, 1, 2, 0, 0, 0, [], 0⟩, ⟨5, 3, 0, 0, 8, 0, [], 0⟩, ⟨17, 0, 0, 0, 0, 0, [112, 114, 105, 110, 116], 0⟩, ⟨13, 0, 0, 0, 0, 0, [], 0⟩, ⟨19, 5, 6, 0, 0, 0, [], 0⟩, ⟨5, 7, 0, 0, 12, 0, [], 0⟩, ⟨17, 0, 0, 0, 0, 0, [112, 114, 105, 110, 116], 0⟩, ⟨14, 0, 0, 0, 0, 0, [], 0⟩, ⟨19, 9, 10, 0, 0, 0, [], 0⟩, ⟨5, 11, 0, 0, 0, 0, [], 0⟩]
def rootC34x0 : Int := 4
def rowsC34x0 : List Rw := [⟨0, 0, [], [⟨3, 0, [112, 114, 105, 110, 116]⟩], [(9, 0), (2, 0), (26, 1), (25, 0), (25, 0), (9, 0), (3, 0), (26, 1), (25, 0), (25, 0), (9, 0), (4, 0), (26, 1), (25, 0), (25, 0), (2, 0), (2, 0), (27, 0)]⟩]
def srcC34x0 : List UInt8 := [112, 114, 105, 110, 116, 40, 110, 105, 108, 41, 32, 112, 114, 105, 110, 116, 40, 116, 114, 117, 101, 41, 32, 112, 114, 105, 110, 116, 40, 102, 97, 108, 115, 101, 41]
def qC34x0a : HQ := List.replicate 3 none
def oC34x0a : List Ob := []
def uC34x0a : List UInt8 := [110, 105, 108, 10, 116, 114, 117, 101, 10, 102, 97, 108, 115, 101, 10]
def qC34x0b : HQ := List.replicate 3 none
def oC34x0b : List Ob := []
def uC34x0b : List UInt8 := [110, 105, 108, 10, 116, 114, 117, 101, 10]
theorem cpC34x0 : CompK nsC34x0 rootC34x0 1 rowsC34x0 := by
  intro n r0 r1 r2 r3 r4 r5 r6 r7 r8 r9 r10 r11 r12
  kernel_rfl
theorem prC34x0 (src : List UInt8) (nodes0 : List Nd) : bind1 (bind1 (scanS 400 srcC34x0 0 0 []) (parT 400 src nodes0)) erP = some (nsC34x0, rootC34x0) := by kernel_rfl
theorem frC34x0 : Front srcC34x0 1 rowsC34x0 := by
  have e : rowsC34x0.map (rPut ((0 : Nat) : Int)) = rowsC34x0 := by kernel_rfl
  refine front_mk (ns := nsC34x0) (root := rootC34x0) (of_decide_eq_true (by kernel_rfl)) (e ▸ Rows.put (x := 0) (by decide) (by decide) (by decide) (by kernel_rfl) (by kernel_rfl) (of_decide_eq_true (by kernel_rfl))) (fun nodes0 => ?_) cpC34x0.all
  obtain ⟨z, hz, h⟩ := bnd1 (prC34x0 srcC34x0 nodes0)
  obtain ⟨r, hr, hz⟩ := bnd1 hz
  exact parse_of (ascii_of (by kernel_rfl)) hr nodes0 (by rw [hz]; exact h)
theorem vC34x0a : endR (coLA 1000 40 60 0 V.nil V.nil 0 qC34x0a (ld1 (pgR rowsC34x0) ts0 3)) = some ((⟨1, V.nil, 0⟩, 0, uC34x0a, 0, 1), [], oC34x0a) := by kernel_rfl
theorem obC34x0a : allOb oC34x0a := by
  unfold oC34x0a
  exact allOb_nil
theorem vC34x0b : endR (coLA 1000 40 60 0 V.nil V.nil 0 qC34x0b (ld1 (pgR rowsC34x0) ts0 2)) = some ((⟨3, V.nil, 9⟩, 0, uC34x0b, 0, 1), [], oC34x0b) := by kernel_rfl
theorem obC34x0b : allOb oC34x0b := by
  unfold oC34x0b
  exact allOb_nil
theorem opC34x0 (t : List UInt8) (c : CSt) (m : VM) (hJ : JJ c m) : Two say34 0 0 t c m := by
  exact two_mk (src := srcC34x0) (run_mk frC34x0 vC34x0a obC34x0a (by decide) (.inl ⟨rfl, rfl⟩)) (run_mk frC34x0 vC34x0b obC34x0b (by decide) (.inr ⟨rfl, rfl⟩)) c m hJ
theorem one34 {x : Nat} {t : List UInt8} (hx : x < 9218868437227405312) (hf : formatM x = some t) (c : CSt) (m : VM) (hJ : JJ c m) : Two say34 0 0 t c m := opC34x0 t c m hJ
def ns43 : List Nd := [⟨0, 0, 0, 0, 0, 0, [], 0⟩, ⟨17, 0, 0, 0, 0, 0, [99, 114, 101, 97, 116, 101], 0⟩, ⟨17, 0, 0, 0, 0, 0, [97], 0⟩, ⟨17, 0, 0, 0, 0, 0, [121, 105, 101, 108, 100], 0⟩, ⟨17, 0, 0, 0, 0, 0, [97], 0⟩, ⟨19, 3, 4, 0, 0, 0, [], 0⟩, ⟨1, 5, 0, 0, 8, 0, [98], 0⟩, ⟨17, 0, 0, 0, 0, 0, [98], 0⟩, ⟨10, 7, 0, 0, 0, 0, [], 0⟩, ⟨20, 2, 6, 0, 0, 1, [], 0⟩, ⟨19, 1, 9, 0, 0, 0, [], 0⟩, ⟨1, 10, 0, 0, 18, 0, [99], 0⟩, ⟨17, 0, 0, 0, 13, 0, [111], 0⟩, ⟨17, 0, 0, 0, 0, 0, [118], 0⟩, ⟨17, 0, 0, 0, 0, 0, [114, 101, 115, 117, 109, 101], 0⟩, ⟨17, 0, 0, 0, 16, 0, [99], 0⟩, ⟨15, 0, 0, 0, 0, -1, [], 0⟩, ⟨19, 14, 15, 0, 0, 0, [], 0⟩, ⟨2, 12, 17, 0, 22, 0, [], 0⟩, ⟨17, 0, 0, 0, 0, 0, [112, 114, 105, 110, 116], 0⟩, ⟨17, 0, 0, 0, 0, 0, [118], 0⟩, ⟨19, 19, 20, 0, 0, 0, [], 0⟩, ⟨5, 21, 0, 0, 28, 0, [], 0⟩, ⟨17, 0, 0, 0, 0, 0, [112, 114, 105, 110, 116], 0⟩, ⟨17, 0, 0, 0, 0, 0, [115, 116, 97, 116, 117, 115], 0⟩, ⟨17, 0, 0, 0, 0, 0, [99], 0⟩, ⟨19, 24, 25, 0, 0, 0, [], 0⟩, ⟨19, 23, 26, 0, 0, 0, [], 0⟩, ⟨5, 27, 0, 0, 35, 0, [], 0⟩, ⟨17, 0, 0, 0, 30, 0, [112], 0⟩, ⟨17, 0, 0, 0, 0, 0, [119], 0⟩, ⟨17, 0, 0, 0, 0, 0, [114, 101, 115, 117, 109, 101], 0⟩, ⟨17, 0, 0, 0, 33, 0, [99], 0⟩, ⟨15, 0, 0, 0, 0, 4607182418800017408, [], 0⟩, ⟨19, 31, 32, 0, 0, 0, [], 0⟩, ⟨2, 29, 34, 0, 39, 0, [], 0⟩, ⟨17, 0, 0, 0, 0, 0, [112, 114, 105, 110, 116], 0⟩, ⟨17, 0, 0, 0, 0, 0, [119], 0⟩, ⟨19, 36, 37, 0, 0, 0, [], 0⟩, ⟨5, 38, 0, 0, 45, 0, [], 0⟩, ⟨17, 0, 0, 0, 0, 0, [112, 114, 105, 110, 116], 0⟩, ⟨17, 0, 0, 0, 0, 0, [115, 116, 97, 116, 117, 115], 0⟩, ⟨17, 0, 0, 0, 0, 0, [99], 0⟩, ⟨19, 41, 42, 0, 0, 0, [], 0⟩, ⟨19, 40, 43, 0, 0, 0, [], 0⟩, ⟨5, 44, 0, 0, 0, 0, [], 0⟩]
def root43 : Int := 11
def rows43 : List Rw := [⟨0, 5, [], [⟨3, 0, [99, 114, 101, 97, 116, 101]⟩, ⟨3, 0, [114, 101, 115, 117, 109, 101]⟩, ⟨2, -1, []⟩, ⟨3, 0, [112, 114, 105, 110, 116]⟩, ⟨3, 0, [115, 116, 97, 116, 117, 115]⟩, ⟨2, 4607182418800017408, []⟩], [(9, 0), (28, 1), (26, 1), (25, 0), (6, 0), (9, 1), (5, 0), (1, 2), (26, 2), (6, 2), (6, 1), (9, 3), (5, 2), (26, 1), (25, 0), (25, 0), (9, 3), (9, 4), (5, 0), (26, 1), (25, 0), (26, 1), (25, 0), (25, 0), (9, 1), (5, 0), (1, 5), (26, 2), (6, 4), (6, 3), (9, 3), (5, 4), (26, 1), (25, 0), (25, 0), (9, 3), (9, 4), (5, 0), (26, 1), (25, 0), (26, 1), (25, 0), (25, 0), (29, 0), (2, 0), (2, 0), (27, 0)]⟩, ⟨1, 2, [], [⟨3, 0, [121, 105, 101, 108, 100]⟩], [(9, 0), (5, 0), (26, 1), (25, 0), (6, 1), (5, 1), (2, 0), (27, 0), (29, 1), (2, 0), (2, 0), (27, 0)]⟩]
def q43a (x : Nat) (t : List UInt8) : HQ := [some ⟨t, [], [], 0⟩, some ⟨[], [], [], 1⟩, some ⟨[], [], [], 1⟩, some ⟨[], [], [], 1⟩]
def o43a (x : Nat) (t : List UInt8) : List Ob := [.val ⟨2, ((x : Nat) : Int), []⟩, .val ⟨2, ((x : Nat) : Int), []⟩, .txt ⟨2, ((x : Nat) : Int), []⟩ t, .out [] t, .out (([] ++ t) ++ [10]) [115, 117, 115, 112, 101, 110, 100, 101, 100], .val ⟨2, 4607182418800017408, []⟩, .val ⟨2, 4607182418800017408, []⟩, .out (((([] ++ t) ++ [10]) ++ [115, 117, 115, 112, 101, 110, 100, 101, 100]) ++ [10]) [49], .out (((((([] ++ t) ++ [10]) ++ [115, 117, 115, 112, 101, 110, 100, 101, 100]) ++ [10]) ++ [49]) ++ [10]) [100, 101, 97, 100]]
def u43a (t : List UInt8) : List UInt8 := (((((((([] ++ t) ++ [10]) ++ [115, 117, 115, 112, 101, 110, 100, 101, 100]) ++ [10]) ++ [49]) ++ [10]) ++ [100, 101, 97, 100]) ++ [10])
def q43b (x : Nat) (t : List UInt8) : HQ := [some ⟨t, [], [], 0⟩, some ⟨[], [], [], 1⟩, some ⟨[], [], [], 1⟩, none]
def o43b (x : Nat) (t : List UInt8) : List Ob := [.val ⟨2, ((x : Nat) : Int), []⟩, .val ⟨2, ((x : Nat) : Int), []⟩, .txt ⟨2, ((x : Nat) : Int), []⟩ t, .out [] t, .out (([] ++ t) ++ [10]) [115, 117, 115, 112, 101, 110, 100, 101, 100], .val ⟨2, 4607182418800017408, []⟩, .val ⟨2, 4607182418800017408, []⟩, .out (((([] ++ t) ++ [10]) ++ [115, 117, 115, 112, 101, 110, 100, 101, 100]) ++ [10]) [49]]
def u43b (t : List UInt8) : List UInt8 := (((((([] ++ t) ++ [10]) ++ [115, 117, 115, 112, 101, 110, 100, 101, 100]) ++ [10]) ++ [49]) ++ [10])
theorem cp43 : CompK ns43 root43 2 rows43 := by
  intro n r0 r1 r2 r3 r4 r5 r6 r7 r8 r9 r10 r11 r12
  kernel_rfl
def p43_0 : List UInt8 := [108, 111, 99, 97, 108, 32, 99, 32, 61, 32, 99, 114, 101, 97, 116, 101, 40, 102, 117, 110, 99, 116, 105, 111, 110, 40, 97, 41, 32, 108, 111, 99, 97, 108, 32, 98, 32, 61, 32, 121, 105, 101, 108, 100, 40, 97, 41, 32, 114, 101, 116, 117, 114, 110, 32, 98, 32, 101, 110, 100, 41, 32, 108, 111, 99, 97, 108, 32, 111, 44, 32, 118, 32, 61, 32, 114, 101, 115, 117, 109, 101, 40, 99, 44, 32]
def p43_1 : List UInt8 := [41, 32, 112, 114, 105, 110, 116, 40, 118, 41, 32, 112, 114, 105, 110, 116, 40, 115, 116, 97, 116, 117, 115, 40, 99, 41, 41, 32, 108, 111, 99, 97, 108, 32, 112, 44, 32, 119, 32, 61, 32, 114, 101, 115, 117, 109, 101, 40, 99, 44, 32, 49, 41, 32, 112, 114, 105, 110, 116, 40, 119, 41, 32, 112, 114, 105, 110, 116, 40, 115, 116, 97, 116, 117, 115, 40, 99, 41, 41]
theorem lx43 (w : List UInt8) : scanW w 400 p43_0 0 0 [] = some (315, 85, 0, tkP 400 p43_0 0) := by kernel_rfl
theorem pr43 (x len : Nat) (src : List UInt8) (nodes0 : List Nd) : bind1 (bind1 (scanS 200 p43_1 (85 + len) 0 (tkP 400 p43_0 0 ++ [⟨3, 85, [], ((x : Nat) : Int), 0⟩])) (parT 400 src nodes0)) erP = some (ns43.map (nPut x), root43) := by kernel_rfl
theorem fr43 {x : Nat} {t : List UInt8} (hx : x < 9218868437227405312) (hn : NumT t) (hl : t.length ≤ 22) (hp : parseM t = some (x, 0)) (hL : newX [4607182418800017408] x) : Front (say43 t).src 2 (rows43.map (rPut x)) := by
  refine front_mk (ns := ns43.map (nPut x)) (root := root43) ?_ (Rows.put hx (by decide) (by decide) (by kernel_rfl) (by kernel_rfl) (of_decide_eq_true (by kernel_rfl))) (fun nodes0 => ?_) (comp_open cp43 hL (fun z => hL 4607182418800017408 (by simp) z.symm) (by kernel_rfl) (by kernel_rfl))
  · show (((p43_0 ++ t) ++ p43_1)).length ≤ 2048
    simp only [List.length_append]
    have e : p43_0.length + p43_1.length ≤ 1000 := of_decide_eq_true (by kernel_rfl)
    omega
  · show bind1 (bind1 (scanL 400 ((p43_0 ++ t) ++ p43_1) 0 0 []) (parT 400 ((p43_0 ++ t) ++ p43_1) nodes0)) erP = _
    have h := pr43 x t.length ((p43_0 ++ t) ++ p43_1) nodes0
    obtain ⟨z, hz, h⟩ := bnd1 h
    obtain ⟨r, hr, hz⟩ := bnd1 hz
    refine parse_of (r := r) (ascii_app (ascii_app (ascii_of (by kernel_rfl)) (num_ascii hn)) (ascii_of (by kernel_rfl))) ?_ nodes0 ?_
    · rw [List.append_assoc]
      exact pre_step (lx43 _) (num_step hn hl (by refine ⟨?_, ?_, ?_⟩ <;> decide) hp (of_decide_eq_true (by kernel_rfl)) hr (by decide))
    · rw [hz]; exact h
theorem v43a (x : Nat) (t : List UInt8) : endR (coLA 1000 40 60 0 V.nil V.nil 0 (q43a x t) (ld1 (pgR (rows43.map (rPut x))) ts0 10)) = some ((⟨1, V.nil, 0⟩, 1, u43a t, 0, 1), [], o43a x t) := by kernel_rfl
theorem ob43a {x : Nat} {t : List UInt8} (hx : x < 9218868437227405312) (hf : formatM x = some t) (hg : formatM (negM x) = some ([45] ++ t)) (hl : t.length ≤ 22) (hp : parseM t = some (x, 0)) : allOb (o43a x t) := by
  unfold o43a
  exact allOb_cons (show _ ∧ _ ∧ _ ∧ cmpM _ _ _ = _ from ⟨rfl, rfl, Int.natCast_nonneg _, cmp_self hx⟩) (allOb_cons (show _ ∧ _ ∧ _ ∧ cmpM _ _ _ = _ from ⟨rfl, rfl, Int.natCast_nonneg _, cmp_self hx⟩) (allOb_cons (txt_num (Nat.lt_trans hx (by decide)) hf) (allOb_cons (by show List.length _ + List.length _ + 1 ≤ 200; simp only [List.length_append, List.length_cons, List.length_nil]; omega) (allOb_cons (by show List.length _ + List.length _ + 1 ≤ 200; simp only [List.length_append, List.length_cons, List.length_nil]; omega) (allOb_cons (show _ ∧ _ ∧ _ ∧ cmpM _ _ _ = _ from ⟨rfl, rfl, by decide, by kernel_rfl⟩) (allOb_cons (show _ ∧ _ ∧ _ ∧ cmpM _ _ _ = _ from ⟨rfl, rfl, by decide, by kernel_rfl⟩) (allOb_cons (by show List.length _ + List.length _ + 1 ≤ 200; simp only [List.length_append, List.length_cons, List.length_nil]; omega) (allOb_cons (by show List.length _ + List.length _ + 1 ≤ 200; simp only [List.length_append, List.length_cons, List.length_nil]; omega) (allOb_nil)))))))))
theorem v43b (x : Nat) (t : List UInt8) : endR (coLA 1000 40 60 0 V.nil V.nil 0 (q43b x t) (ld1 (pgR (rows43.map (rPut x))) ts0 9)) = some ((⟨3, V.nil, 9⟩, 1, u43b t, 0, 1), [], o43b x t) := by kernel_rfl
theorem ob43b {x : Nat} {t : List UInt8} (hx : x < 9218868437227405312) (hf : formatM x = some t) (hg : formatM (negM x) = some ([45] ++ t)) (hl : t.length ≤ 22) (hp : parseM t = some (x, 0)) : allOb (o43b x t) := by
  unfold o43b
  exact allOb_cons (show _ ∧ _ ∧ _ ∧ cmpM _ _ _ = _ from ⟨rfl, rfl, Int.natCast_nonneg _, cmp_self hx⟩) (allOb_cons (show _ ∧ _ ∧ _ ∧ cmpM _ _ _ = _ from ⟨rfl, rfl, Int.natCast_nonneg _, cmp_self hx⟩) (allOb_cons (txt_num (Nat.lt_trans hx (by decide)) hf) (allOb_cons (by show List.length _ + List.length _ + 1 ≤ 200; simp only [List.length_append, List.length_cons, List.length_nil]; omega) (allOb_cons (by show List.length _ + List.length _ + 1 ≤ 200; simp only [List.length_append, List.length_cons, List.length_nil]; omega) (allOb_cons (show _ ∧ _ ∧ _ ∧ cmpM _ _ _ = _ from ⟨rfl, rfl, by decide, by kernel_rfl⟩) (allOb_cons (show _ ∧ _ ∧ _ ∧ cmpM _ _ _ = _ from ⟨rfl, rfl, by decide, by kernel_rfl⟩) (allOb_cons (by show List.length _ + List.length _ + 1 ≤ 200; simp only [List.length_append, List.length_cons, List.length_nil]; omega) (allOb_nil))))))))
theorem op43 {x : Nat} {t : List UInt8} (hx : x < 9218868437227405312) (hf : formatM x = some t) (hL : newX [4607182418800017408] x) (c : CSt) (m : VM) (hJ : JJ c m) : Two say43 (say43 t).m (say43 t).ms t c m := by
  obtain ⟨t', f1, hn, hl, hp, hg⟩ := fmt_all hx
  rw [hf] at f1
  injection f1 with f1
  subst f1
  have ua : u43a t = (say43 t).out := by simp [u43a, say43]
  have ub : u43b t = (say43 t).short := by simp [u43b, say43]
  exact two_mk (run_mk (fr43 hx hn hl hp hL) (v43a x t) (ob43a hx hf hg hl hp) (by decide) (.inl ⟨rfl, by rw [ua]⟩)) (run_mk (fr43 hx hn hl hp hL) (v43b x t) (ob43b hx hf hg hl hp) (by decide) (.inr ⟨rfl, by rw [ub]⟩)) c m hJ
def nsC43x0 : List Nd := [⟨0, 0, 0, 0, 0, 0, [], 0⟩, ⟨17, 0, 0, 0, 0, 0, [99, 114, 101, 97, 116, 101], 0⟩, ⟨17, 0, 0, 0, 0, 0, [97], 0⟩, ⟨17, 0, 0, 0, 0, 0, [121, 105, 101, 108, 100], 0⟩, ⟨17, 0, 0, 0, 0, 0, [97], 0⟩, ⟨19, 3, 4, 0, 0, 0, [], 0⟩, ⟨1, 5, 0, 0, 8, 0, [98], 0⟩, ⟨17, 0, 0, 0, 0, 0, [98], 0⟩, ⟨10, 7, 0, 0, 0, 0, [], 0⟩, ⟨20, 2, 6, 0, 0, 1, [], 0⟩, ⟨19, 1, 9, 0, 0, 0, [], 0⟩, ⟨1, 10, 0, 0, 18, 0, [99], 0⟩, ⟨17, 0, 0, 0, 13, 0, [111], 0⟩, ⟨17, 0, 0, 0, 0, 0, [118], 0⟩, ⟨17, 0, 0, 0, 0, 0, [114, 101, 115, 117, 109, 101], 0⟩, ⟨17, 0, 0, 0, 16, 0, [99], 0⟩, ⟨15, 0, 0, 0, 0, 4607182418800017408, [], 0⟩, ⟨19, 14, 15, 0, 0, 0, [], 0⟩, ⟨2, 12, 17, 0, 22, 0, [], 0⟩, ⟨17, 0, 0, 0, 0, 0, [112, 114, 105, 110, 116], 0⟩, ⟨17, 0, 0, 0, 0, 0, [118], 0⟩, ⟨19, 19, 20, 0, 0, 0, [], 0⟩, ⟨5, 21, 0, 0, 28, 0, [], 0⟩, ⟨17, 0, 0, 0, 0, 0, [112, 114, 105, 110, 116], 0⟩, ⟨17, 0, 0, 0, 0, 0, [115, 116, 97, 116, 117, 115], 0⟩, ⟨17, 0, 0, 0, 0, 0, [99], 0⟩, ⟨19, 24, 25, 0, 0, 0, [], 0⟩, ⟨19, 23, 26, 0, 0, 0, [], 0⟩, ⟨5, 27, 0, 0, 35, 0, [], 0⟩, ⟨17, 0, 0, 0, 30, 0, [112], 0⟩, ⟨17, 0, 0, 0, 0, 0, [119], 0⟩, ⟨17, 0, 0, 0, 0, 0, [114, 101, 115, 117, 109, 101], 0⟩, ⟨17, 0, 0, 0, 33, 0, [99], 0⟩, ⟨15, 0, 0, 0, 0, 4607182418800017408, [], 0⟩, ⟨19, 31, 32, 0, 0, 0, [], 0⟩, ⟨2, 29, 34, 0, 39, 0, [], 0⟩, ⟨17, 0, 0, 0, 0, 0, [112, 114, 105, 110, 116], 0⟩, ⟨17, 0, 0, 0, 0, 0, [119], 0⟩, ⟨19, 36, 37, 0, 0, 0, [], 0⟩, ⟨5, 38, 0, 0, 45, 0, [], 0⟩, ⟨17, 0, 0, 0, 0, 0, [112, 114, 105, 110, 116], 0⟩, ⟨17, 0, 0, 0, 0, 0, [115, 116, 97, 116, 117, 115], 0⟩, ⟨17, 0, 0, 0, 0, 0, [99], 0⟩, ⟨19, 41, 42, 0, 0, 0, [], 0⟩, ⟨19, 40, 43, 0, 0, 0, [], 0⟩, ⟨5, 44, 0, 0, 0, 0, [], 0⟩]
def rootC43x0 : Int := 11
def rowsC43x0 : List Rw := [⟨0, 5, [], [⟨3, 0, [99, 114, 101, 97, 116, 101]⟩, ⟨3, 0, [114, 101, 115, 117, 109, 101]⟩, ⟨2, 4607182418800017408, []⟩, ⟨3, 0, [112, 114, 105, 110, 116]⟩, ⟨3, 0, [115, 116, 97, 116, 117, 115]⟩], [(9, 0), (28, 1), (26, 1), (25, 0), (6, 0), (9, 1), (5, 0), (1, 2), (26, 2), (6, 2), (6, 1), (9, 3), (5, 2), (26, 1), (25, 0), (25, 0), (9, 3), (9, 4), (5, 0), (26, 1), (25, 0), (26, 1), (25, 0), (25, 0), (9, 1), (5, 0), (1, 2), (26, 2), (6, 4), (6, 3), (9, 3), (5, 4), (26, 1), (25, 0), (25, 0), (9, 3), (9, 4), (5, 0), (26, 1), (25, 0), (26, 1), (25, 0), (25, 0), (29, 0), (2, 0), (2, 0), (27, 0)]⟩, ⟨1, 2, [], [⟨3, 0, [121, 105, 101, 108, 100]⟩], [(9, 0), (5, 0), (26, 1), (25, 0), (6, 1), (5, 1), (2, 0), (27, 0), (29, 1), (2, 0), (2, 0), (27, 0)]⟩]
def srcC43x0 : List UInt8 := [108, 111, 99, 97, 108, 32, 99, 32, 61, 32, 99, 114, 101, 97, 116, 101, 40, 102, 117, 110, 99, 116, 105, 111, 110, 40, 97, 41, 32, 108, 111, 99, 97, 108, 32, 98, 32, 61, 32, 121, 105, 101, 108, 100, 40, 97, 41, 32, 114, 101, 116, 117, 114, 110, 32, 98, 32, 101, 110, 100, 41, 32, 108, 111, 99, 97, 108, 32, 111, 44, 32, 118, 32, 61, 32, 114, 101, 115, 117, 109, 101, 40, 99, 44, 32, 49, 41, 32, 112, 114, 105, 110, 116, 40, 118, 41, 32, 112, 114, 105, 110, 116, 40, 115, 116, 97, 116, 117, 115, 40, 99, 41, 41, 32, 108, 111, 99, 97, 108, 32, 112, 44, 32, 119, 32, 61, 32, 114, 101, 115, 117, 109, 101, 40, 99, 44, 32, 49, 41, 32, 112, 114, 105, 110, 116, 40, 119, 41, 32, 112, 114, 105, 110, 116, 40, 115, 116, 97, 116, 117, 115, 40, 99, 41, 41]
def qC43x0a : HQ := List.replicate 4 none
def oC43x0a : List Ob := [.val ⟨2, 4607182418800017408, []⟩, .val ⟨2, 4607182418800017408, []⟩, .val ⟨2, 4607182418800017408, []⟩, .val ⟨2, 4607182418800017408, []⟩]
def uC43x0a : List UInt8 := [49, 10, 115, 117, 115, 112, 101, 110, 100, 101, 100, 10, 49, 10, 100, 101, 97, 100, 10]
def qC43x0b : HQ := List.replicate 4 none
def oC43x0b : List Ob := [.val ⟨2, 4607182418800017408, []⟩, .val ⟨2, 4607182418800017408, []⟩, .val ⟨2, 4607182418800017408, []⟩, .val ⟨2, 4607182418800017408, []⟩]
def uC43x0b : List UInt8 := [49, 10, 115, 117, 115, 112, 101, 110, 100, 101, 100, 10, 49, 10]
theorem cpC43x0 : CompK nsC43x0 rootC43x0 2 rowsC43x0 := by
  intro n r0 r1 r2 r3 r4 r5 r6 r7 r8 r9 r10 r11 r12
  kernel_rfl
theorem prC43x0 (src : List UInt8) (nodes0 : List Nd) : bind1 (bind1 (scanS 400 srcC43x0 0 0 []) (parT 400 src nodes0)) erP = some (nsC43x0, rootC43x0) := by kernel_rfl
theorem frC43x0 : Front srcC43x0 2 rowsC43x0 := by
  have e : rowsC43x0.map (rPut ((0 : Nat) : Int)) = rowsC43x0 := by kernel_rfl
  refine front_mk (ns := nsC43x0) (root := rootC43x0) (of_decide_eq_true (by kernel_rfl)) (e ▸ Rows.put (x := 0) (by decide) (by decide) (by decide) (by kernel_rfl) (by kernel_rfl) (of_decide_eq_true (by kernel_rfl))) (fun nodes0 => ?_) cpC43x0.all
  obtain ⟨z, hz, h⟩ := bnd1 (prC43x0 srcC43x0 nodes0)
  obtain ⟨r, hr, hz⟩ := bnd1 hz
  exact parse_of (ascii_of (by kernel_rfl)) hr nodes0 (by rw [hz]; exact h)
theorem vC43x0a : endR (coLA 1000 40 60 0 V.nil V.nil 0 qC43x0a (ld1 (pgR rowsC43x0) ts0 10)) = some ((⟨1, V.nil, 0⟩, 1, uC43x0a, 0, 1), [], oC43x0a) := by kernel_rfl
theorem obC43x0a : allOb oC43x0a := by
  unfold oC43x0a
  exact allOb_cons (show _ ∧ _ ∧ _ ∧ cmpM _ _ _ = _ from ⟨rfl, rfl, by decide, by kernel_rfl⟩) (allOb_cons (show _ ∧ _ ∧ _ ∧ cmpM _ _ _ = _ from ⟨rfl, rfl, by decide, by kernel_rfl⟩) (allOb_cons (show _ ∧ _ ∧ _ ∧ cmpM _ _ _ = _ from ⟨rfl, rfl, by decide, by kernel_rfl⟩) (allOb_cons (show _ ∧ _ ∧ _ ∧ cmpM _ _ _ = _ from ⟨rfl, rfl, by decide, by kernel_rfl⟩) (allOb_nil))))
theorem vC43x0b : endR (coLA 1000 40 60 0 V.nil V.nil 0 qC43x0b (ld1 (pgR rowsC43x0) ts0 9)) = some ((⟨3, V.nil, 9⟩, 1, uC43x0b, 0, 1), [], oC43x0b) := by kernel_rfl
theorem obC43x0b : allOb oC43x0b := by
  unfold oC43x0b
  exact allOb_cons (show _ ∧ _ ∧ _ ∧ cmpM _ _ _ = _ from ⟨rfl, rfl, by decide, by kernel_rfl⟩) (allOb_cons (show _ ∧ _ ∧ _ ∧ cmpM _ _ _ = _ from ⟨rfl, rfl, by decide, by kernel_rfl⟩) (allOb_cons (show _ ∧ _ ∧ _ ∧ cmpM _ _ _ = _ from ⟨rfl, rfl, by decide, by kernel_rfl⟩) (allOb_cons (show _ ∧ _ ∧ _ ∧ cmpM _ _ _ = _ from ⟨rfl, rfl, by decide, by kernel_rfl⟩) (allOb_nil))))
theorem opC43x0 (c : CSt) (m : VM) (hJ : JJ c m) : Two say43 (say43 [49]).m (say43 [49]).ms [49] c m := by
  exact two_mk (src := srcC43x0) (run_mk frC43x0 vC43x0a obC43x0a (by decide) (.inl ⟨rfl, rfl⟩)) (run_mk frC43x0 vC43x0b obC43x0b (by decide) (.inr ⟨rfl, rfl⟩)) c m hJ
theorem one43 {x : Nat} {t : List UInt8} (hx : x < 9218868437227405312) (hf : formatM x = some t) (c : CSt) (m : VM) (hJ : JJ c m) : Two say43 (say43 t).m (say43 t).ms t c m := by
  by_cases h0 : x = 4607182418800017408
  · subst h0
    have e : formatM 4607182418800017408 = some [49] := by kernel_rfl
    rw [e] at hf
    injection hf with hf
    subst hf
    exact opC43x0 c m hJ
  refine op43 hx hf ?_ c m hJ
  intro z hz
  simp only [List.mem_cons, List.not_mem_nil, or_false] at hz
  rcases hz with rfl <;> omega
def ns52 : List Nd := [⟨0, 0, 0, 0, 0, 0, [], 0⟩, ⟨17, 0, 0, 0, 0, 0, [112, 114, 105, 110, 116], 0⟩, ⟨15, 0, 0, 0, 0, 0, [], 0⟩, ⟨15, 0, 0, 0, 0, 4607182418800017408, [], 0⟩, ⟨24, 2, 3, 0, 0, 0, [], 0⟩, ⟨19, 1, 4, 0, 0, 0, [], 0⟩, ⟨5, 5, 0, 0, 12, 0, [], 0⟩, ⟨17, 0, 0, 0, 0, 0, [112, 114, 105, 110, 116], 0⟩, ⟨16, 0, 0, 0, 0, 0, [], 0⟩, ⟨15, 0, 0, 0, 0, 4611686018427387904, [], 0⟩, ⟨24, 8, 9, 0, 0, 0, [], 0⟩, ⟨19, 7, 10, 0, 0, 0, [], 0⟩, ⟨5, 11, 0, 0, 18, 0, [], 0⟩, ⟨17, 0, 0, 0, 0, 0, [112, 114, 105, 110, 116], 0⟩, ⟨12, 0, 0, 0, 0, 0, [], 0⟩, ⟨15, 0, 0, 0, 0, 4613937818241073152, [], 0⟩, ⟨25, 14, 15, 0, 0, 0, [], 0⟩, ⟨19, 13, 16, 0, 0, 0, [], 0⟩, ⟨5, 17, 0, 0, 24, 0, [], 0⟩, ⟨17, 0, 0, 0, 0, 0, [112, 114, 105, 110, 116], 0⟩, ⟨14, 0, 0, 0, 0, 0, [], 0⟩, ⟨15, 0, 0, 0, 0, -1, [], 0⟩, ⟨25, 20, 21, 0, 0, 0, [], 0⟩, ⟨19, 19, 22, 0, 0, 0, [], 0⟩, ⟨5, 23, 0, 0, 0, 0, [], 0⟩]
def root52 : Int := 6
def rows52 : List Rw := [⟨0, 0, [], [⟨3, 0, [112, 114, 105, 110, 116]⟩, ⟨2, 0, []⟩, ⟨2, 4607182418800017408, []⟩, ⟨3, 0, []⟩, ⟨2, 4611686018427387904, []⟩, ⟨2, 4613937818241073152, []⟩, ⟨2, -1, []⟩], [(9, 0), (1, 1), (23, 4), (1, 2), (26, 1), (25, 0), (25, 0), (9, 0), (1, 3), (23, 11), (1, 4), (26, 1), (25, 0), (25, 0), (9, 0), (2, 0), (24, 18), (1, 5), (26, 1), (25, 0), (25, 0), (9, 0), (4, 0), (24, 25), (1, 6), (26, 1), (25, 0), (25, 0), (2, 0), (2, 0), (27, 0)]⟩]
def q52a (x : Nat) (t : List UInt8) : HQ := [none, none, none, some ⟨t, [], [], 0⟩]
def o52a (x : Nat) (t : List UInt8) : List Ob := [.txt ⟨2, ((x : Nat) : Int), []⟩ t, .out [49, 10, 50, 10, 51, 10] t]
def u52a (t : List UInt8) : List UInt8 := (([49, 10, 50, 10, 51, 10] ++ t) ++ [10])
def q52b (x : Nat) (t : List UInt8) : HQ := [none, none, none, none]
def o52b (x : Nat) (t : List UInt8) : List Ob := []
def u52b (t : List UInt8) : List UInt8 := [49, 10, 50, 10, 51, 10]
theorem cp52 : CompK ns52 root52 1 rows52 := by
  intro n r0 r1 r2 r3 r4 r5 r6 r7 r8 r9 r10 r11 r12
  kernel_rfl
def p52_0 : List UInt8 := [112, 114, 105, 110, 116, 40, 48, 32, 97, 110, 100, 32, 49, 41, 32, 112, 114, 105, 110, 116, 40, 34, 34, 32, 97, 110, 100, 32, 50, 41, 32, 112, 114, 105, 110, 116, 40, 110, 105, 108, 32, 111, 114, 32, 51, 41, 32, 112, 114, 105, 110, 116, 40, 102, 97, 108, 115, 101, 32, 111, 114, 32]
def p52_1 : List UInt8 := [41]
theorem lx52 (w : List UInt8) : scanW w 400 p52_0 0 0 [] = some (338, 62, 0, tkP 400 p52_0 0) := by kernel_rfl
theorem pr52 (x len : Nat) (src : List UInt8) (nodes0 : List Nd) : bind1 (bind1 (scanS 200 p52_1 (62 + len) 0 (tkP 400 p52_0 0 ++ [⟨3, 62, [], ((x : Nat) : Int), 0⟩])) (parT 400 src nodes0)) erP = some (ns52.map (nPut x), root52) := by kernel_rfl
theorem fr52 {x : Nat} {t : List UInt8} (hx : x < 9218868437227405312) (hn : NumT t) (hl : t.length ≤ 22) (hp : parseM t = some (x, 0)) (hL : newX [0, 4607182418800017408, 4611686018427387904, 4613937818241073152] x) : Front (say52 t).src 1 (rows52.map (rPut x)) := by
  refine front_mk (ns := ns52.map (nPut x)) (root := root52) ?_ (Rows.put hx (by decide) (by decide) (by kernel_rfl) (by kernel_rfl) (of_decide_eq_true (by kernel_rfl))) (fun nodes0 => ?_) (comp_open cp52 hL (fun z => hL 4607182418800017408 (by simp) z.symm) (by kernel_rfl) (by kernel_rfl))
  · show (((p52_0 ++ t) ++ p52_1)).length ≤ 2048
    simp only [List.length_append]
    have e : p52_0.length + p52_1.length ≤ 1000 := of_decide_eq_true (by kernel_rfl)
    omega
  · show bind1 (bind1 (scanL 400 ((p52_0 ++ t) ++ p52_1) 0 0 []) (parT 400 ((p52_0 ++ t) ++ p52_1) nodes0)) erP = _
    have h := pr52 x t.length ((p52_0 ++ t) ++ p52_1) nodes0
    obtain ⟨z, hz, h⟩ := bnd1 h
    obtain ⟨r, hr, hz⟩ := bnd1 hz
    refine parse_of (r := r) (ascii_app (ascii_app (ascii_of (by kernel_rfl)) (num_ascii hn)) (ascii_of (by kernel_rfl))) ?_ nodes0 ?_
    · rw [List.append_assoc]
      exact pre_step (lx52 _) (num_step hn hl (by refine ⟨?_, ?_, ?_⟩ <;> decide) hp (of_decide_eq_true (by kernel_rfl)) hr (by decide))
    · rw [hz]; exact h
theorem v52a (x : Nat) (t : List UInt8) : endR (coLA 1000 40 60 0 V.nil V.nil 0 (q52a x t) (ld1 (pgR (rows52.map (rPut x))) ts0 4)) = some ((⟨1, V.nil, 0⟩, 0, u52a t, 0, 1), [], o52a x t) := by kernel_rfl
theorem ob52a {x : Nat} {t : List UInt8} (hx : x < 9218868437227405312) (hf : formatM x = some t) (hg : formatM (negM x) = some ([45] ++ t)) (hl : t.length ≤ 22) (hp : parseM t = some (x, 0)) : allOb (o52a x t) := by
  unfold o52a
  exact allOb_cons (txt_num (Nat.lt_trans hx (by decide)) hf) (allOb_cons (by show List.length _ + List.length _ + 1 ≤ 200; simp only [List.length_append, List.length_cons, List.length_nil]; omega) (allOb_nil))
theorem v52b (x : Nat) (t : List UInt8) : endR (coLA 1000 40 60 0 V.nil V.nil 0 (q52b x t) (ld1 (pgR (rows52.map (rPut x))) ts0 3)) = some ((⟨3, V.nil, 9⟩, 0, u52b t, 0, 1), [], o52b x t) := by kernel_rfl
theorem ob52b {x : Nat} {t : List UInt8} (hx : x < 9218868437227405312) (hf : formatM x = some t) (hg : formatM (negM x) = some ([45] ++ t)) (hl : t.length ≤ 22) (hp : parseM t = some (x, 0)) : allOb (o52b x t) := by
  unfold o52b
  exact allOb_nil
theorem op52 {x : Nat} {t : List UInt8} (hx : x < 9218868437227405312) (hf : formatM x = some t) (hL : newX [0, 4607182418800017408, 4611686018427387904, 4613937818241073152] x) (c : CSt) (m : VM) (hJ : JJ c m) : Two say52 (say52 t).m (say52 t).ms t c m := by
  obtain ⟨t', f1, hn, hl, hp, hg⟩ := fmt_all hx
  rw [hf] at f1
  injection f1 with f1
  subst f1
  have ua : u52a t = (say52 t).out := by simp [u52a, say52]
  have ub : u52b t = (say52 t).short := by simp [u52b, say52]
  exact two_mk (run_mk (fr52 hx hn hl hp hL) (v52a x t) (ob52a hx hf hg hl hp) (by decide) (.inl ⟨rfl, by rw [ua]⟩)) (run_mk (fr52 hx hn hl hp hL) (v52b x t) (ob52b hx hf hg hl hp) (by decide) (.inr ⟨rfl, by rw [ub]⟩)) c m hJ
def nsC52x0 : List Nd := [⟨0, 0, 0, 0, 0, 0, [], 0⟩, ⟨17, 0, 0, 0, 0, 0, [112, 114, 105, 110, 116], 0⟩, ⟨15, 0, 0, 0, 0, 0, [], 0⟩, ⟨15, 0, 0, 0, 0, 4607182418800017408, [], 0⟩, ⟨24, 2, 3, 0, 0, 0, [], 0⟩, ⟨19, 1, 4, 0, 0, 0, [], 0⟩, ⟨5, 5, 0, 0, 12, 0, [], 0⟩, ⟨17, 0, 0, 0, 0, 0, [112, 114, 105, 110, 116], 0⟩, ⟨16, 0, 0, 0, 0, 0, [], 0⟩, ⟨15, 0, 0, 0, 0, 4611686018427387904, [], 0⟩, ⟨24, 8, 9, 0, 0, 0, [], 0⟩, ⟨19, 7, 10, 0, 0, 0, [], 0⟩, ⟨5, 11, 0, 0, 18, 0, [], 0⟩, ⟨17, 0, 0, 0, 0, 0, [112, 114, 105, 110, 116], 0⟩, ⟨12, 0, 0, 0, 0, 0, [], 0⟩, ⟨15, 0, 0, 0, 0, 4613937818241073152, [], 0⟩, ⟨25, 14, 15, 0, 0, 0, [], 0⟩, ⟨19, 13, 16, 0, 0, 0, [], 0⟩, ⟨5, 17, 0, 0, 24, 0, [], 0⟩, ⟨17, 0, 0, 0, 0, 0, [112, 114, 105, 110, 116], 0⟩, ⟨14, 0, 0, 0, 0, 0, [], 0⟩, ⟨15, 0, 0, 0, 0, 0, [], 0⟩, ⟨25, 20, 21, 0, 0, 0, [], 0⟩, ⟨19, 19, 22, 0, 0, 0, [], 0⟩, ⟨5, 23, 0, 0, 0, 0, [], 0⟩]
def rootC52x0 : Int := 6
def rowsC52x0 : List Rw := [⟨0, 0, [], [⟨3, 0, [112, 114, 105, 110, 116]⟩, ⟨2, 0, []⟩, ⟨2, 4607182418800017408, []⟩, ⟨3, 0, []⟩, ⟨2, 4611686018427387904, []⟩, ⟨2, 4613937818241073152, []⟩], [(9, 0), (1, 1), (23, 4), (1, 2), (26, 1), (25, 0), (25, 0), (9, 0), (1, 3), (23, 11), (1, 4), (26, 1), (25, 0), (25, 0), (9, 0), (2, 0), (24, 18), (1, 5), (26, 1), (25, 0), (25, 0), (9, 0), (4, 0), (24, 25), (1, 1), (26, 1), (25, 0), (25, 0), (2, 0), (2, 0), (27, 0)]⟩]
def srcC52x0 : List UInt8 := [112, 114, 105, 110, 116, 40, 48, 32, 97, 110, 100, 32, 49, 41, 32, 112, 114, 105, 110, 116, 40, 34, 34, 32, 97, 110, 100, 32, 50, 41, 32, 112, 114, 105, 110, 116, 40, 110, 105, 108, 32, 111, 114, 32, 51, 41, 32, 112, 114, 105, 110, 116, 40, 102, 97, 108, 115, 101, 32, 111, 114, 32, 48, 41]
def qC52x0a : HQ := List.replicate 4 none
def oC52x0a : List Ob := []
def uC52x0a : List UInt8 := [49, 10, 50, 10, 51, 10, 48, 10]
def qC52x0b : HQ := List.replicate 4 none
def oC52x0b : List Ob := []
def uC52x0b : List UInt8 := [49, 10, 50, 10, 51, 10]
theorem cpC52x0 : CompK nsC52x0 rootC52x0 1 rowsC52x0 := by
  intro n r0 r1 r2 r3 r4 r5 r6 r7 r8 r9 r10 r11 r12
  kernel_rfl
theorem prC52x0 (src : List UInt8) (nodes0 : List Nd) : bind1 (bind1 (scanS 400 srcC52x0 0 0 []) (parT 400 src nodes0)) erP = some (nsC52x0, rootC52x0) := by kernel_rfl
theorem frC52x0 : Front srcC52x0 1 rowsC52x0 := by
  have e : rowsC52x0.map (rPut ((0 : Nat) : Int)) = rowsC52x0 := by kernel_rfl
  refine front_mk (ns := nsC52x0) (root := rootC52x0) (of_decide_eq_true (by kernel_rfl)) (e ▸ Rows.put (x := 0) (by decide) (by decide) (by decide) (by kernel_rfl) (by kernel_rfl) (of_decide_eq_true (by kernel_rfl))) (fun nodes0 => ?_) cpC52x0.all
  obtain ⟨z, hz, h⟩ := bnd1 (prC52x0 srcC52x0 nodes0)
  obtain ⟨r, hr, hz⟩ := bnd1 hz
  exact parse_of (ascii_of (by kernel_rfl)) hr nodes0 (by rw [hz]; exact h)
theorem vC52x0a : endR (coLA 1000 40 60 0 V.nil V.nil 0 qC52x0a (ld1 (pgR rowsC52x0) ts0 4)) = some ((⟨1, V.nil, 0⟩, 0, uC52x0a, 0, 1), [], oC52x0a) := by kernel_rfl
theorem obC52x0a : allOb oC52x0a := by
  unfold oC52x0a
  exact allOb_nil
theorem vC52x0b : endR (coLA 1000 40 60 0 V.nil V.nil 0 qC52x0b (ld1 (pgR rowsC52x0) ts0 3)) = some ((⟨3, V.nil, 9⟩, 0, uC52x0b, 0, 1), [], oC52x0b) := by kernel_rfl
theorem obC52x0b : allOb oC52x0b := by
  unfold oC52x0b
  exact allOb_nil
theorem opC52x0 (c : CSt) (m : VM) (hJ : JJ c m) : Two say52 (say52 [48]).m (say52 [48]).ms [48] c m := by
  exact two_mk (src := srcC52x0) (run_mk frC52x0 vC52x0a obC52x0a (by decide) (.inl ⟨rfl, rfl⟩)) (run_mk frC52x0 vC52x0b obC52x0b (by decide) (.inr ⟨rfl, rfl⟩)) c m hJ
def nsC52x1 : List Nd := [⟨0, 0, 0, 0, 0, 0, [], 0⟩, ⟨17, 0, 0, 0, 0, 0, [112, 114, 105, 110, 116], 0⟩, ⟨15, 0, 0, 0, 0, 0, [], 0⟩, ⟨15, 0, 0, 0, 0, 4607182418800017408, [], 0⟩, ⟨24, 2, 3, 0, 0, 0, [], 0⟩, ⟨19, 1, 4, 0, 0, 0, [], 0⟩, ⟨5, 5, 0, 0, 12, 0, [], 0⟩, ⟨17, 0, 0, 0, 0, 0, [112, 114, 105, 110, 116], 0⟩, ⟨16, 0, 0, 0, 0, 0, [], 0⟩, ⟨15, 0, 0, 0, 0, 4611686018427387904, [], 0⟩, ⟨24, 8, 9, 0, 0, 0, [], 0⟩, ⟨19, 7, 10, 0, 0, 0, [], 0⟩, ⟨5, 11, 0, 0, 18, 0, [], 0⟩, ⟨17, 0, 0, 0, 0, 0, [112, 114, 105, 110, 116], 0⟩, ⟨12, 0, 0, 0, 0, 0, [], 0⟩, ⟨15, 0, 0, 0, 0, 4613937818241073152, [], 0⟩, ⟨25, 14, 15, 0, 0, 0, [], 0⟩, ⟨19, 13, 16, 0, 0, 0, [], 0⟩, ⟨5, 17, 0, 0, 24, 0, [], 0⟩, ⟨17, 0, 0, 0, 0, 0, [112, 114, 105, 110, 116], 0⟩, ⟨14, 0, 0, 0, 0, 0, [], 0⟩, ⟨15, 0, 0, 0, 0, 4607182418800017408, [], 0⟩, ⟨25, 20, 21, 0, 0, 0, [], 0⟩, ⟨19, 19, 22, 0, 0, 0, [], 0⟩, ⟨5, 23, 0, 0, 0, 0, [], 0⟩]
def rootC52x1 : Int := 6
def rowsC52x1 : List Rw := [⟨0, 0, [], [⟨3, 0, [112, 114, 105, 110, 116]⟩, ⟨2, 0, []⟩, ⟨2, 4607182418800017408, []⟩, ⟨3, 0, []⟩, ⟨2, 4611686018427387904, []⟩, ⟨2, 4613937818241073152, []⟩], [(9, 0), (1, 1), (23, 4), (1, 2), (26, 1), (25, 0), (25, 0), (9, 0), (1, 3), (23, 11), (1, 4), (26, 1), (25, 0), (25, 0), (9, 0), (2, 0), (24, 18), (1, 5), (26, 1), (25, 0), (25, 0), (9, 0), (4, 0), (24, 25), (1, 2), (26, 1), (25, 0), (25, 0), (2, 0), (2, 0), (27, 0)]⟩]
def srcC52x1 : List UInt8 := [112, 114, 105, 110, 116, 40, 48, 32, 97, 110, 100, 32, 49, 41, 32, 112, 114, 105, 110, 116, 40, 34, 34, 32, 97, 110, 100, 32, 50, 41, 32, 112, 114, 105, 110, 116, 40, 110, 105, 108, 32, 111, 114, 32, 51, 41, 32, 112, 114, 105, 110, 116, 40, 102, 97, 108, 115, 101, 32, 111, 114, 32, 49, 41]
def qC52x1a : HQ := List.replicate 4 none
def oC52x1a : List Ob := []
def uC52x1a : List UInt8 := [49, 10, 50, 10, 51, 10, 49, 10]
def qC52x1b : HQ := List.replicate 4 none
def oC52x1b : List Ob := []
def uC52x1b : List UInt8 := [49, 10, 50, 10, 51, 10]
theorem cpC52x1 : CompK nsC52x1 rootC52x1 1 rowsC52x1 := by
  intro n r0 r1 r2 r3 r4 r5 r6 r7 r8 r9 r10 r11 r12
  kernel_rfl
theorem prC52x1 (src : List UInt8) (nodes0 : List Nd) : bind1 (bind1 (scanS 400 srcC52x1 0 0 []) (parT 400 src nodes0)) erP = some (nsC52x1, rootC52x1) := by kernel_rfl
theorem frC52x1 : Front srcC52x1 1 rowsC52x1 := by
  have e : rowsC52x1.map (rPut ((0 : Nat) : Int)) = rowsC52x1 := by kernel_rfl
  refine front_mk (ns := nsC52x1) (root := rootC52x1) (of_decide_eq_true (by kernel_rfl)) (e ▸ Rows.put (x := 0) (by decide) (by decide) (by decide) (by kernel_rfl) (by kernel_rfl) (of_decide_eq_true (by kernel_rfl))) (fun nodes0 => ?_) cpC52x1.all
  obtain ⟨z, hz, h⟩ := bnd1 (prC52x1 srcC52x1 nodes0)
  obtain ⟨r, hr, hz⟩ := bnd1 hz
  exact parse_of (ascii_of (by kernel_rfl)) hr nodes0 (by rw [hz]; exact h)
theorem vC52x1a : endR (coLA 1000 40 60 0 V.nil V.nil 0 qC52x1a (ld1 (pgR rowsC52x1) ts0 4)) = some ((⟨1, V.nil, 0⟩, 0, uC52x1a, 0, 1), [], oC52x1a) := by kernel_rfl
theorem obC52x1a : allOb oC52x1a := by
  unfold oC52x1a
  exact allOb_nil
theorem vC52x1b : endR (coLA 1000 40 60 0 V.nil V.nil 0 qC52x1b (ld1 (pgR rowsC52x1) ts0 3)) = some ((⟨3, V.nil, 9⟩, 0, uC52x1b, 0, 1), [], oC52x1b) := by kernel_rfl
theorem obC52x1b : allOb oC52x1b := by
  unfold oC52x1b
  exact allOb_nil
theorem opC52x1 (c : CSt) (m : VM) (hJ : JJ c m) : Two say52 (say52 [49]).m (say52 [49]).ms [49] c m := by
  exact two_mk (src := srcC52x1) (run_mk frC52x1 vC52x1a obC52x1a (by decide) (.inl ⟨rfl, rfl⟩)) (run_mk frC52x1 vC52x1b obC52x1b (by decide) (.inr ⟨rfl, rfl⟩)) c m hJ
def nsC52x2 : List Nd := [⟨0, 0, 0, 0, 0, 0, [], 0⟩, ⟨17, 0, 0, 0, 0, 0, [112, 114, 105, 110, 116], 0⟩, ⟨15, 0, 0, 0, 0, 0, [], 0⟩, ⟨15, 0, 0, 0, 0, 4607182418800017408, [], 0⟩, ⟨24, 2, 3, 0, 0, 0, [], 0⟩, ⟨19, 1, 4, 0, 0, 0, [], 0⟩, ⟨5, 5, 0, 0, 12, 0, [], 0⟩, ⟨17, 0, 0, 0, 0, 0, [112, 114, 105, 110, 116], 0⟩, ⟨16, 0, 0, 0, 0, 0, [], 0⟩, ⟨15, 0, 0, 0, 0, 4611686018427387904, [], 0⟩, ⟨24, 8, 9, 0, 0, 0, [], 0⟩, ⟨19, 7, 10, 0, 0, 0, [], 0⟩, ⟨5, 11, 0, 0, 18, 0, [], 0⟩, ⟨17, 0, 0, 0, 0, 0, [112, 114, 105, 110, 116], 0⟩, ⟨12, 0, 0, 0, 0, 0, [], 0⟩, ⟨15, 0, 0, 0, 0, 4613937818241073152, [], 0⟩, ⟨25, 14, 15, 0, 0, 0, [], 0⟩, ⟨19, 13, 16, 0, 0, 0, [], 0⟩, ⟨5, 17, 0, 0, 24, 0, [], 0⟩, ⟨17, 0, 0, 0, 0, 0, [112, 114, 105, 110, 116], 0⟩, ⟨14, 0, 0, 0, 0, 0, [], 0⟩, ⟨15, 0, 0, 0, 0, 4611686018427387904, [], 0⟩, ⟨25, 20, 21, 0, 0, 0, [], 0⟩, ⟨19, 19, 22, 0, 0, 0, [], 0⟩, ⟨5, 23, 0, 0, 0, 0, [], 0⟩]
def rootC52x2 : Int := 6
def rowsC52x2 : List Rw := [⟨0, 0, [], [⟨3, 0, [112, 114, 105, 110, 116]⟩, ⟨2, 0, []⟩, ⟨2, 4607182418800017408, []⟩, ⟨3, 0, []⟩, ⟨2, 4611686018427387904, []⟩, ⟨2, 4613937818241073152, []⟩], [(9, 0), (1, 1), (23, 4), (1, 2), (26, 1), (25, 0), (25, 0), (9, 0), (1, 3), (23, 11), (1, 4), (26, 1), (25, 0), (25, 0), (9, 0), (2, 0), (24, 18), (1, 5), (26, 1), (25, 0), (25, 0), (9, 0), (4, 0), (24, 25), (1, 4), (26, 1), (25, 0), (25, 0), (2, 0), (2, 0), (27, 0)]⟩]
def srcC52x2 : List UInt8 := [112, 114, 105, 110, 116, 40, 48, 32, 97, 110, 100, 32, 49, 41, 32, 112, 114, 105, 110, 116, 40, 34, 34, 32, 97, 110, 100, 32, 50, 41, 32, 112, 114, 105, 110, 116, 40, 110, 105, 108, 32, 111, 114, 32, 51, 41, 32, 112, 114, 105, 110, 116, 40, 102, 97, 108, 115, 101, 32, 111, 114, 32, 50, 41]
def qC52x2a : HQ := List.replicate 4 none
def oC52x2a : List Ob := []
def uC52x2a : List UInt8 := [49, 10, 50, 10, 51, 10, 50, 10]
def qC52x2b : HQ := List.replicate 4 none
def oC52x2b : List Ob := []
def uC52x2b : List UInt8 := [49, 10, 50, 10, 51, 10]
theorem cpC52x2 : CompK nsC52x2 rootC52x2 1 rowsC52x2 := by
  intro n r0 r1 r2 r3 r4 r5 r6 r7 r8 r9 r10 r11 r12
  kernel_rfl
theorem prC52x2 (src : List UInt8) (nodes0 : List Nd) : bind1 (bind1 (scanS 400 srcC52x2 0 0 []) (parT 400 src nodes0)) erP = some (nsC52x2, rootC52x2) := by kernel_rfl
theorem frC52x2 : Front srcC52x2 1 rowsC52x2 := by
  have e : rowsC52x2.map (rPut ((0 : Nat) : Int)) = rowsC52x2 := by kernel_rfl
  refine front_mk (ns := nsC52x2) (root := rootC52x2) (of_decide_eq_true (by kernel_rfl)) (e ▸ Rows.put (x := 0) (by decide) (by decide) (by decide) (by kernel_rfl) (by kernel_rfl) (of_decide_eq_true (by kernel_rfl))) (fun nodes0 => ?_) cpC52x2.all
  obtain ⟨z, hz, h⟩ := bnd1 (prC52x2 srcC52x2 nodes0)
  obtain ⟨r, hr, hz⟩ := bnd1 hz
  exact parse_of (ascii_of (by kernel_rfl)) hr nodes0 (by rw [hz]; exact h)
theorem vC52x2a : endR (coLA 1000 40 60 0 V.nil V.nil 0 qC52x2a (ld1 (pgR rowsC52x2) ts0 4)) = some ((⟨1, V.nil, 0⟩, 0, uC52x2a, 0, 1), [], oC52x2a) := by kernel_rfl
theorem obC52x2a : allOb oC52x2a := by
  unfold oC52x2a
  exact allOb_nil
theorem vC52x2b : endR (coLA 1000 40 60 0 V.nil V.nil 0 qC52x2b (ld1 (pgR rowsC52x2) ts0 3)) = some ((⟨3, V.nil, 9⟩, 0, uC52x2b, 0, 1), [], oC52x2b) := by kernel_rfl
theorem obC52x2b : allOb oC52x2b := by
  unfold oC52x2b
  exact allOb_nil
theorem opC52x2 (c : CSt) (m : VM) (hJ : JJ c m) : Two say52 (say52 [50]).m (say52 [50]).ms [50] c m := by
  exact two_mk (src := srcC52x2) (run_mk frC52x2 vC52x2a obC52x2a (by decide) (.inl ⟨rfl, rfl⟩)) (run_mk frC52x2 vC52x2b obC52x2b (by decide) (.inr ⟨rfl, rfl⟩)) c m hJ
def nsC52x3 : List Nd := [⟨0, 0, 0, 0, 0, 0, [], 0⟩, ⟨17, 0, 0, 0, 0, 0, [112, 114, 105, 110, 116], 0⟩, ⟨15, 0, 0, 0, 0, 0, [], 0⟩, ⟨15, 0, 0, 0, 0, 4607182418800017408, [], 0⟩, ⟨24, 2, 3, 0, 0, 0, [], 0⟩, ⟨19, 1, 4, 0, 0, 0, [], 0⟩, ⟨5, 5, 0, 0, 12, 0, [], 0⟩, ⟨17, 0, 0, 0, 0, 0, [112, 114, 105, 110, 116], 0⟩, ⟨16, 0, 0, 0, 0, 0, [], 0⟩, ⟨15, 0, 0, 0, 0, 4611686018427387904, [], 0⟩, ⟨24, 8, 9, 0, 0, 0, [], 0⟩, ⟨19, 7, 10, 0, 0, 0, [], 0⟩, ⟨5, 11, 0, 0, 18, 0, [], 0⟩, ⟨17, 0, 0, 0, 0, 0, [112, 114, 105, 110, 116], 0⟩, ⟨12, 0, 0, 0, 0, 0, [], 0⟩, ⟨15, 0, 0, 0, 0, 4613937818241073152, [], 0⟩, ⟨25, 14, 15, 0, 0, 0, [], 0⟩, ⟨19, 13, 16, 0, 0, 0, [], 0⟩, ⟨5, 17, 0, 0, 24, 0, [], 0⟩, ⟨17, 0, 0, 0, 0, 0, [112, 114, 105, 110, 116], 0⟩, ⟨14, 0, 0, 0, 0, 0, [], 0⟩, ⟨15, 0, 0, 0, 0, 4613937818241073152, [], 0⟩, ⟨25, 20, 21, 0, 0, 0, [], 0⟩, ⟨19, 19, 22, 0, 0, 0, [], 0⟩, ⟨5, 23, 0, 0, 0, 0, [], 0⟩]
def rootC52x3 : Int := 6
def rowsC52x3 : List Rw := [⟨0, 0, [], [⟨3, 0, [112, 114, 105, 110, 116]⟩, ⟨2, 0, []⟩, ⟨2, 4607182418800017408, []⟩, ⟨3, 0, []⟩, ⟨2, 4611686018427387904, []⟩, ⟨2, 4613937818241073152, []⟩], [(9, 0), (1, 1), (23, 4), (1, 2), (26, 1), (25, 0), (25, 0), (9, 0), (1, 3), (23, 11), (1, 4), (26, 1), (25, 0), (25, 0), (9, 0), (2, 0), (24, 18), (1, 5), (26, 1), (25, 0), (25, 0), (9, 0), (4, 0), (24, 25), (1, 5), (26, 1), (25, 0), (25, 0), (2, 0), (2, 0), (27, 0)]⟩]
def srcC52x3 : List UInt8 := [112, 114, 105, 110, 116, 40, 48, 32, 97, 110, 100, 32, 49, 41, 32, 112, 114, 105, 110, 116, 40, 34, 34, 32, 97, 110, 100, 32, 50, 41, 32, 112, 114, 105, 110, 116, 40, 110, 105, 108, 32, 111, 114, 32, 51, 41, 32, 112, 114, 105, 110, 116, 40, 102, 97, 108, 115, 101, 32, 111, 114, 32, 51, 41]
def qC52x3a : HQ := List.replicate 4 none
def oC52x3a : List Ob := []
def uC52x3a : List UInt8 := [49, 10, 50, 10, 51, 10, 51, 10]
def qC52x3b : HQ := List.replicate 4 none
def oC52x3b : List Ob := []
def uC52x3b : List UInt8 := [49, 10, 50, 10, 51, 10]
theorem cpC52x3 : CompK nsC52x3 rootC52x3 1 rowsC52x3 := by
  intro n r0 r1 r2 r3 r4 r5 r6 r7 r8 r9 r10 r11 r12
  kernel_rfl
theorem prC52x3 (src : List UInt8) (nodes0 : List Nd) : bind1 (bind1 (scanS 400 srcC52x3 0 0 []) (parT 400 src nodes0)) erP = some (nsC52x3, rootC52x3) := by kernel_rfl
theorem frC52x3 : Front srcC52x3 1 rowsC52x3 := by
  have e : rowsC52x3.map (rPut ((0 : Nat) : Int)) = rowsC52x3 := by kernel_rfl
  refine front_mk (ns := nsC52x3) (root := rootC52x3) (of_decide_eq_true (by kernel_rfl)) (e ▸ Rows.put (x := 0) (by decide) (by decide) (by decide) (by kernel_rfl) (by kernel_rfl) (of_decide_eq_true (by kernel_rfl))) (fun nodes0 => ?_) cpC52x3.all
  obtain ⟨z, hz, h⟩ := bnd1 (prC52x3 srcC52x3 nodes0)
  obtain ⟨r, hr, hz⟩ := bnd1 hz
  exact parse_of (ascii_of (by kernel_rfl)) hr nodes0 (by rw [hz]; exact h)
theorem vC52x3a : endR (coLA 1000 40 60 0 V.nil V.nil 0 qC52x3a (ld1 (pgR rowsC52x3) ts0 4)) = some ((⟨1, V.nil, 0⟩, 0, uC52x3a, 0, 1), [], oC52x3a) := by kernel_rfl
theorem obC52x3a : allOb oC52x3a := by
  unfold oC52x3a
  exact allOb_nil
theorem vC52x3b : endR (coLA 1000 40 60 0 V.nil V.nil 0 qC52x3b (ld1 (pgR rowsC52x3) ts0 3)) = some ((⟨3, V.nil, 9⟩, 0, uC52x3b, 0, 1), [], oC52x3b) := by kernel_rfl
theorem obC52x3b : allOb oC52x3b := by
  unfold oC52x3b
  exact allOb_nil
theorem opC52x3 (c : CSt) (m : VM) (hJ : JJ c m) : Two say52 (say52 [51]).m (say52 [51]).ms [51] c m := by
  exact two_mk (src := srcC52x3) (run_mk frC52x3 vC52x3a obC52x3a (by decide) (.inl ⟨rfl, rfl⟩)) (run_mk frC52x3 vC52x3b obC52x3b (by decide) (.inr ⟨rfl, rfl⟩)) c m hJ
theorem one52 {x : Nat} {t : List UInt8} (hx : x < 9218868437227405312) (hf : formatM x = some t) (c : CSt) (m : VM) (hJ : JJ c m) : Two say52 (say52 t).m (say52 t).ms t c m := by
  by_cases h0 : x = 0
  · subst h0
    have e : formatM 0 = some [48] := by kernel_rfl
    rw [e] at hf
    injection hf with hf
    subst hf
    exact opC52x0 c m hJ
  by_cases h1 : x = 4607182418800017408
  · subst h1
    have e : formatM 4607182418800017408 = some [49] := by kernel_rfl
    rw [e] at hf
    injection hf with hf
    subst hf
    exact opC52x1 c m hJ
  by_cases h2 : x = 4611686018427387904
  · subst h2
    have e : formatM 4611686018427387904 = some [50] := by kernel_rfl
    rw [e] at hf
    injection hf with hf
    subst hf
    exact opC52x2 c m hJ
  by_cases h3 : x = 4613937818241073152
  · subst h3
    have e : formatM 4613937818241073152 = some [51] := by kernel_rfl
    rw [e] at hf
    injection hf with hf
    subst hf
    exact opC52x3 c m hJ
  refine op52 hx hf ?_ c m hJ
  intro z hz
  simp only [List.mem_cons, List.not_mem_nil, or_false] at hz
  rcases hz with rfl | rfl | rfl | rfl <;> omega
end Go.Wl
