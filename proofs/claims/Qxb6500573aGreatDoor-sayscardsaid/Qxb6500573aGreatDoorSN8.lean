/- Plain: sentences (made by program). -/
import Derived.Test.Qxb6500573aGreatDoorBY
set_option linter.unusedSimpArgs false
set_option linter.unusedVariables false
set_option linter.unusedSectionVars false
namespace Go.Wl
open Go Go.Sl Go.Proofs
set_option linter.unusedVariables false
set_option linter.unusedSimpArgs false
set_option maxRecDepth 100000
def ns9 : List Nd := [⟨0, 0, 0, 0, 0, 0, [], 0⟩, ⟨1, 0, 0, 0, 13, 0, [103], 0⟩, ⟨13, 0, 0, 0, 0, 0, [], 0⟩, ⟨15, 0, 0, 0, 0, -1, [], 0⟩, ⟨1, 3, 0, 0, 6, 0, [120], 0⟩, ⟨15, 0, 0, 0, 0, 0, [], 0⟩, ⟨1, 5, 0, 0, 11, 0, [121], 0⟩, ⟨17, 0, 0, 0, 0, 0, [103], 0⟩, ⟨17, 0, 0, 0, 0, 0, [120], 0⟩, ⟨10, 8, 0, 0, 0, 0, [], 0⟩, ⟨20, 0, 9, 0, 0, 1, [], 0⟩, ⟨4, 7, 10, 0, 12, 0, [], 0⟩, ⟨11, 0, 0, 0, 0, 0, [], 0⟩, ⟨7, 2, 4, 0, 15, 0, [], 0⟩, ⟨15, 0, 0, 0, 0, 0, [], 0⟩, ⟨1, 14, 0, 0, 20, 0, [122], 0⟩, ⟨17, 0, 0, 0, 0, 0, [112, 114, 105, 110, 116], 0⟩, ⟨17, 0, 0, 0, 0, 0, [103], 0⟩, ⟨19, 17, 0, 0, 0, 0, [], 0⟩, ⟨19, 16, 18, 0, 0, 0, [], 0⟩, ⟨5, 19, 0, 0, 0, 0, [], 0⟩]
def root9 : Int := 1
def rows9 : List Rw := [⟨0, 3, [], [⟨2, -1, []⟩, ⟨2, 0, []⟩, ⟨3, 0, [112, 114, 105, 110, 116]⟩], [(2, 0), (6, 0), (3, 0), (22, 14), (1, 0), (6, 1), (1, 1), (6, 2), (28, 1), (6, 0), (29, 1), (21, 14), (29, 1), (21, 2), (1, 1), (6, 1), (9, 2), (5, 0), (26, 0), (25, 0), (26, 1), (25, 0), (25, 0), (29, 0), (2, 0), (2, 0), (27, 0)]⟩, ⟨0, 0, [(1, 1)], [], [(7, 0), (2, 0), (27, 0), (2, 0), (2, 0), (27, 0)]⟩]
def q9a (x : Nat) (t : List UInt8) : HQ := [some ⟨t, [], [], 0⟩]
def o9a (x : Nat) (t : List UInt8) : List Ob := [.txt ⟨2, ((x : Nat) : Int), []⟩ t, .out [] t]
def u9a (t : List UInt8) : List UInt8 := (([] ++ t) ++ [10])
def q9b (x : Nat) (t : List UInt8) : HQ := [none]
def o9b (x : Nat) (t : List UInt8) : List Ob := []
def u9b (t : List UInt8) : List UInt8 := []
theorem cp9 : CompK ns9 root9 2 rows9 := by
  intro n r0 r1 r2 r3 r4 r5 r6 r7 r8 r9 r10 r11 r12
  kernel_rfl
def p9_0 : List UInt8 := [108, 111, 99, 97, 108, 32, 103, 32, 119, 104, 105, 108, 101, 32, 116, 114, 117, 101, 32, 100, 111, 32, 108, 111, 99, 97, 108, 32, 120, 32, 61, 32]
def p9_1 : List UInt8 := [32, 108, 111, 99, 97, 108, 32, 121, 32, 61, 32, 48, 32, 103, 32, 61, 32, 102, 117, 110, 99, 116, 105, 111, 110, 40, 41, 32, 114, 101, 116, 117, 114, 110, 32, 120, 32, 101, 110, 100, 32, 98, 114, 101, 97, 107, 32, 101, 110, 100, 32, 108, 111, 99, 97, 108, 32, 122, 32, 61, 32, 48, 32, 112, 114, 105, 110, 116, 40, 103, 40, 41, 41]
theorem lx9 (w : List UInt8) : scanW w 400 p9_0 0 0 [] = some (368, 32, 0, tkP 400 p9_0 0) := by kernel_rfl
theorem pr9 (x len : Nat) (src : List UInt8) (nodes0 : List Nd) : bind1 (bind1 (scanS 200 p9_1 (32 + len) 0 (tkP 400 p9_0 0 ++ [⟨3, 32, [], ((x : Nat) : Int), 0⟩])) (parT 400 src nodes0)) erP = some (ns9.map (nPut x), root9) := by kernel_rfl
theorem fr9 {x : Nat} {t : List UInt8} (hx : x < 9218868437227405312) (hn : NumT t) (hl : t.length ≤ 22) (hp : parseM t = some (x, 0)) (hL : newX [0, 4607182418800017408] x) : Front (say9 t).src 2 (rows9.map (rPut x)) := by
  refine front_mk (ns := ns9.map (nPut x)) (root := root9) ?_ (Rows.put hx (by decide) (by decide) (by kernel_rfl) (by kernel_rfl) (of_decide_eq_true (by kernel_rfl))) (fun nodes0 => ?_) (comp_open cp9 hL (fun z => hL 4607182418800017408 (by simp) z.symm) (by kernel_rfl) (by kernel_rfl))
  · show (((p9_0 ++ t) ++ p9_1)).length ≤ 2048
    simp only [List.length_append]
    have e : p9_0.length + p9_1.length ≤ 1000 := of_decide_eq_true (by kernel_rfl)
    omega
  · show bind1 (bind1 (scanL 400 ((p9_0 ++ t) ++ p9_1) 0 0 []) (parT 400 ((p9_0 ++ t) ++ p9_1) nodes0)) erP = _
    have h := pr9 x t.length ((p9_0 ++ t) ++ p9_1) nodes0
    obtain ⟨z, hz, h⟩ := bnd1 h
    obtain ⟨r, hr, hz⟩ := bnd1 hz
    refine parse_of (r := r) (ascii_app (ascii_app (ascii_of (by kernel_rfl)) (num_ascii hn)) (ascii_of (by kernel_rfl))) ?_ nodes0 ?_
    · rw [List.append_assoc]
      exact pre_step (lx9 _) (num_step hn hl (by refine ⟨?_, ?_, ?_⟩ <;> decide) hp (of_decide_eq_true (by kernel_rfl)) hr (by decide))
    · rw [hz]; exact h
theorem v9a (x : Nat) (t : List UInt8) : endR (coLA 1000 40 60 0 V.nil V.nil 0 (q9a x t) (ld1 (pgR (rows9.map (rPut x))) ts0 2)) = some ((⟨1, V.nil, 0⟩, 0, u9a t, 0, 1), [], o9a x t) := by kernel_rfl
theorem ob9a {x : Nat} {t : List UInt8} (hx : x < 9218868437227405312) (hf : formatM x = some t) (hg : formatM (negM x) = some ([45] ++ t)) (hl : t.length ≤ 22) (hp : parseM t = some (x, 0)) : allOb (o9a x t) := by
  unfold o9a
  exact allOb_cons (txt_num (Nat.lt_trans hx (by decide)) hf) (allOb_cons (by show List.length _ + List.length _ + 1 ≤ 200; simp only [List.length_append, List.length_cons, List.length_nil]; omega) (allOb_nil))
theorem v9b (x : Nat) (t : List UInt8) : endR (coLA 1000 40 60 0 V.nil V.nil 0 (q9b x t) (ld1 (pgR (rows9.map (rPut x))) ts0 1)) = some ((⟨3, V.nil, 9⟩, 0, u9b t, 0, 1), [], o9b x t) := by kernel_rfl
theorem ob9b {x : Nat} {t : List UInt8} (hx : x < 9218868437227405312) (hf : formatM x = some t) (hg : formatM (negM x) = some ([45] ++ t)) (hl : t.length ≤ 22) (hp : parseM t = some (x, 0)) : allOb (o9b x t) := by
  unfold o9b
  exact allOb_nil
theorem op9 {x : Nat} {t : List UInt8} (hx : x < 9218868437227405312) (hf : formatM x = some t) (hL : newX [0, 4607182418800017408] x) (c : CSt) (m : VM) (hJ : JJ c m) : Two say9 0 0 t c m := by
  obtain ⟨t', f1, hn, hl, hp, hg⟩ := fmt_all hx
  rw [hf] at f1
  injection f1 with f1
  subst f1
  have ua : u9a t = (say9 t).out := by simp [u9a, say9]
  have ub : u9b t = (say9 t).short := by simp [u9b, say9]
  exact two_mk (run_mk (fr9 hx hn hl hp hL) (v9a x t) (ob9a hx hf hg hl hp) (by decide) (.inl ⟨rfl, by rw [ua]⟩)) (run_mk (fr9 hx hn hl hp hL) (v9b x t) (ob9b hx hf hg hl hp) (by decide) (.inr ⟨rfl, by rw [ub]⟩)) c m hJ
def nsC9x0 : List Nd := [⟨0, 0, 0, 0, 0, 0, [], 0⟩, ⟨1, 0, 0, 0, 13, 0, [103], 0⟩, ⟨13, 0, 0, 0, 0, 0, [], 0⟩, ⟨15, 0, 0, 0, 0, 0, [], 0⟩, ⟨1, 3, 0, 0, 6, 0, [120], 0⟩, ⟨15, 0, 0, 0, 0, 0, [], 0⟩, ⟨1, 5, 0, 0, 11, 0, [121], 0⟩, ⟨17, 0, 0, 0, 0, 0, [103], 0⟩, ⟨17, 0, 0, 0, 0, 0, [120], 0⟩, ⟨10, 8, 0, 0, 0, 0, [], 0⟩, ⟨20, 0, 9, 0, 0, 1, [], 0⟩, ⟨4, 7, 10, 0, 12, 0, [], 0⟩, ⟨11, 0, 0, 0, 0, 0, [], 0⟩, ⟨7, 2, 4, 0, 15, 0, [], 0⟩, ⟨15, 0, 0, 0, 0, 0, [], 0⟩, ⟨1, 14, 0, 0, 20, 0, [122], 0⟩, ⟨17, 0, 0, 0, 0, 0, [112, 114, 105, 110, 116], 0⟩, ⟨17, 0, 0, 0, 0, 0, [103], 0⟩, ⟨19, 17, 0, 0, 0, 0, [], 0⟩, ⟨19, 16, 18, 0, 0, 0, [], 0⟩, ⟨5, 19, 0, 0, 0, 0, [], 0⟩]
def rootC9x0 : Int := 1
def rowsC9x0 : List Rw := [⟨0, 3, [], [⟨2, 0, []⟩, ⟨3, 0, [112, 114, 105, 110, 116]⟩], [(2, 0), (6, 0), (3, 0), (22, 14), (1, 0), (6, 1), (1, 0), (6, 2), (28, 1), (6, 0), (29, 1), (21, 14), (29, 1), (21, 2), (1, 0), (6, 1), (9, 1), (5, 0), (26, 0), (25, 0), (26, 1), (25, 0), (25, 0), (29, 0), (2, 0), (2, 0), (27, 0)]⟩, ⟨0, 0, [(1, 1)], [], [(7, 0), (2, 0), (27, 0), (2, 0), (2, 0), (27, 0)]⟩]
def srcC9x0 : List UInt8 := [108, 111, 99, 97, 108, 32, 103, 32, 119, 104, 105, 108, 101, 32, 116, 114, 117, 101, 32, 100, 111, 32, 108, 111, 99, 97, 108, 32, 120, 32, 61, 32, 48, 32, 108, 111, 99, 97, 108, 32, 121, 32, 61, 32, 48, 32, 103, 32, 61, 32, 102, 117, 110, 99, 116, 105, 111, 110, 40, 41, 32, 114, 101, 116, 117, 114, 110, 32, 120, 32, 101, 110, 100, 32, 98, 114, 101, 97, 107, 32, 101, 110, 100, 32, 108, 111, 99, 97, 108, 32, 122, 32, 61, 32, 48, 32, 112, 114, 105, 110, 116, 40, 103, 40, 41, 41]
def qC9x0a : HQ := List.replicate 1 none
def oC9x0a : List Ob := []
def uC9x0a : List UInt8 := [48, 10]
def qC9x0b : HQ := List.replicate 1 none
def oC9x0b : List Ob := []
def uC9x0b : List UInt8 := []
theorem cpC9x0 : CompK nsC9x0 rootC9x0 2 rowsC9x0 := by
  intro n r0 r1 r2 r3 r4 r5 r6 r7 r8 r9 r10 r11 r12
  kernel_rfl
theorem prC9x0 (src : List UInt8) (nodes0 : List Nd) : bind1 (bind1 (scanS 400 srcC9x0 0 0 []) (parT 400 src nodes0)) erP = some (nsC9x0, rootC9x0) := by kernel_rfl
theorem frC9x0 : Front srcC9x0 2 rowsC9x0 := by
  have e : rowsC9x0.map (rPut ((0 : Nat) : Int)) = rowsC9x0 := by kernel_rfl
  refine front_mk (ns := nsC9x0) (root := rootC9x0) (of_decide_eq_true (by kernel_rfl)) (e ▸ Rows.put (x := 0) (by decide) (by decide) (by decide) (by kernel_rfl) (by kernel_rfl) (of_decide_eq_true (by kernel_rfl))) (fun nodes0 => ?_) cpC9x0.all
  obtain ⟨z, hz, h⟩ := bnd1 (prC9x0 srcC9x0 nodes0)
  obtain ⟨r, hr, hz⟩ := bnd1 hz
  exact parse_of (ascii_of (by kernel_rfl)) hr nodes0 (by rw [hz]; exact h)
theorem vC9x0a : endR (coLA 1000 40 60 0 V.nil V.nil 0 qC9x0a (ld1 (pgR rowsC9x0) ts0 2)) = some ((⟨1, V.nil, 0⟩, 0, uC9x0a, 0, 1), [], oC9x0a) := by kernel_rfl
theorem obC9x0a : allOb oC9x0a := by
  unfold oC9x0a
  exact allOb_nil
theorem vC9x0b : endR (coLA 1000 40 60 0 V.nil V.nil 0 qC9x0b (ld1 (pgR rowsC9x0) ts0 1)) = some ((⟨3, V.nil, 9⟩, 0, uC9x0b, 0, 1), [], oC9x0b) := by kernel_rfl
theorem obC9x0b : allOb oC9x0b := by
  unfold oC9x0b
  exact allOb_nil
theorem opC9x0 (c : CSt) (m : VM) (hJ : JJ c m) : Two say9 0 0 [48] c m := by
  exact two_mk (src := srcC9x0) (run_mk frC9x0 vC9x0a obC9x0a (by decide) (.inl ⟨rfl, rfl⟩)) (run_mk frC9x0 vC9x0b obC9x0b (by decide) (.inr ⟨rfl, rfl⟩)) c m hJ
def nsC9x1 : List Nd := [⟨0, 0, 0, 0, 0, 0, [], 0⟩, ⟨1, 0, 0, 0, 13, 0, [103], 0⟩, ⟨13, 0, 0, 0, 0, 0, [], 0⟩, ⟨15, 0, 0, 0, 0, 4607182418800017408, [], 0⟩, ⟨1, 3, 0, 0, 6, 0, [120], 0⟩, ⟨15, 0, 0, 0, 0, 0, [], 0⟩, ⟨1, 5, 0, 0, 11, 0, [121], 0⟩, ⟨17, 0, 0, 0, 0, 0, [103], 0⟩, ⟨17, 0, 0, 0, 0, 0, [120], 0⟩, ⟨10, 8, 0, 0, 0, 0, [], 0⟩, ⟨20, 0, 9, 0, 0, 1, [], 0⟩, ⟨4, 7, 10, 0, 12, 0, [], 0⟩, ⟨11, 0, 0, 0, 0, 0, [], 0⟩, ⟨7, 2, 4, 0, 15, 0, [], 0⟩, ⟨15, 0, 0, 0, 0, 0, [], 0⟩, ⟨1, 14, 0, 0, 20, 0, [122], 0⟩, ⟨17, 0, 0, 0, 0, 0, [112, 114, 105, 110, 116], 0⟩, ⟨17, 0, 0, 0, 0, 0, [103], 0⟩, ⟨19, 17, 0, 0, 0, 0, [], 0⟩, ⟨19, 16, 18, 0, 0, 0, [], 0⟩, ⟨5, 19, 0, 0, 0, 0, [], 0⟩]
def rootC9x1 : Int := 1
def rowsC9x1 : List Rw := [⟨0, 3, [], [⟨2, 4607182418800017408, []⟩, ⟨2, 0, []⟩, ⟨3, 0, [112, 114, 105, 110, 116]⟩], [(2, 0), (6, 0), (3, 0), (22, 14), (1, 0), (6, 1), (1, 1), (6, 2), (28, 1), (6, 0), (29, 1), (21, 14), (29, 1), (21, 2), (1, 1), (6, 1), (9, 2), (5, 0), (26, 0), (25, 0), (26, 1), (25, 0), (25, 0), (29, 0), (2, 0), (2, 0), (27, 0)]⟩, ⟨0, 0, [(1, 1)], [], [(7, 0), (2, 0), (27, 0), (2, 0), (2, 0), (27, 0)]⟩]
def srcC9x1 : List UInt8 := [108, 111, 99, 97, 108, 32, 103, 32, 119, 104, 105, 108, 101, 32, 116, 114, 117, 101, 32, 100, 111, 32, 108, 111, 99, 97, 108, 32, 120, 32, 61, 32, 49, 32, 108, 111, 99, 97, 108, 32, 121, 32, 61, 32, 48, 32, 103, 32, 61, 32, 102, 117, 110, 99, 116, 105, 111, 110, 40, 41, 32, 114, 101, 116, 117, 114, 110, 32, 120, 32, 101, 110, 100, 32, 98, 114, 101, 97, 107, 32, 101, 110, 100, 32, 108, 111, 99, 97, 108, 32, 122, 32, 61, 32, 48, 32, 112, 114, 105, 110, 116, 40, 103, 40, 41, 41]
def qC9x1a : HQ := List.replicate 1 none
def oC9x1a : List Ob := []
def uC9x1a : List UInt8 := [49, 10]
def qC9x1b : HQ := List.replicate 1 none
def oC9x1b : List Ob := []
def uC9x1b : List UInt8 := []
theorem cpC9x1 : CompK nsC9x1 rootC9x1 2 rowsC9x1 := by
  intro n r0 r1 r2 r3 r4 r5 r6 r7 r8 r9 r10 r11 r12
  kernel_rfl
theorem prC9x1 (src : List UInt8) (nodes0 : List Nd) : bind1 (bind1 (scanS 400 srcC9x1 0 0 []) (parT 400 src nodes0)) erP = some (nsC9x1, rootC9x1) := by kernel_rfl
theorem frC9x1 : Front srcC9x1 2 rowsC9x1 := by
  have e : rowsC9x1.map (rPut ((0 : Nat) : Int)) = rowsC9x1 := by kernel_rfl
  refine front_mk (ns := nsC9x1) (root := rootC9x1) (of_decide_eq_true (by kernel_rfl)) (e ▸ Rows.put (x := 0) (by decide) (by decide) (by decide) (by kernel_rfl) (by kernel_rfl) (of_decide_eq_true (by kernel_rfl))) (fun nodes0 => ?_) cpC9x1.all
  obtain ⟨z, hz, h⟩ := bnd1 (prC9x1 srcC9x1 nodes0)
  obtain ⟨r, hr, hz⟩ := bnd1 hz
  exact parse_of (ascii_of (by kernel_rfl)) hr nodes0 (by rw [hz]; exact h)
theorem vC9x1a : endR (coLA 1000 40 60 0 V.nil V.nil 0 qC9x1a (ld1 (pgR rowsC9x1) ts0 2)) = some ((⟨1, V.nil, 0⟩, 0, uC9x1a, 0, 1), [], oC9x1a) := by kernel_rfl
theorem obC9x1a : allOb oC9x1a := by
  unfold oC9x1a
  exact allOb_nil
theorem vC9x1b : endR (coLA 1000 40 60 0 V.nil V.nil 0 qC9x1b (ld1 (pgR rowsC9x1) ts0 1)) = some ((⟨3, V.nil, 9⟩, 0, uC9x1b, 0, 1), [], oC9x1b) := by kernel_rfl
theorem obC9x1b : allOb oC9x1b := by
  unfold oC9x1b
  exact allOb_nil
theorem opC9x1 (c : CSt) (m : VM) (hJ : JJ c m) : Two say9 0 0 [49] c m := by
  exact two_mk (src := srcC9x1) (run_mk frC9x1 vC9x1a obC9x1a (by decide) (.inl ⟨rfl, rfl⟩)) (run_mk frC9x1 vC9x1b obC9x1b (by decide) (.inr ⟨rfl, rfl⟩)) c m hJ
theorem one9 {x : Nat} {t : List UInt8} (hx : x < 9218868437227405312) (hf : formatM x = some t) (c : CSt) (m : VM) (hJ : JJ c m) : Two say9 0 0 t c m := by
  by_cases h0 : x = 0
  · subst h0
    have e : formatM 0 = some [48] := by kernel_rfl
    rw [e] at hf
    injection hf with hf
    subst hf
    exact opC9x0 c m hJ
  by_cases h1 : x = 4607182418800017408
  · subst h1
    have e : formatM 4607182418800017408 = some [49] := by kernel_rfl
    rw [e] at hf
    injection hf with hf
    subst hf
    exact opC9x1 c m hJ
  refine op9 hx hf ?_ c m hJ
  intro z hz
  simp only [List.mem_cons, List.not_mem_nil, or_false] at hz
  rcases hz with rfl | rfl <;> omega
def ns18 : List Nd := [⟨0, 0, 0, 0, 0, 0, [], 0⟩, ⟨14, 0, 0, 0, 0, 0, [], 0⟩, ⟨6, 1, 0, 0, 4, 0, [], 0⟩, ⟨14, 0, 0, 0, 0, 0, [], 0⟩, ⟨7, 3, 0, 0, 7, 0, [], 0⟩, ⟨15, 0, 0, 0, 6, 4607182418800017408, [], 0⟩, ⟨15, 0, 0, 0, 0, 0, [], 0⟩, ⟨8, 5, 0, 0, 11, 0, [105], 0⟩, ⟨17, 0, 0, 0, 9, 0, [107], 0⟩, ⟨17, 0, 0, 0, 0, 0, [118], 0⟩, ⟨21, 0, 0, 0, 0, 0, [], 0⟩, ⟨9, 8, 10, 0, 15, 0, [], 0⟩, ⟨17, 0, 0, 0, 0, 0, [112, 114, 105, 110, 116], 0⟩, ⟨15, 0, 0, 0, 0, -1, [], 0⟩, ⟨19, 12, 13, 0, 0, 0, [], 0⟩, ⟨5, 14, 0, 0, 0, 0, [], 0⟩]
def root18 : Int := 2
def rows18 : List Rw := [⟨0, 4, [], [⟨2, 4607182418800017408, []⟩, ⟨2, 0, []⟩, ⟨3, 0, [112, 114, 105, 110, 116]⟩, ⟨2, -1, []⟩], [(4, 0), (22, 3), (21, 3), (4, 0), (22, 6), (21, 3), (1, 0), (6, 0), (1, 1), (6, 1), (1, 0), (6, 2), (30, 0), (31, 0), (22, 23), (5, 0), (6, 3), (29, 3), (5, 0), (5, 2), (15, 1), (6, 0), (21, 13), (29, 0), (14, 0), (6, 0), (2, 0), (6, 1), (32, 0), (22, 32), (29, 2), (21, 28), (29, 0), (9, 2), (1, 3), (26, 1), (25, 0), (25, 0), (2, 0), (2, 0), (27, 0)]⟩]
def q18a (x : Nat) (t : List UInt8) : HQ := [some ⟨t, [], [], 0⟩]
def o18a (x : Nat) (t : List UInt8) : List Ob := [.txt ⟨2, ((x : Nat) : Int), []⟩ t, .out [] t]
def u18a (t : List UInt8) : List UInt8 := (([] ++ t) ++ [10])
def q18b (x : Nat) (t : List UInt8) : HQ := [none]
def o18b (x : Nat) (t : List UInt8) : List Ob := []
def u18b (t : List UInt8) : List UInt8 := []
theorem cp18 : CompK ns18 root18 1 rows18 := by
  intro n r0 r1 r2 r3 r4 r5 r6 r7 r8 r9 r10 r11 r12
  kernel_rfl
def p18_0 : List UInt8 := [105, 102, 32, 102, 97, 108, 115, 101, 32, 116, 104, 101, 110, 32, 101, 108, 115, 101, 32, 101, 110, 100, 32, 119, 104, 105, 108, 101, 32, 102, 97, 108, 115, 101, 32, 100, 111, 32, 101, 110, 100, 32, 102, 111, 114, 32, 105, 32, 61, 32, 49, 44, 32, 48, 32, 100, 111, 32, 101, 110, 100, 32, 102, 111, 114, 32, 107, 44, 32, 118, 32, 105, 110, 32, 123, 125, 32, 100, 111, 32, 101, 110, 100, 32, 112, 114, 105, 110, 116, 40]
def p18_1 : List UInt8 := [41]
theorem lx18 (w : List UInt8) : scanW w 400 p18_0 0 0 [] = some (310, 90, 0, tkP 400 p18_0 0) := by kernel_rfl
theorem pr18 (x len : Nat) (src : List UInt8) (nodes0 : List Nd) : bind1 (bind1 (scanS 200 p18_1 (90 + len) 0 (tkP 400 p18_0 0 ++ [⟨3, 90, [], ((x : Nat) : Int), 0⟩])) (parT 400 src nodes0)) erP = some (ns18.map (nPut x), root18) := by kernel_rfl
theorem fr18 {x : Nat} {t : List UInt8} (hx : x < 9218868437227405312) (hn : NumT t) (hl : t.length ≤ 22) (hp : parseM t = some (x, 0)) (hL : newX [4607182418800017408, 0] x) : Front (say18 t).src 1 (rows18.map (rPut x)) := by
  refine front_mk (ns := ns18.map (nPut x)) (root := root18) ?_ (Rows.put hx (by decide) (by decide) (by kernel_rfl) (by kernel_rfl) (of_decide_eq_true (by kernel_rfl))) (fun nodes0 => ?_) (comp_open cp18 hL (fun z => hL 4607182418800017408 (by simp) z.symm) (by kernel_rfl) (by kernel_rfl))
  · show (((p18_0 ++ t) ++ p18_1)).length ≤ 2048
    simp only [List.length_append]
    have e : p18_0.length + p18_1.length ≤ 1000 := of_decide_eq_true (by kernel_rfl)
    omega
  · show bind1 (bind1 (scanL 400 ((p18_0 ++ t) ++ p18_1) 0 0 []) (parT 400 ((p18_0 ++ t) ++ p18_1) nodes0)) erP = _
    have h := pr18 x t.length ((p18_0 ++ t) ++ p18_1) nodes0
    obtain ⟨z, hz, h⟩ := bnd1 h
    obtain ⟨r, hr, hz⟩ := bnd1 hz
    refine parse_of (r := r) (ascii_app (ascii_app (ascii_of (by kernel_rfl)) (num_ascii hn)) (ascii_of (by kernel_rfl))) ?_ nodes0 ?_
    · rw [List.append_assoc]
      exact pre_step (lx18 _) (num_step hn hl (by refine ⟨?_, ?_, ?_⟩ <;> decide) hp (of_decide_eq_true (by kernel_rfl)) hr (by decide))
    · rw [hz]; exact h
theorem v18a (x : Nat) (t : List UInt8) : endR (coLA 1000 40 60 0 V.nil V.nil 0 (q18a x t) (ld1 (pgR (rows18.map (rPut x))) ts0 1)) = some ((⟨1, V.nil, 0⟩, 0, u18a t, 0, 2), [], o18a x t) := by kernel_rfl
theorem ob18a {x : Nat} {t : List UInt8} (hx : x < 9218868437227405312) (hf : formatM x = some t) (hg : formatM (negM x) = some ([45] ++ t)) (hl : t.length ≤ 22) (hp : parseM t = some (x, 0)) : allOb (o18a x t) := by
  unfold o18a
  exact allOb_cons (txt_num (Nat.lt_trans hx (by decide)) hf) (allOb_cons (by show List.length _ + List.length _ + 1 ≤ 200; simp only [List.length_append, List.length_cons, List.length_nil]; omega) (allOb_nil))
theorem v18b (x : Nat) (t : List UInt8) : endR (coLA 1000 40 60 0 V.nil V.nil 0 (q18b x t) (ld1 (pgR (rows18.map (rPut x))) ts0 0)) = some ((⟨3, V.nil, 9⟩, 0, u18b t, 0, 2), [], o18b x t) := by kernel_rfl
theorem ob18b {x : Nat} {t : List UInt8} (hx : x < 9218868437227405312) (hf : formatM x = some t) (hg : formatM (negM x) = some ([45] ++ t)) (hl : t.length ≤ 22) (hp : parseM t = some (x, 0)) : allOb (o18b x t) := by
  unfold o18b
  exact allOb_nil
theorem op18 {x : Nat} {t : List UInt8} (hx : x < 9218868437227405312) (hf : formatM x = some t) (hL : newX [4607182418800017408, 0] x) (c : CSt) (m : VM) (hJ : JJ c m) : Two say18 0 0 t c m := by
  obtain ⟨t', f1, hn, hl, hp, hg⟩ := fmt_all hx
  rw [hf] at f1
  injection f1 with f1
  subst f1
  have ua : u18a t = (say18 t).out := by simp [u18a, say18]
  have ub : u18b t = (say18 t).short := by simp [u18b, say18]
  exact two_mk (run_mk (fr18 hx hn hl hp hL) (v18a x t) (ob18a hx hf hg hl hp) (by decide) (.inl ⟨rfl, by rw [ua]⟩)) (run_mk (fr18 hx hn hl hp hL) (v18b x t) (ob18b hx hf hg hl hp) (by decide) (.inr ⟨rfl, by rw [ub]⟩)) c m hJ
def nsC18x0 : List Nd := [⟨0, 0, 0, 0, 0, 0, [], 0⟩, ⟨14, 0, 0, 0, 0, 0, [], 0⟩, ⟨6, 1, 0, 0, 4, 0, [], 0⟩, ⟨14, 0, 0, 0, 0, 0, [], 0⟩, ⟨7, 3, 0, 0, 7, 0, [], 0⟩, ⟨15, 0, 0, 0, 6, 4607182418800017408, [], 0⟩, ⟨15, 0, 0, 0, 0, 0, [], 0⟩, ⟨8, 5, 0, 0, 11, 0, [105], 0⟩, ⟨17, 0, 0, 0, 9, 0, [107], 0⟩, ⟨17, 0, 0, 0, 0, 0, [118], 0⟩, ⟨21, 0, 0, 0, 0, 0, [], 0⟩, ⟨9, 8, 10, 0, 15, 0, [], 0⟩, ⟨17, 0, 0, 0, 0, 0, [112, 114, 105, 110, 116], 0⟩, ⟨15, 0, 0, 0, 0, 4607182418800017408, [], 0⟩, ⟨19, 12, 13, 0, 0, 0, [], 0⟩, ⟨5, 14, 0, 0, 0, 0, [], 0⟩]
def rootC18x0 : Int := 2
def rowsC18x0 : List Rw := [⟨0, 4, [], [⟨2, 4607182418800017408, []⟩, ⟨2, 0, []⟩, ⟨3, 0, [112, 114, 105, 110, 116]⟩], [(4, 0), (22, 3), (21, 3), (4, 0), (22, 6), (21, 3), (1, 0), (6, 0), (1, 1), (6, 1), (1, 0), (6, 2), (30, 0), (31, 0), (22, 23), (5, 0), (6, 3), (29, 3), (5, 0), (5, 2), (15, 1), (6, 0), (21, 13), (29, 0), (14, 0), (6, 0), (2, 0), (6, 1), (32, 0), (22, 32), (29, 2), (21, 28), (29, 0), (9, 2), (1, 0), (26, 1), (25, 0), (25, 0), (2, 0), (2, 0), (27, 0)]⟩]
def srcC18x0 : List UInt8 := [105, 102, 32, 102, 97, 108, 115, 101, 32, 116, 104, 101, 110, 32, 101, 108, 115, 101, 32, 101, 110, 100, 32, 119, 104, 105, 108, 101, 32, 102, 97, 108, 115, 101, 32, 100, 111, 32, 101, 110, 100, 32, 102, 111, 114, 32, 105, 32, 61, 32, 49, 44, 32, 48, 32, 100, 111, 32, 101, 110, 100, 32, 102, 111, 114, 32, 107, 44, 32, 118, 32, 105, 110, 32, 123, 125, 32, 100, 111, 32, 101, 110, 100, 32, 112, 114, 105, 110, 116, 40, 49, 41]
def qC18x0a : HQ := List.replicate 1 none
def oC18x0a : List Ob := []
def uC18x0a : List UInt8 := [49, 10]
def qC18x0b : HQ := List.replicate 1 none
def oC18x0b : List Ob := []
def uC18x0b : List UInt8 := []
theorem cpC18x0 : CompK nsC18x0 rootC18x0 1 rowsC18x0 := by
  intro n r0 r1 r2 r3 r4 r5 r6 r7 r8 r9 r10 r11 r12
  kernel_rfl
theorem prC18x0 (src : List UInt8) (nodes0 : List Nd) : bind1 (bind1 (scanS 400 srcC18x0 0 0 []) (parT 400 src nodes0)) erP = some (nsC18x0, rootC18x0) := by kernel_rfl
theorem frC18x0 : Front srcC18x0 1 rowsC18x0 := by
  have e : rowsC18x0.map (rPut ((0 : Nat) : Int)) = rowsC18x0 := by kernel_rfl
  refine front_mk (ns := nsC18x0) (root := rootC18x0) (of_decide_eq_true (by kernel_rfl)) (e ▸ Rows.put (x := 0) (by decide) (by decide) (by decide) (by kernel_rfl) (by kernel_rfl) (of_decide_eq_true (by kernel_rfl))) (fun nodes0 => ?_) cpC18x0.all
  obtain ⟨z, hz, h⟩ := bnd1 (prC18x0 srcC18x0 nodes0)
  obtain ⟨r, hr, hz⟩ := bnd1 hz
  exact parse_of (ascii_of (by kernel_rfl)) hr nodes0 (by rw [hz]; exact h)
theorem vC18x0a : endR (coLA 1000 40 60 0 V.nil V.nil 0 qC18x0a (ld1 (pgR rowsC18x0) ts0 1)) = some ((⟨1, V.nil, 0⟩, 0, uC18x0a, 0, 2), [], oC18x0a) := by kernel_rfl
theorem obC18x0a : allOb oC18x0a := by
  unfold oC18x0a
  exact allOb_nil
theorem vC18x0b : endR (coLA 1000 40 60 0 V.nil V.nil 0 qC18x0b (ld1 (pgR rowsC18x0) ts0 0)) = some ((⟨3, V.nil, 9⟩, 0, uC18x0b, 0, 2), [], oC18x0b) := by kernel_rfl
theorem obC18x0b : allOb oC18x0b := by
  unfold oC18x0b
  exact allOb_nil
theorem opC18x0 (c : CSt) (m : VM) (hJ : JJ c m) : Two say18 0 0 [49] c m := by
  exact two_mk (src := srcC18x0) (run_mk frC18x0 vC18x0a obC18x0a (by decide) (.inl ⟨rfl, rfl⟩)) (run_mk frC18x0 vC18x0b obC18x0b (by decide) (.inr ⟨rfl, rfl⟩)) c m hJ
def nsC18x1 : List Nd := [⟨0, 0, 0, 0, 0, 0, [], 0⟩, ⟨14, 0, 0, 0, 0, 0, [], 0⟩, ⟨6, 1, 0, 0, 4, 0, [], 0⟩, ⟨14, 0, 0, 0, 0, 0, [], 0⟩, ⟨7, 3, 0, 0, 7, 0, [], 0⟩, ⟨15, 0, 0, 0, 6, 4607182418800017408, [], 0⟩, ⟨15, 0, 0, 0, 0, 0, [], 0⟩, ⟨8, 5, 0, 0, 11, 0, [105], 0⟩, ⟨17, 0, 0, 0, 9, 0, [107], 0⟩, ⟨17, 0, 0, 0, 0, 0, [118], 0⟩, ⟨21, 0, 0, 0, 0, 0, [], 0⟩, ⟨9, 8, 10, 0, 15, 0, [], 0⟩, ⟨17, 0, 0, 0, 0, 0, [112, 114, 105, 110, 116], 0⟩, ⟨15, 0, 0, 0, 0, 0, [], 0⟩, ⟨19, 12, 13, 0, 0, 0, [], 0⟩, ⟨5, 14, 0, 0, 0, 0, [], 0⟩]
def rootC18x1 : Int := 2
def rowsC18x1 : List Rw := [⟨0, 4, [], [⟨2, 4607182418800017408, []⟩, ⟨2, 0, []⟩, ⟨3, 0, [112, 114, 105, 110, 116]⟩], [(4, 0), (22, 3), (21, 3), (4, 0), (22, 6), (21, 3), (1, 0), (6, 0), (1, 1), (6, 1), (1, 0), (6, 2), (30, 0), (31, 0), (22, 23), (5, 0), (6, 3), (29, 3), (5, 0), (5, 2), (15, 1), (6, 0), (21, 13), (29, 0), (14, 0), (6, 0), (2, 0), (6, 1), (32, 0), (22, 32), (29, 2), (21, 28), (29, 0), (9, 2), (1, 1), (26, 1), (25, 0), (25, 0), (2, 0), (2, 0), (27, 0)]⟩]
def srcC18x1 : List UInt8 := [105, 102, 32, 102, 97, 108, 115, 101, 32, 116, 104, 101, 110, 32, 101, 108, 115, 101, 32, 101, 110, 100, 32, 119, 104, 105, 108, 101, 32, 102, 97, 108, 115, 101, 32, 100, 111, 32, 101, 110, 100, 32, 102, 111, 114, 32, 105, 32, 61, 32, 49, 44, 32, 48, 32, 100, 111, 32, 101, 110, 100, 32, 102, 111, 114, 32, 107, 44, 32, 118, 32, 105, 110, 32, 123, 125, 32, 100, 111, 32, 101, 110, 100, 32, 112, 114, 105, 110, 116, 40, 48, 41]
def qC18x1a : HQ := List.replicate 1 none
def oC18x1a : List Ob := []
def uC18x1a : List UInt8 := [48, 10]
def qC18x1b : HQ := List.replicate 1 none
def oC18x1b : List Ob := []
def uC18x1b : List UInt8 := []
theorem cpC18x1 : CompK nsC18x1 rootC18x1 1 rowsC18x1 := by
  intro n r0 r1 r2 r3 r4 r5 r6 r7 r8 r9 r10 r11 r12
  kernel_rfl
theorem prC18x1 (src : List UInt8) (nodes0 : List Nd) : bind1 (bind1 (scanS 400 srcC18x1 0 0 []) (parT 400 src nodes0)) erP = some (nsC18x1, rootC18x1) := by kernel_rfl
theorem frC18x1 : Front srcC18x1 1 rowsC18x1 := by
  have e : rowsC18x1.map (rPut ((0 : Nat) : Int)) = rowsC18x1 := by kernel_rfl
  refine front_mk (ns := nsC18x1) (root := rootC18x1) (of_decide_eq_true (by kernel_rfl)) (e ▸ Rows.put (x := 0) (by decide) (by decide) (by decide) (by kernel_rfl) (by kernel_rfl) (of_decide_eq_true (by kernel_rfl))) (fun nodes0 => ?_) cpC18x1.all
  obtain ⟨z, hz, h⟩ := bnd1 (prC18x1 srcC18x1 nodes0)
  obtain ⟨r, hr, hz⟩ := bnd1 hz
  exact parse_of (ascii_of (by kernel_rfl)) hr nodes0 (by rw [hz]; exact h)
theorem vC18x1a : endR (coLA 1000 40 60 0 V.nil V.nil 0 qC18x1a (ld1 (pgR rowsC18x1) ts0 1)) = some ((⟨1, V.nil, 0⟩, 0, uC18x1a, 0, 2), [], oC18x1a) := by kernel_rfl
theorem obC18x1a : allOb oC18x1a := by
  unfold oC18x1a
  exact allOb_nil
theorem vC18x1b : endR (coLA 1000 40 60 0 V.nil V.nil 0 qC18x1b (ld1 (pgR rowsC18x1) ts0 0)) = some ((⟨3, V.nil, 9⟩, 0, uC18x1b, 0, 2), [], oC18x1b) := by kernel_rfl
theorem obC18x1b : allOb oC18x1b := by
  unfold oC18x1b
  exact allOb_nil
theorem opC18x1 (c : CSt) (m : VM) (hJ : JJ c m) : Two say18 0 0 [48] c m := by
  exact two_mk (src := srcC18x1) (run_mk frC18x1 vC18x1a obC18x1a (by decide) (.inl ⟨rfl, rfl⟩)) (run_mk frC18x1 vC18x1b obC18x1b (by decide) (.inr ⟨rfl, rfl⟩)) c m hJ
theorem one18 {x : Nat} {t : List UInt8} (hx : x < 9218868437227405312) (hf : formatM x = some t) (c : CSt) (m : VM) (hJ : JJ c m) : Two say18 0 0 t c m := by
  by_cases h0 : x = 4607182418800017408
  · subst h0
    have e : formatM 4607182418800017408 = some [49] := by kernel_rfl
    rw [e] at hf
    injection hf with hf
    subst hf
    exact opC18x0 c m hJ
  by_cases h1 : x = 0
  · subst h1
    have e : formatM 0 = some [48] := by kernel_rfl
    rw [e] at hf
    injection hf with hf
    subst hf
    exact opC18x1 c m hJ
  refine op18 hx hf ?_ c m hJ
  intro z hz
  simp only [List.mem_cons, List.not_mem_nil, or_false] at hz
  rcases hz with rfl | rfl <;> omega
def ns27 : List Nd := [⟨0, 0, 0, 0, 0, 0, [], 0⟩, ⟨17, 0, 0, 0, 0, 0, [120], 0⟩, ⟨10, 1, 0, 0, 0, 0, [], 0⟩, ⟨20, 0, 2, 0, 0, 1, [], 0⟩, ⟨3, 3, 0, 0, 7, 0, [102], 0⟩, ⟨17, 0, 0, 0, 0, 0, [120], 0⟩, ⟨15, 0, 0, 0, 0, -1, [], 0⟩, ⟨4, 5, 6, 0, 12, 0, [], 0⟩, ⟨17, 0, 0, 0, 0, 0, [112, 114, 105, 110, 116], 0⟩, ⟨17, 0, 0, 0, 0, 0, [102], 0⟩, ⟨19, 9, 0, 0, 0, 0, [], 0⟩, ⟨19, 8, 10, 0, 0, 0, [], 0⟩, ⟨5, 11, 0, 0, 15, 0, [], 0⟩, ⟨17, 0, 0, 0, 0, 0, [120], 0⟩, ⟨12, 0, 0, 0, 0, 0, [], 0⟩, ⟨4, 13, 14, 0, 20, 0, [], 0⟩, ⟨17, 0, 0, 0, 0, 0, [112, 114, 105, 110, 116], 0⟩, ⟨17, 0, 0, 0, 0, 0, [102], 0⟩, ⟨19, 17, 0, 0, 0, 0, [], 0⟩, ⟨19, 16, 18, 0, 0, 0, [], 0⟩, ⟨5, 19, 0, 0, 0, 0, [], 0⟩]
def root27 : Int := 4
def rows27 : List Rw := [⟨0, 1, [], [⟨2, -1, []⟩, ⟨3, 0, [120]⟩, ⟨3, 0, [112, 114, 105, 110, 116]⟩], [(28, 1), (6, 0), (1, 0), (10, 1), (9, 2), (5, 0), (26, 0), (25, 0), (26, 1), (25, 0), (25, 0), (2, 0), (10, 1), (9, 2), (5, 0), (26, 0), (25, 0), (26, 1), (25, 0), (25, 0), (29, 0), (2, 0), (2, 0), (27, 0)]⟩, ⟨0, 0, [], [⟨3, 0, [120]⟩], [(9, 0), (2, 0), (27, 0), (2, 0), (2, 0), (27, 0)]⟩]
def q27a (x : Nat) (t : List UInt8) : HQ := [some ⟨t, [], [], 0⟩, some ⟨[], [], [], 1⟩]
def o27a (x : Nat) (t : List UInt8) : List Ob := [.txt ⟨2, ((x : Nat) : Int), []⟩ t, .out [] t, .out (([] ++ t) ++ [10]) [110, 105, 108]]
def u27a (t : List UInt8) : List UInt8 := (((([] ++ t) ++ [10]) ++ [110, 105, 108]) ++ [10])
def q27b (x : Nat) (t : List UInt8) : HQ := [some ⟨t, [], [], 0⟩, none]
def o27b (x : Nat) (t : List UInt8) : List Ob := [.txt ⟨2, ((x : Nat) : Int), []⟩ t, .out [] t]
def u27b (t : List UInt8) : List UInt8 := (([] ++ t) ++ [10])
theorem cp27 : CompK ns27 root27 2 rows27 := by
  intro n r0 r1 r2 r3 r4 r5 r6 r7 r8 r9 r10 r11 r12
  kernel_rfl
def p27_0 : List UInt8 := [108, 111, 99, 97, 108, 32, 102, 117, 110, 99, 116, 105, 111, 110, 32, 102, 40, 41, 32, 114, 101, 116, 117, 114, 110, 32, 120, 32, 101, 110, 100, 32, 120, 32, 61, 32]
def p27_1 : List UInt8 := [32, 112, 114, 105, 110, 116, 40, 102, 40, 41, 41, 32, 120, 32, 61, 32, 110, 105, 108, 32, 112, 114, 105, 110, 116, 40, 102, 40, 41, 41]
theorem lx27 (w : List UInt8) : scanW w 400 p27_0 0 0 [] = some (364, 36, 0, tkP 400 p27_0 0) := by kernel_rfl
theorem pr27 (x len : Nat) (src : List UInt8) (nodes0 : List Nd) : bind1 (bind1 (scanS 200 p27_1 (36 + len) 0 (tkP 400 p27_0 0 ++ [⟨3, 36, [], ((x : Nat) : Int), 0⟩])) (parT 400 src nodes0)) erP = some (ns27.map (nPut x), root27) := by kernel_rfl
theorem fr27 {x : Nat} {t : List UInt8} (hx : x < 9218868437227405312) (hn : NumT t) (hl : t.length ≤ 22) (hp : parseM t = some (x, 0)) (hL : newX [4607182418800017408] x) : Front (say27 t).src 2 (rows27.map (rPut x)) := by
  refine front_mk (ns := ns27.map (nPut x)) (root := root27) ?_ (Rows.put hx (by decide) (by decide) (by kernel_rfl) (by kernel_rfl) (of_decide_eq_true (by kernel_rfl))) (fun nodes0 => ?_) (comp_open cp27 hL (fun z => hL 4607182418800017408 (by simp) z.symm) (by kernel_rfl) (by kernel_rfl))
  · show (((p27_0 ++ t) ++ p27_1)).length ≤ 2048
    simp only [List.length_append]
    have e : p27_0.length + p27_1.length ≤ 1000 := of_decide_eq_true (by kernel_rfl)
    omega
  · show bind1 (bind1 (scanL 400 ((p27_0 ++ t) ++ p27_1) 0 0 []) (parT 400 ((p27_0 ++ t) ++ p27_1) nodes0)) erP = _
    have h := pr27 x t.length ((p27_0 ++ t) ++ p27_1) nodes0
    obtain ⟨z, hz, h⟩ := bnd1 h
    obtain ⟨r, hr, hz⟩ := bnd1 hz
    refine parse_of (r := r) (ascii_app (ascii_app (ascii_of (by kernel_rfl)) (num_ascii hn)) (ascii_of (by kernel_rfl))) ?_ nodes0 ?_
    · rw [List.append_assoc]
      exact pre_step (lx27 _) (num_step hn hl (by refine ⟨?_, ?_, ?_⟩ <;> decide) hp (of_decide_eq_true (by kernel_rfl)) hr (by decide))
    · rw [hz]; exact h
theorem v27a (x : Nat) (t : List UInt8) : endR (coLA 1000 40 60 0 V.nil V.nil 0 (q27a x t) (ld1 (pgR (rows27.map (rPut x))) ts0 4)) = some ((⟨1, V.nil, 0⟩, 0, u27a t, 0, 1), [], o27a x t) := by kernel_rfl
theorem ob27a {x : Nat} {t : List UInt8} (hx : x < 9218868437227405312) (hf : formatM x = some t) (hg : formatM (negM x) = some ([45] ++ t)) (hl : t.length ≤ 22) (hp : parseM t = some (x, 0)) : allOb (o27a x t) := by
  unfold o27a
  exact allOb_cons (txt_num (Nat.lt_trans hx (by decide)) hf) (allOb_cons (by show List.length _ + List.length _ + 1 ≤ 200; simp only [List.length_append, List.length_cons, List.length_nil]; omega) (allOb_cons (by show List.length _ + List.length _ + 1 ≤ 200; simp only [List.length_append, List.length_cons, List.length_nil]; omega) (allOb_nil)))
theorem v27b (x : Nat) (t : List UInt8) : endR (coLA 1000 40 60 0 V.nil V.nil 0 (q27b x t) (ld1 (pgR (rows27.map (rPut x))) ts0 3)) = some ((⟨3, V.nil, 9⟩, 0, u27b t, 0, 1), [], o27b x t) := by kernel_rfl
theorem ob27b {x : Nat} {t : List UInt8} (hx : x < 9218868437227405312) (hf : formatM x = some t) (hg : formatM (negM x) = some ([45] ++ t)) (hl : t.length ≤ 22) (hp : parseM t = some (x, 0)) : allOb (o27b x t) := by
  unfold o27b
  exact allOb_cons (txt_num (Nat.lt_trans hx (by decide)) hf) (allOb_cons (by show List.length _ + List.length _ + 1 ≤ 200; simp only [List.length_append, List.length_cons, List.length_nil]; omega) (allOb_nil))
theorem op27 {x : Nat} {t : List UInt8} (hx : x < 9218868437227405312) (hf : formatM x = some t) (hL : newX [4607182418800017408] x) (c : CSt) (m : VM) (hJ : JJ c m) : Two say27 0 0 t c m := by
  obtain ⟨t', f1, hn, hl, hp, hg⟩ := fmt_all hx
  rw [hf] at f1
  injection f1 with f1
  subst f1
  have ua : u27a t = (say27 t).out := by simp [u27a, say27]
  have ub : u27b t = (say27 t).short := by simp [u27b, say27]
  exact two_mk (run_mk (fr27 hx hn hl hp hL) (v27a x t) (ob27a hx hf hg hl hp) (by decide) (.inl ⟨rfl, by rw [ua]⟩)) (run_mk (fr27 hx hn hl hp hL) (v27b x t) (ob27b hx hf hg hl hp) (by decide) (.inr ⟨rfl, by rw [ub]⟩)) c m hJ
def nsC27x0 : List Nd := [⟨0, 0, 0, 0, 0, 0, [], 0⟩, ⟨17, 0, 0, 0, 0, 0, [120], 0⟩, ⟨10, 1, 0, 0, 0, 0, [], 0⟩, ⟨20, 0, 2, 0, 0, 1, [], 0⟩, ⟨3, 3, 0, 0, 7, 0, [102], 0⟩, ⟨17, 0, 0, 0, 0, 0, [120], 0⟩, ⟨15, 0, 0, 0, 0, 4607182418800017408, [], 0⟩, ⟨4, 5, 6, 0, 12, 0, [], 0⟩, ⟨17, 0, 0, 0, 0, 0, [112, 114, 105, 110, 116], 0⟩, ⟨17, 0, 0, 0, 0, 0, [102], 0⟩, ⟨19, 9, 0, 0, 0, 0, [], 0⟩, ⟨19, 8, 10, 0, 0, 0, [], 0⟩, ⟨5, 11, 0, 0, 15, 0, [], 0⟩, ⟨17, 0, 0, 0, 0, 0, [120], 0⟩, ⟨12, 0, 0, 0, 0, 0, [], 0⟩, ⟨4, 13, 14, 0, 20, 0, [], 0⟩, ⟨17, 0, 0, 0, 0, 0, [112, 114, 105, 110, 116], 0⟩, ⟨17, 0, 0, 0, 0, 0, [102], 0⟩, ⟨19, 17, 0, 0, 0, 0, [], 0⟩, ⟨19, 16, 18, 0, 0, 0, [], 0⟩, ⟨5, 19, 0, 0, 0, 0, [], 0⟩]
def rootC27x0 : Int := 4
def rowsC27x0 : List Rw := [⟨0, 1, [], [⟨2, 4607182418800017408, []⟩, ⟨3, 0, [120]⟩, ⟨3, 0, [112, 114, 105, 110, 116]⟩], [(28, 1), (6, 0), (1, 0), (10, 1), (9, 2), (5, 0), (26, 0), (25, 0), (26, 1), (25, 0), (25, 0), (2, 0), (10, 1), (9, 2), (5, 0), (26, 0), (25, 0), (26, 1), (25, 0), (25, 0), (29, 0), (2, 0), (2, 0), (27, 0)]⟩, ⟨0, 0, [], [⟨3, 0, [120]⟩], [(9, 0), (2, 0), (27, 0), (2, 0), (2, 0), (27, 0)]⟩]
def srcC27x0 : List UInt8 := [108, 111, 99, 97, 108, 32, 102, 117, 110, 99, 116, 105, 111, 110, 32, 102, 40, 41, 32, 114, 101, 116, 117, 114, 110, 32, 120, 32, 101, 110, 100, 32, 120, 32, 61, 32, 49, 32, 112, 114, 105, 110, 116, 40, 102, 40, 41, 41, 32, 120, 32, 61, 32, 110, 105, 108, 32, 112, 114, 105, 110, 116, 40, 102, 40, 41, 41]
def qC27x0a : HQ := List.replicate 2 none
def oC27x0a : List Ob := []
def uC27x0a : List UInt8 := [49, 10, 110, 105, 108, 10]
def qC27x0b : HQ := List.replicate 2 none
def oC27x0b : List Ob := []
def uC27x0b : List UInt8 := [49, 10]
theorem cpC27x0 : CompK nsC27x0 rootC27x0 2 rowsC27x0 := by
  intro n r0 r1 r2 r3 r4 r5 r6 r7 r8 r9 r10 r11 r12
  kernel_rfl
theorem prC27x0 (src : List UInt8) (nodes0 : List Nd) : bind1 (bind1 (scanS 400 srcC27x0 0 0 []) (parT 400 src nodes0)) erP = some (nsC27x0, rootC27x0) := by kernel_rfl
theorem frC27x0 : Front srcC27x0 2 rowsC27x0 := by
  have e : rowsC27x0.map (rPut ((0 : Nat) : Int)) = rowsC27x0 := by kernel_rfl
  refine front_mk (ns := nsC27x0) (root := rootC27x0) (of_decide_eq_true (by kernel_rfl)) (e ▸ Rows.put (x := 0) (by decide) (by decide) (by decide) (by kernel_rfl) (by kernel_rfl) (of_decide_eq_true (by kernel_rfl))) (fun nodes0 => ?_) cpC27x0.all
  obtain ⟨z, hz, h⟩ := bnd1 (prC27x0 srcC27x0 nodes0)
  obtain ⟨r, hr, hz⟩ := bnd1 hz
  exact parse_of (ascii_of (by kernel_rfl)) hr nodes0 (by rw [hz]; exact h)
theorem vC27x0a : endR (coLA 1000 40 60 0 V.nil V.nil 0 qC27x0a (ld1 (pgR rowsC27x0) ts0 4)) = some ((⟨1, V.nil, 0⟩, 0, uC27x0a, 0, 1), [], oC27x0a) := by kernel_rfl
theorem obC27x0a : allOb oC27x0a := by
  unfold oC27x0a
  exact allOb_nil
theorem vC27x0b : endR (coLA 1000 40 60 0 V.nil V.nil 0 qC27x0b (ld1 (pgR rowsC27x0) ts0 3)) = some ((⟨3, V.nil, 9⟩, 0, uC27x0b, 0, 1), [], oC27x0b) := by kernel_rfl
theorem obC27x0b : allOb oC27x0b := by
  unfold oC27x0b
  exact allOb_nil
theorem opC27x0 (c : CSt) (m : VM) (hJ : JJ c m) : Two say27 0 0 [49] c m := by
  exact two_mk (src := srcC27x0) (run_mk frC27x0 vC27x0a obC27x0a (by decide) (.inl ⟨rfl, rfl⟩)) (run_mk frC27x0 vC27x0b obC27x0b (by decide) (.inr ⟨rfl, rfl⟩)) c m hJ
theorem one27 {x : Nat} {t : List UInt8} (hx : x < 9218868437227405312) (hf : formatM x = some t) (c : CSt) (m : VM) (hJ : JJ c m) : Two say27 0 0 t c m := by
  by_cases h0 : x = 4607182418800017408
  · subst h0
    have e : formatM 4607182418800017408 = some [49] := by kernel_rfl
    rw [e] at hf
    injection hf with hf
    subst hf
    exact opC27x0 c m hJ
  refine op27 hx hf ?_ c m hJ
  intro z hz
  simp only [List.mem_cons, List.not_mem_nil, or_false] at hz
  rcases hz with rfl <;> omega
def ns36 : List Nd := [⟨0, 0, 0, 0, 0, 0, [], 0⟩, ⟨10, 0, 0, 0, 0, 0, [], 0⟩, ⟨20, 0, 1, 0, 0, 1, [], 0⟩, ⟨3, 2, 0, 0, 7, 0, [102], 0⟩, ⟨15, 0, 0, 0, 0, -1, [], 0⟩, ⟨10, 4, 0, 0, 0, 0, [], 0⟩, ⟨20, 0, 5, 0, 0, 2, [], 0⟩, ⟨3, 6, 0, 0, 12, 0, [103], 0⟩, ⟨17, 0, 0, 0, 0, 0, [112, 114, 105, 110, 116], 0⟩, ⟨17, 0, 0, 0, 0, 0, [102], 0⟩, ⟨19, 9, 0, 0, 0, 0, [], 0⟩, ⟨19, 8, 10, 0, 0, 0, [], 0⟩, ⟨5, 11, 0, 0, 17, 0, [], 0⟩, ⟨17, 0, 0, 0, 14, 0, [97], 0⟩, ⟨17, 0, 0, 0, 0, 0, [98], 0⟩, ⟨17, 0, 0, 0, 0, 0, [103], 0⟩, ⟨19, 15, 0, 0, 0, 0, [], 0⟩, ⟨2, 13, 16, 0, 21, 0, [], 0⟩, ⟨17, 0, 0, 0, 0, 0, [112, 114, 105, 110, 116], 0⟩, ⟨17, 0, 0, 0, 0, 0, [98], 0⟩, ⟨19, 18, 19, 0, 0, 0, [], 0⟩, ⟨5, 20, 0, 0, 0, 0, [], 0⟩]
def root36 : Int := 3
def rows36 : List Rw := [⟨0, 4, [], [⟨3, 0, [112, 114, 105, 110, 116]⟩], [(28, 1), (6, 0), (28, 2), (6, 1), (9, 0), (5, 0), (26, 0), (25, 0), (26, 1), (25, 0), (25, 0), (5, 1), (26, 0), (6, 3), (6, 2), (9, 0), (5, 3), (26, 1), (25, 0), (25, 0), (29, 0), (2, 0), (2, 0), (27, 0)]⟩, ⟨0, 0, [], [], [(2, 0), (2, 0), (27, 0), (2, 0), (2, 0), (27, 0)]⟩, ⟨0, 0, [], [⟨2, -1, []⟩], [(1, 0), (2, 0), (27, 0), (2, 0), (2, 0), (27, 0)]⟩]
def q36a (x : Nat) (t : List UInt8) : HQ := [none, none]
def o36a (x : Nat) (t : List UInt8) : List Ob := []
def u36a (t : List UInt8) : List UInt8 := [110, 105, 108, 10, 110, 105, 108, 10]
def q36b (x : Nat) (t : List UInt8) : HQ := [none, none]
def o36b (x : Nat) (t : List UInt8) : List Ob := []
def u36b (t : List UInt8) : List UInt8 := [110, 105, 108, 10]
theorem cp36 : CompK ns36 root36 3 rows36 := by
  intro n r0 r1 r2 r3 r4 r5 r6 r7 r8 r9 r10 r11 r12
  kernel_rfl
def p36_0 : List UInt8 := [108, 111, 99, 97, 108, 32, 102, 117, 110, 99, 116, 105, 111, 110, 32, 102, 40, 41, 32, 114, 101, 116, 117, 114, 110, 32, 101, 110, 100, 32, 108, 111, 99, 97, 108, 32, 102, 117, 110, 99, 116, 105, 111, 110, 32, 103, 40, 41, 32, 114, 101, 116, 117, 114, 110, 32]
def p36_1 : List UInt8 := [32, 101, 110, 100, 32, 112, 114, 105, 110, 116, 40, 102, 40, 41, 41, 32, 108, 111, 99, 97, 108, 32, 97, 44, 32, 98, 32, 61, 32, 103, 40, 41, 32, 112, 114, 105, 110, 116, 40, 98, 41]
theorem lx36 (w : List UInt8) : scanW w 400 p36_0 0 0 [] = some (344, 56, 0, tkP 400 p36_0 0) := by kernel_rfl
theorem pr36 (x len : Nat) (src : List UInt8) (nodes0 : List Nd) : bind1 (bind1 (scanS 200 p36_1 (56 + len) 0 (tkP 400 p36_0 0 ++ [⟨3, 56, [], ((x : Nat) : Int), 0⟩])) (parT 400 src nodes0)) erP = some (ns36.map (nPut x), root36) := by kernel_rfl
theorem fr36 {x : Nat} {t : List UInt8} (hx : x < 9218868437227405312) (hn : NumT t) (hl : t.length ≤ 22) (hp : parseM t = some (x, 0)) (hL : newX [4607182418800017408] x) : Front (say36 t).src 3 (rows36.map (rPut x)) := by
  refine front_mk (ns := ns36.map (nPut x)) (root := root36) ?_ (Rows.put hx (by decide) (by decide) (by kernel_rfl) (by kernel_rfl) (of_decide_eq_true (by kernel_rfl))) (fun nodes0 => ?_) (comp_open cp36 hL (fun z => hL 4607182418800017408 (by simp) z.symm) (by kernel_rfl) (by kernel_rfl))
  · show (((p36_0 ++ t) ++ p36_1)).length ≤ 2048
    simp only [List.length_append]
    have e : p36_0.length + p36_1.length ≤ 1000 := of_decide_eq_true (by kernel_rfl)
    omega
  · show bind1 (bind1 (scanL 400 ((p36_0 ++ t) ++ p36_1) 0 0 []) (parT 400 ((p36_0 ++ t) ++ p36_1) nodes0)) erP = _
    have h := pr36 x t.length ((p36_0 ++ t) ++ p36_1) nodes0
    obtain ⟨z, hz, h⟩ := bnd1 h
    obtain ⟨r, hr, hz⟩ := bnd1 hz
    refine parse_of (r := r) (ascii_app (ascii_app (ascii_of (by kernel_rfl)) (num_ascii hn)) (ascii_of (by kernel_rfl))) ?_ nodes0 ?_
    · rw [List.append_assoc]
      exact pre_step (lx36 _) (num_step hn hl (by refine ⟨?_, ?_, ?_⟩ <;> decide) hp (of_decide_eq_true (by kernel_rfl)) hr (by decide))
    · rw [hz]; exact h
theorem v36a (x : Nat) (t : List UInt8) : endR (coLA 1000 40 60 0 V.nil V.nil 0 (q36a x t) (ld1 (pgR (rows36.map (rPut x))) ts0 4)) = some ((⟨1, V.nil, 0⟩, 0, u36a t, 0, 1), [], o36a x t) := by kernel_rfl
theorem ob36a {x : Nat} {t : List UInt8} (hx : x < 9218868437227405312) (hf : formatM x = some t) (hg : formatM (negM x) = some ([45] ++ t)) (hl : t.length ≤ 22) (hp : parseM t = some (x, 0)) : allOb (o36a x t) := by
  unfold o36a
  exact allOb_nil
theorem v36b (x : Nat) (t : List UInt8) : endR (coLA 1000 40 60 0 V.nil V.nil 0 (q36b x t) (ld1 (pgR (rows36.map (rPut x))) ts0 3)) = some ((⟨3, V.nil, 9⟩, 0, u36b t, 0, 1), [], o36b x t) := by kernel_rfl
theorem ob36b {x : Nat} {t : List UInt8} (hx : x < 9218868437227405312) (hf : formatM x = some t) (hg : formatM (negM x) = some ([45] ++ t)) (hl : t.length ≤ 22) (hp : parseM t = some (x, 0)) : allOb (o36b x t) := by
  unfold o36b
  exact allOb_nil
theorem op36 {x : Nat} {t : List UInt8} (hx : x < 9218868437227405312) (hf : formatM x = some t) (hL : newX [4607182418800017408] x) (c : CSt) (m : VM) (hJ : JJ c m) : Two say36 0 0 t c m := by
  obtain ⟨t', f1, hn, hl, hp, hg⟩ := fmt_all hx
  rw [hf] at f1
  injection f1 with f1
  subst f1
  have ua : u36a t = (say36 t).out := by simp [u36a, say36]
  have ub : u36b t = (say36 t).short := by simp [u36b, say36]
  exact two_mk (run_mk (fr36 hx hn hl hp hL) (v36a x t) (ob36a hx hf hg hl hp) (by decide) (.inl ⟨rfl, by rw [ua]⟩)) (run_mk (fr36 hx hn hl hp hL) (v36b x t) (ob36b hx hf hg hl hp) (by decide) (.inr ⟨rfl, by rw [ub]⟩)) c m hJ
def nsC36x0 : List Nd := [⟨0, 0, 0, 0, 0, 0, [], 0⟩, ⟨10, 0, 0, 0, 0, 0, [], 0⟩, ⟨20, 0, 1, 0, 0, 1, [], 0⟩, ⟨3, 2, 0, 0, 7, 0, [102], 0⟩, ⟨15, 0, 0, 0, 0, 4607182418800017408, [], 0⟩, ⟨10, 4, 0, 0, 0, 0, [], 0⟩, ⟨20, 0, 5, 0, 0, 2, [], 0⟩, ⟨3, 6, 0, 0, 12, 0, [103], 0⟩, ⟨17, 0, 0, 0, 0, 0, [112, 114, 105, 110, 116], 0⟩, ⟨17, 0, 0, 0, 0, 0, [102], 0⟩, ⟨19, 9, 0, 0, 0, 0, [], 0⟩, ⟨19, 8, 10, 0, 0, 0, [], 0⟩, ⟨5, 11, 0, 0, 17, 0, [], 0⟩, ⟨17, 0, 0, 0, 14, 0, [97], 0⟩, ⟨17, 0, 0, 0, 0, 0, [98], 0⟩, ⟨17, 0, 0, 0, 0, 0, [103], 0⟩, ⟨19, 15, 0, 0, 0, 0, [], 0⟩, ⟨2, 13, 16, 0, 21, 0, [], 0⟩, ⟨17, 0, 0, 0, 0, 0, [112, 114, 105, 110, 116], 0⟩, ⟨17, 0, 0, 0, 0, 0, [98], 0⟩, ⟨19, 18, 19, 0, 0, 0, [], 0⟩, ⟨5, 20, 0, 0, 0, 0, [], 0⟩]
def rootC36x0 : Int := 3
def rowsC36x0 : List Rw := [⟨0, 4, [], [⟨3, 0, [112, 114, 105, 110, 116]⟩], [(28, 1), (6, 0), (28, 2), (6, 1), (9, 0), (5, 0), (26, 0), (25, 0), (26, 1), (25, 0), (25, 0), (5, 1), (26, 0), (6, 3), (6, 2), (9, 0), (5, 3), (26, 1), (25, 0), (25, 0), (29, 0), (2, 0), (2, 0), (27, 0)]⟩, ⟨0, 0, [], [], [(2, 0), (2, 0), (27, 0), (2, 0), (2, 0), (27, 0)]⟩, ⟨0, 0, [], [⟨2, 4607182418800017408, []⟩], [(1, 0), (2, 0), (27, 0), (2, 0), (2, 0), (27, 0)]⟩]
def srcC36x0 : List UInt8 := [108, 111, 99, 97, 108, 32, 102, 117, 110, 99, 116, 105, 111, 110, 32, 102, 40, 41, 32, 114, 101, 116, 117, 114, 110, 32, 101, 110, 100, 32, 108, 111, 99, 97, 108, 32, 102, 117, 110, 99, 116, 105, 111, 110, 32, 103, 40, 41, 32, 114, 101, 116, 117, 114, 110, 32, 49, 32, 101, 110, 100, 32, 112, 114, 105, 110, 116, 40, 102, 40, 41, 41, 32, 108, 111, 99, 97, 108, 32, 97, 44, 32, 98, 32, 61, 32, 103, 40, 41, 32, 112, 114, 105, 110, 116, 40, 98, 41]
def qC36x0a : HQ := List.replicate 2 none
def oC36x0a : List Ob := []
def uC36x0a : List UInt8 := [110, 105, 108, 10, 110, 105, 108, 10]
def qC36x0b : HQ := List.replicate 2 none
def oC36x0b : List Ob := []
def uC36x0b : List UInt8 := [110, 105, 108, 10]
theorem cpC36x0 : CompK nsC36x0 rootC36x0 3 rowsC36x0 := by
  intro n r0 r1 r2 r3 r4 r5 r6 r7 r8 r9 r10 r11 r12
  kernel_rfl
theorem prC36x0 (src : List UInt8) (nodes0 : List Nd) : bind1 (bind1 (scanS 400 srcC36x0 0 0 []) (parT 400 src nodes0)) erP = some (nsC36x0, rootC36x0) := by kernel_rfl
theorem frC36x0 : Front srcC36x0 3 rowsC36x0 := by
  have e : rowsC36x0.map (rPut ((0 : Nat) : Int)) = rowsC36x0 := by kernel_rfl
  refine front_mk (ns := nsC36x0) (root := rootC36x0) (of_decide_eq_true (by kernel_rfl)) (e ▸ Rows.put (x := 0) (by decide) (by decide) (by decide) (by kernel_rfl) (by kernel_rfl) (of_decide_eq_true (by kernel_rfl))) (fun nodes0 => ?_) cpC36x0.all
  obtain ⟨z, hz, h⟩ := bnd1 (prC36x0 srcC36x0 nodes0)
  obtain ⟨r, hr, hz⟩ := bnd1 hz
  exact parse_of (ascii_of (by kernel_rfl)) hr nodes0 (by rw [hz]; exact h)
theorem vC36x0a : endR (coLA 1000 40 60 0 V.nil V.nil 0 qC36x0a (ld1 (pgR rowsC36x0) ts0 4)) = some ((⟨1, V.nil, 0⟩, 0, uC36x0a, 0, 1), [], oC36x0a) := by kernel_rfl
theorem obC36x0a : allOb oC36x0a := by
  unfold oC36x0a
  exact allOb_nil
theorem vC36x0b : endR (coLA 1000 40 60 0 V.nil V.nil 0 qC36x0b (ld1 (pgR rowsC36x0) ts0 3)) = some ((⟨3, V.nil, 9⟩, 0, uC36x0b, 0, 1), [], oC36x0b) := by kernel_rfl
theorem obC36x0b : allOb oC36x0b := by
  unfold oC36x0b
  exact allOb_nil
theorem opC36x0 (c : CSt) (m : VM) (hJ : JJ c m) : Two say36 0 0 [49] c m := by
  exact two_mk (src := srcC36x0) (run_mk frC36x0 vC36x0a obC36x0a (by decide) (.inl ⟨rfl, rfl⟩)) (run_mk frC36x0 vC36x0b obC36x0b (by decide) (.inr ⟨rfl, rfl⟩)) c m hJ
theorem one36 {x : Nat} {t : List UInt8} (hx : x < 9218868437227405312) (hf : formatM x = some t) (c : CSt) (m : VM) (hJ : JJ c m) : Two say36 0 0 t c m := by
  by_cases h0 : x = 4607182418800017408
  · subst h0
    have e : formatM 4607182418800017408 = some [49] := by kernel_rfl
    rw [e] at hf
    injection hf with hf
    subst hf
    exact opC36x0 c m hJ
  refine op36 hx hf ?_ c m hJ
  intro z hz
  simp only [List.mem_cons, List.not_mem_nil, or_false] at hz
  rcases hz with rfl <;> omega
def ns45 : List Nd := [⟨0, 0, 0, 0, 0, 0, [], 0⟩, ⟨17, 0, 0, 0, 0, 0, [99, 114, 101, 97, 116, 101], 0⟩, ⟨17, 0, 0, 0, 0, 0, [97], 0⟩, ⟨17, 0, 0, 0, 4, 0, [111], 0⟩, ⟨17, 0, 0, 0, 0, 0, [101], 0⟩, ⟨17, 0, 0, 0, 0, 0, [112, 99, 97, 108, 108], 0⟩, ⟨17, 0, 0, 0, 0, 0, [113], 0⟩, ⟨17, 0, 0, 0, 0, 0, [121, 105, 101, 108, 100], 0⟩, ⟨17, 0, 0, 0, 0, 0, [113], 0⟩, ⟨19, 7, 8, 0, 0, 0, [], 0⟩, ⟨5, 9, 0, 0, 14, 0, [], 0⟩, ⟨17, 0, 0, 0, 0, 0, [101, 114, 114, 111, 114], 0⟩, ⟨15, 0, 0, 0, 0, 4611686018427387904, [], 0⟩, ⟨19, 11, 12, 0, 0, 0, [], 0⟩, ⟨5, 13, 0, 0, 0, 0, [], 0⟩, ⟨20, 6, 10, 0, 16, 2, [], 0⟩, ⟨17, 0, 0, 0, 0, 0, [97], 0⟩, ⟨19, 5, 15, 0, 0, 0, [], 0⟩, ⟨2, 3, 17, 0, 20, 0, [], 0⟩, ⟨17, 0, 0, 0, 0, 0, [101], 0⟩, ⟨10, 19, 0, 0, 0, 0, [], 0⟩, ⟨20, 2, 18, 0, 0, 1, [], 0⟩, ⟨19, 1, 21, 0, 0, 0, [], 0⟩, ⟨1, 22, 0, 0, 30, 0, [99], 0⟩, ⟨17, 0, 0, 0, 25, 0, [111], 0⟩, ⟨17, 0, 0, 0, 0, 0, [118], 0⟩, ⟨17, 0, 0, 0, 0, 0, [114, 101, 115, 117, 109, 101], 0⟩, ⟨17, 0, 0, 0, 28, 0, [99], 0⟩, ⟨15, 0, 0, 0, 0, -1, [], 0⟩, ⟨19, 26, 27, 0, 0, 0, [], 0⟩, ⟨2, 24, 29, 0, 34, 0, [], 0⟩, ⟨17, 0, 0, 0, 0, 0, [112, 114, 105, 110, 116], 0⟩, ⟨17, 0, 0, 0, 0, 0, [118], 0⟩, ⟨19, 31, 32, 0, 0, 0, [], 0⟩, ⟨5, 33, 0, 0, 40, 0, [], 0⟩, ⟨17, 0, 0, 0, 36, 0, [112], 0⟩, ⟨17, 0, 0, 0, 0, 0, [119], 0⟩, ⟨17, 0, 0, 0, 0, 0, [114, 101, 115, 117, 109, 101], 0⟩, ⟨17, 0, 0, 0, 0, 0, [99], 0⟩, ⟨19, 37, 38, 0, 0, 0, [], 0⟩, ⟨2, 35, 39, 0, 46, 0, [], 0⟩, ⟨17, 0, 0, 0, 0, 0, [112, 114, 105, 110, 116], 0⟩, ⟨17, 0, 0, 0, 0, 0, [119], 0⟩, ⟨15, 0, 0, 0, 0, 0, [], 0⟩, ⟨22, 42, 43, 0, 0, 1, [], 0⟩, ⟨19, 41, 44, 0, 0, 0, [], 0⟩, ⟨5, 45, 0, 0, 0, 0, [], 0⟩]
def root45 : Int := 23
def rows45 : List Rw := [⟨0, 5, [], [⟨3, 0, [99, 114, 101, 97, 116, 101]⟩, ⟨3, 0, [114, 101, 115, 117, 109, 101]⟩, ⟨2, -1, []⟩, ⟨3, 0, [112, 114, 105, 110, 116]⟩, ⟨2, 0, []⟩], [(9, 0), (28, 1), (26, 1), (25, 0), (6, 0), (9, 1), (5, 0), (1, 2), (26, 2), (6, 2), (6, 1), (9, 3), (5, 2), (26, 1), (25, 0), (25, 0), (9, 1), (5, 0), (26, 1), (6, 4), (6, 3), (9, 3), (5, 4), (1, 4), (15, 1), (26, 1), (25, 0), (25, 0), (29, 0), (2, 0), (2, 0), (27, 0)]⟩, ⟨1, 3, [], [⟨3, 0, [112, 99, 97, 108, 108]⟩], [(9, 0), (28, 2), (5, 0), (26, 2), (6, 2), (6, 1), (5, 2), (2, 0), (27, 0), (29, 1), (2, 0), (2, 0), (27, 0)]⟩, ⟨1, 1, [], [⟨3, 0, [121, 105, 101, 108, 100]⟩, ⟨3, 0, [101, 114, 114, 111, 114]⟩, ⟨2, 4611686018427387904, []⟩], [(9, 0), (5, 0), (26, 1), (25, 0), (25, 0), (9, 1), (1, 2), (26, 1), (25, 0), (25, 0), (2, 0), (2, 0), (27, 0)]⟩]
def q45a (x : Nat) (t : List UInt8) : HQ := [some ⟨t, [], [], 0⟩, none, some ⟨[], [], [], 1⟩]
def o45a (x : Nat) (t : List UInt8) : List Ob := [.val ⟨2, ((x : Nat) : Int), []⟩, .val ⟨2, ((x : Nat) : Int), []⟩, .txt ⟨2, ((x : Nat) : Int), []⟩ t, .out [] t, .val ⟨2, 4611686018427387904, []⟩, .out (([] ++ t) ++ [10]) [50]]
def u45a (t : List UInt8) : List UInt8 := (((([] ++ t) ++ [10]) ++ [50]) ++ [10])
def q45b (x : Nat) (t : List UInt8) : HQ := [some ⟨t, [], [], 0⟩, none, none]
def o45b (x : Nat) (t : List UInt8) : List Ob := [.val ⟨2, ((x : Nat) : Int), []⟩, .val ⟨2, ((x : Nat) : Int), []⟩, .txt ⟨2, ((x : Nat) : Int), []⟩ t, .out [] t, .val ⟨2, 4611686018427387904, []⟩]
def u45b (t : List UInt8) : List UInt8 := (([] ++ t) ++ [10])
theorem cp45 : CompK ns45 root45 3 rows45 := by
  intro n r0 r1 r2 r3 r4 r5 r6 r7 r8 r9 r10 r11 r12
  kernel_rfl
def p45_0 : List UInt8 := [108, 111, 99, 97, 108, 32, 99, 32, 61, 32, 99, 114, 101, 97, 116, 101, 40, 102, 117, 110, 99, 116, 105, 111, 110, 40, 97, 41, 32, 108, 111, 99, 97, 108, 32, 111, 44, 32, 101, 32, 61, 32, 112, 99, 97, 108, 108, 40, 102, 117, 110, 99, 116, 105, 111, 110, 40, 113, 41, 32, 121, 105, 101, 108, 100, 40, 113, 41, 32, 101, 114, 114, 111, 114, 40, 50, 41, 32, 101, 110, 100, 44, 32, 97, 41, 32, 114, 101, 116, 117, 114, 110, 32, 101, 32, 101, 110, 100, 41, 32, 108, 111, 99, 97, 108, 32, 111, 44, 32, 118, 32, 61, 32, 114, 101, 115, 117, 109, 101, 40, 99, 44, 32]
def p45_1 : List UInt8 := [41, 32, 112, 114, 105, 110, 116, 40, 118, 41, 32, 108, 111, 99, 97, 108, 32, 112, 44, 32, 119, 32, 61, 32, 114, 101, 115, 117, 109, 101, 40, 99, 41, 32, 112, 114, 105, 110, 116, 40, 119, 32, 43, 32, 48, 41]
theorem lx45 (w : List UInt8) : scanW w 400 p45_0 0 0 [] = some (277, 123, 0, tkP 400 p45_0 0) := by kernel_rfl
theorem pr45 (x len : Nat) (src : List UInt8) (nodes0 : List Nd) : bind1 (bind1 (scanS 200 p45_1 (123 + len) 0 (tkP 400 p45_0 0 ++ [⟨3, 123, [], ((x : Nat) : Int), 0⟩])) (parT 400 src nodes0)) erP = some (ns45.map (nPut x), root45) := by kernel_rfl
theorem fr45 {x : Nat} {t : List UInt8} (hx : x < 9218868437227405312) (hn : NumT t) (hl : t.length ≤ 22) (hp : parseM t = some (x, 0)) (hL : newX [4611686018427387904, 0, 4607182418800017408] x) : Front (say45 t).src 3 (rows45.map (rPut x)) := by
  refine front_mk (ns := ns45.map (nPut x)) (root := root45) ?_ (Rows.put hx (by decide) (by decide) (by kernel_rfl) (by kernel_rfl) (of_decide_eq_true (by kernel_rfl))) (fun nodes0 => ?_) (comp_open cp45 hL (fun z => hL 4607182418800017408 (by simp) z.symm) (by kernel_rfl) (by kernel_rfl))
  · show (((p45_0 ++ t) ++ p45_1)).length ≤ 2048
    simp only [List.length_append]
    have e : p45_0.length + p45_1.length ≤ 1000 := of_decide_eq_true (by kernel_rfl)
    omega
  · show bind1 (bind1 (scanL 400 ((p45_0 ++ t) ++ p45_1) 0 0 []) (parT 400 ((p45_0 ++ t) ++ p45_1) nodes0)) erP = _
    have h := pr45 x t.length ((p45_0 ++ t) ++ p45_1) nodes0
    obtain ⟨z, hz, h⟩ := bnd1 h
    obtain ⟨r, hr, hz⟩ := bnd1 hz
    refine parse_of (r := r) (ascii_app (ascii_app (ascii_of (by kernel_rfl)) (num_ascii hn)) (ascii_of (by kernel_rfl))) ?_ nodes0 ?_
    · rw [List.append_assoc]
      exact pre_step (lx45 _) (num_step hn hl (by refine ⟨?_, ?_, ?_⟩ <;> decide) hp (of_decide_eq_true (by kernel_rfl)) hr (by decide))
    · rw [hz]; exact h
theorem v45a (x : Nat) (t : List UInt8) : endR (coLA 1000 40 60 0 V.nil V.nil 0 (q45a x t) (ld1 (pgR (rows45.map (rPut x))) ts0 8)) = some ((⟨1, V.nil, 0⟩, 1, u45a t, 0, 1), [], o45a x t) := by kernel_rfl
theorem ob45a {x : Nat} {t : List UInt8} (hx : x < 9218868437227405312) (hf : formatM x = some t) (hg : formatM (negM x) = some ([45] ++ t)) (hl : t.length ≤ 22) (hp : parseM t = some (x, 0)) : allOb (o45a x t) := by
  unfold o45a
  exact allOb_cons (show _ ∧ _ ∧ _ ∧ cmpM _ _ _ = _ from ⟨rfl, rfl, Int.natCast_nonneg _, cmp_self hx⟩) (allOb_cons (show _ ∧ _ ∧ _ ∧ cmpM _ _ _ = _ from ⟨rfl, rfl, Int.natCast_nonneg _, cmp_self hx⟩) (allOb_cons (txt_num (Nat.lt_trans hx (by decide)) hf) (allOb_cons (by show List.length _ + List.length _ + 1 ≤ 200; simp only [List.length_append, List.length_cons, List.length_nil]; omega) (allOb_cons (show _ ∧ _ ∧ _ ∧ cmpM _ _ _ = _ from ⟨rfl, rfl, by decide, by kernel_rfl⟩) (allOb_cons (by show List.length _ + List.length _ + 1 ≤ 200; simp only [List.length_append, List.length_cons, List.length_nil]; omega) (allOb_nil))))))
theorem v45b (x : Nat) (t : List UInt8) : endR (coLA 1000 40 60 0 V.nil V.nil 0 (q45b x t) (ld1 (pgR (rows45.map (rPut x))) ts0 7)) = some ((⟨3, V.nil, 9⟩, 1, u45b t, 0, 1), [], o45b x t) := by kernel_rfl
theorem ob45b {x : Nat} {t : List UInt8} (hx : x < 9218868437227405312) (hf : formatM x = some t) (hg : formatM (negM x) = some ([45] ++ t)) (hl : t.length ≤ 22) (hp : parseM t = some (x, 0)) : allOb (o45b x t) := by
  unfold o45b
  exact allOb_cons (show _ ∧ _ ∧ _ ∧ cmpM _ _ _ = _ from ⟨rfl, rfl, Int.natCast_nonneg _, cmp_self hx⟩) (allOb_cons (show _ ∧ _ ∧ _ ∧ cmpM _ _ _ = _ from ⟨rfl, rfl, Int.natCast_nonneg _, cmp_self hx⟩) (allOb_cons (txt_num (Nat.lt_trans hx (by decide)) hf) (allOb_cons (by show List.length _ + List.length _ + 1 ≤ 200; simp only [List.length_append, List.length_cons, List.length_nil]; omega) (allOb_cons (show _ ∧ _ ∧ _ ∧ cmpM _ _ _ = _ from ⟨rfl, rfl, by decide, by kernel_rfl⟩) (allOb_nil)))))
theorem op45 {x : Nat} {t : List UInt8} (hx : x < 9218868437227405312) (hf : formatM x = some t) (hL : newX [4611686018427387904, 0, 4607182418800017408] x) (c : CSt) (m : VM) (hJ : JJ c m) : Two say45 (say45 t).m (say45 t).ms t c m := by
  obtain ⟨t', f1, hn, hl, hp, hg⟩ := fmt_all hx
  rw [hf] at f1
  injection f1 with f1
  subst f1
  have ua : u45a t = (say45 t).out := by simp [u45a, say45]
  have ub : u45b t = (say45 t).short := by simp [u45b, say45]
  exact two_mk (run_mk (fr45 hx hn hl hp hL) (v45a x t) (ob45a hx hf hg hl hp) (by decide) (.inl ⟨rfl, by rw [ua]⟩)) (run_mk (fr45 hx hn hl hp hL) (v45b x t) (ob45b hx hf hg hl hp) (by decide) (.inr ⟨rfl, by rw [ub]⟩)) c m hJ
def nsC45x0 : List Nd := [⟨0, 0, 0, 0, 0, 0, [], 0⟩, ⟨17, 0, 0, 0, 0, 0, [99, 114, 101, 97, 116, 101], 0⟩, ⟨17, 0, 0, 0, 0, 0, [97], 0⟩, ⟨17, 0, 0, 0, 4, 0, [111], 0⟩, ⟨17, 0, 0, 0, 0, 0, [101], 0⟩, ⟨17, 0, 0, 0, 0, 0, [112, 99, 97, 108, 108], 0⟩, ⟨17, 0, 0, 0, 0, 0, [113], 0⟩, ⟨17, 0, 0, 0, 0, 0, [121, 105, 101, 108, 100], 0⟩, ⟨17, 0, 0, 0, 0, 0, [113], 0⟩, ⟨19, 7, 8, 0, 0, 0, [], 0⟩, ⟨5, 9, 0, 0, 14, 0, [], 0⟩, ⟨17, 0, 0, 0, 0, 0, [101, 114, 114, 111, 114], 0⟩, ⟨15, 0, 0, 0, 0, 4611686018427387904, [], 0⟩, ⟨19, 11, 12, 0, 0, 0, [], 0⟩, ⟨5, 13, 0, 0, 0, 0, [], 0⟩, ⟨20, 6, 10, 0, 16, 2, [], 0⟩, ⟨17, 0, 0, 0, 0, 0, [97], 0⟩, ⟨19, 5, 15, 0, 0, 0, [], 0⟩, ⟨2, 3, 17, 0, 20, 0, [], 0⟩, ⟨17, 0, 0, 0, 0, 0, [101], 0⟩, ⟨10, 19, 0, 0, 0, 0, [], 0⟩, ⟨20, 2, 18, 0, 0, 1, [], 0⟩, ⟨19, 1, 21, 0, 0, 0, [], 0⟩, ⟨1, 22, 0, 0, 30, 0, [99], 0⟩, ⟨17, 0, 0, 0, 25, 0, [111], 0⟩, ⟨17, 0, 0, 0, 0, 0, [118], 0⟩, ⟨17, 0, 0, 0, 0, 0, [114, 101, 115, 117, 109, 101], 0⟩, ⟨17, 0, 0, 0, 28, 0, [99], 0⟩, ⟨15, 0, 0, 0, 0, 4611686018427387904, [], 0⟩, ⟨19, 26, 27, 0, 0, 0, [], 0⟩, ⟨2, 24, 29, 0, 34, 0, [], 0⟩, ⟨17, 0, 0, 0, 0, 0, [112, 114, 105, 110, 116], 0⟩, ⟨17, 0, 0, 0, 0, 0, [118], 0⟩, ⟨19, 31, 32, 0, 0, 0, [], 0⟩, ⟨5, 33, 0, 0, 40, 0, [], 0⟩, ⟨17, 0, 0, 0, 36, 0, [112], 0⟩, ⟨17, 0, 0, 0, 0, 0, [119], 0⟩, ⟨17, 0, 0, 0, 0, 0, [114, 101, 115, 117, 109, 101], 0⟩, ⟨17, 0, 0, 0, 0, 0, [99], 0⟩, ⟨19, 37, 38, 0, 0, 0, [], 0⟩, ⟨2, 35, 39, 0, 46, 0, [], 0⟩, ⟨17, 0, 0, 0, 0, 0, [112, 114, 105, 110, 116], 0⟩, ⟨17, 0, 0, 0, 0, 0, [119], 0⟩, ⟨15, 0, 0, 0, 0, 0, [], 0⟩, ⟨22, 42, 43, 0, 0, 1, [], 0⟩, ⟨19, 41, 44, 0, 0, 0, [], 0⟩, ⟨5, 45, 0, 0, 0, 0, [], 0⟩]
def rootC45x0 : Int := 23
def rowsC45x0 : List Rw := [⟨0, 5, [], [⟨3, 0, [99, 114, 101, 97, 116, 101]⟩, ⟨3, 0, [114, 101, 115, 117, 109, 101]⟩, ⟨2, 4611686018427387904, []⟩, ⟨3, 0, [112, 114, 105, 110, 116]⟩, ⟨2, 0, []⟩], [(9, 0), (28, 1), (26, 1), (25, 0), (6, 0), (9, 1), (5, 0), (1, 2), (26, 2), (6, 2), (6, 1), (9, 3), (5, 2), (26, 1), (25, 0), (25, 0), (9, 1), (5, 0), (26, 1), (6, 4), (6, 3), (9, 3), (5, 4), (1, 4), (15, 1), (26, 1), (25, 0), (25, 0), (29, 0), (2, 0), (2, 0), (27, 0)]⟩, ⟨1, 3, [], [⟨3, 0, [112, 99, 97, 108, 108]⟩], [(9, 0), (28, 2), (5, 0), (26, 2), (6, 2), (6, 1), (5, 2), (2, 0), (27, 0), (29, 1), (2, 0), (2, 0), (27, 0)]⟩, ⟨1, 1, [], [⟨3, 0, [121, 105, 101, 108, 100]⟩, ⟨3, 0, [101, 114, 114, 111, 114]⟩, ⟨2, 4611686018427387904, []⟩], [(9, 0), (5, 0), (26, 1), (25, 0), (25, 0), (9, 1), (1, 2), (26, 1), (25, 0), (25, 0), (2, 0), (2, 0), (27, 0)]⟩]
def srcC45x0 : List UInt8 := [108, 111, 99, 97, 108, 32, 99, 32, 61, 32, 99, 114, 101, 97, 116, 101, 40, 102, 117, 110, 99, 116, 105, 111, 110, 40, 97, 41, 32, 108, 111, 99, 97, 108, 32, 111, 44, 32, 101, 32, 61, 32, 112, 99, 97, 108, 108, 40, 102, 117, 110, 99, 116, 105, 111, 110, 40, 113, 41, 32, 121, 105, 101, 108, 100, 40, 113, 41, 32, 101, 114, 114, 111, 114, 40, 50, 41, 32, 101, 110, 100, 44, 32, 97, 41, 32, 114, 101, 116, 117, 114, 110, 32, 101, 32, 101, 110, 100, 41, 32, 108, 111, 99, 97, 108, 32, 111, 44, 32, 118, 32, 61, 32, 114, 101, 115, 117, 109, 101, 40, 99, 44, 32, 50, 41, 32, 112, 114, 105, 110, 116, 40, 118, 41, 32, 108, 111, 99, 97, 108, 32, 112, 44, 32, 119, 32, 61, 32, 114, 101, 115, 117, 109, 101, 40, 99, 41, 32, 112, 114, 105, 110, 116, 40, 119, 32, 43, 32, 48, 41]
def qC45x0a : HQ := List.replicate 3 none
def oC45x0a : List Ob := [.val ⟨2, 4611686018427387904, []⟩, .val ⟨2, 4611686018427387904, []⟩, .val ⟨2, 4611686018427387904, []⟩]
def uC45x0a : List UInt8 := [50, 10, 50, 10]
def qC45x0b : HQ := List.replicate 3 none
def oC45x0b : List Ob := [.val ⟨2, 4611686018427387904, []⟩, .val ⟨2, 4611686018427387904, []⟩, .val ⟨2, 4611686018427387904, []⟩]
def uC45x0b : List UInt8 := [50, 10]
theorem cpC45x0 : CompK nsC45x0 rootC45x0 3 rowsC45x0 := by
  intro n r0 r1 r2 r3 r4 r5 r6 r7 r8 r9 r10 r11 r12
  kernel_rfl
theorem prC45x0 (src : List UInt8) (nodes0 : List Nd) : bind1 (bind1 (scanS 400 srcC45x0 0 0 []) (parT 400 src nodes0)) erP = some (nsC45x0, rootC45x0) := by kernel_rfl
theorem frC45x0 : Front srcC45x0 3 rowsC45x0 := by
  have e : rowsC45x0.map (rPut ((0 : Nat) : Int)) = rowsC45x0 := by kernel_rfl
  refine front_mk (ns := nsC45x0) (root := rootC45x0) (of_decide_eq_true (by kernel_rfl)) (e ▸ Rows.put (x := 0) (by decide) (by decide) (by decide) (by kernel_rfl) (by kernel_rfl) (of_decide_eq_true (by kernel_rfl))) (fun nodes0 => ?_) cpC45x0.all
  obtain ⟨z, hz, h⟩ := bnd1 (prC45x0 srcC45x0 nodes0)
  obtain ⟨r, hr, hz⟩ := bnd1 hz
  exact parse_of (ascii_of (by kernel_rfl)) hr nodes0 (by rw [hz]; exact h)
theorem vC45x0a : endR (coLA 1000 40 60 0 V.nil V.nil 0 qC45x0a (ld1 (pgR rowsC45x0) ts0 8)) = some ((⟨1, V.nil, 0⟩, 1, uC45x0a, 0, 1), [], oC45x0a) := by kernel_rfl
theorem obC45x0a : allOb oC45x0a := by
  unfold oC45x0a
  exact allOb_cons (show _ ∧ _ ∧ _ ∧ cmpM _ _ _ = _ from ⟨rfl, rfl, by decide, by kernel_rfl⟩) (allOb_cons (show _ ∧ _ ∧ _ ∧ cmpM _ _ _ = _ from ⟨rfl, rfl, by decide, by kernel_rfl⟩) (allOb_cons (show _ ∧ _ ∧ _ ∧ cmpM _ _ _ = _ from ⟨rfl, rfl, by decide, by kernel_rfl⟩) (allOb_nil)))
theorem vC45x0b : endR (coLA 1000 40 60 0 V.nil V.nil 0 qC45x0b (ld1 (pgR rowsC45x0) ts0 7)) = some ((⟨3, V.nil, 9⟩, 1, uC45x0b, 0, 1), [], oC45x0b) := by kernel_rfl
theorem obC45x0b : allOb oC45x0b := by
  unfold oC45x0b
  exact allOb_cons (show _ ∧ _ ∧ _ ∧ cmpM _ _ _ = _ from ⟨rfl, rfl, by decide, by kernel_rfl⟩) (allOb_cons (show _ ∧ _ ∧ _ ∧ cmpM _ _ _ = _ from ⟨rfl, rfl, by decide, by kernel_rfl⟩) (allOb_cons (show _ ∧ _ ∧ _ ∧ cmpM _ _ _ = _ from ⟨rfl, rfl, by decide, by kernel_rfl⟩) (allOb_nil)))
theorem opC45x0 (c : CSt) (m : VM) (hJ : JJ c m) : Two say45 (say45 [50]).m (say45 [50]).ms [50] c m := by
  exact two_mk (src := srcC45x0) (run_mk frC45x0 vC45x0a obC45x0a (by decide) (.inl ⟨rfl, rfl⟩)) (run_mk frC45x0 vC45x0b obC45x0b (by decide) (.inr ⟨rfl, rfl⟩)) c m hJ
def nsC45x1 : List Nd := [⟨0, 0, 0, 0, 0, 0, [], 0⟩, ⟨17, 0, 0, 0, 0, 0, [99, 114, 101, 97, 116, 101], 0⟩, ⟨17, 0, 0, 0, 0, 0, [97], 0⟩, ⟨17, 0, 0, 0, 4, 0, [111], 0⟩, ⟨17, 0, 0, 0, 0, 0, [101], 0⟩, ⟨17, 0, 0, 0, 0, 0, [112, 99, 97, 108, 108], 0⟩, ⟨17, 0, 0, 0, 0, 0, [113], 0⟩, ⟨17, 0, 0, 0, 0, 0, [121, 105, 101, 108, 100], 0⟩, ⟨17, 0, 0, 0, 0, 0, [113], 0⟩, ⟨19, 7, 8, 0, 0, 0, [], 0⟩, ⟨5, 9, 0, 0, 14, 0, [], 0⟩, ⟨17, 0, 0, 0, 0, 0, [101, 114, 114, 111, 114], 0⟩, ⟨15, 0, 0, 0, 0, 4611686018427387904, [], 0⟩, ⟨19, 11, 12, 0, 0, 0, [], 0⟩, ⟨5, 13, 0, 0, 0, 0, [], 0⟩, ⟨20, 6, 10, 0, 16, 2, [], 0⟩, ⟨17, 0, 0, 0, 0, 0, [97], 0⟩, ⟨19, 5, 15, 0, 0, 0, [], 0⟩, ⟨2, 3, 17, 0, 20, 0, [], 0⟩, ⟨17, 0, 0, 0, 0, 0, [101], 0⟩, ⟨10, 19, 0, 0, 0, 0, [], 0⟩, ⟨20, 2, 18, 0, 0, 1, [], 0⟩, ⟨19, 1, 21, 0, 0, 0, [], 0⟩, ⟨1, 22, 0, 0, 30, 0, [99], 0⟩, ⟨17, 0, 0, 0, 25, 0, [111], 0⟩, ⟨17, 0, 0, 0, 0, 0, [118], 0⟩, ⟨17, 0, 0, 0, 0, 0, [114, 101, 115, 117, 109, 101], 0⟩, ⟨17, 0, 0, 0, 28, 0, [99], 0⟩, ⟨15, 0, 0, 0, 0, 0, [], 0⟩, ⟨19, 26, 27, 0, 0, 0, [], 0⟩, ⟨2, 24, 29, 0, 34, 0, [], 0⟩, ⟨17, 0, 0, 0, 0, 0, [112, 114, 105, 110, 116], 0⟩, ⟨17, 0, 0, 0, 0, 0, [118], 0⟩, ⟨19, 31, 32, 0, 0, 0, [], 0⟩, ⟨5, 33, 0, 0, 40, 0, [], 0⟩, ⟨17, 0, 0, 0, 36, 0, [112], 0⟩, ⟨17, 0, 0, 0, 0, 0, [119], 0⟩, ⟨17, 0, 0, 0, 0, 0, [114, 101, 115, 117, 109, 101], 0⟩, ⟨17, 0, 0, 0, 0, 0, [99], 0⟩, ⟨19, 37, 38, 0, 0, 0, [], 0⟩, ⟨2, 35, 39, 0, 46, 0, [], 0⟩, ⟨17, 0, 0, 0, 0, 0, [112, 114, 105, 110, 116], 0⟩, ⟨17, 0, 0, 0, 0, 0, [119], 0⟩, ⟨15, 0, 0, 0, 0, 0, [], 0⟩, ⟨22, 42, 43, 0, 0, 1, [], 0⟩, ⟨19, 41, 44, 0, 0, 0, [], 0⟩, ⟨5, 45, 0, 0, 0, 0, [], 0⟩]
def rootC45x1 : Int := 23
def rowsC45x1 : List Rw := [⟨0, 5, [], [⟨3, 0, [99, 114, 101, 97, 116, 101]⟩, ⟨3, 0, [114, 101, 115, 117, 109, 101]⟩, ⟨2, 0, []⟩, ⟨3, 0, [112, 114, 105, 110, 116]⟩], [(9, 0), (28, 1), (26, 1), (25, 0), (6, 0), (9, 1), (5, 0), (1, 2), (26, 2), (6, 2), (6, 1), (9, 3), (5, 2), (26, 1), (25, 0), (25, 0), (9, 1), (5, 0), (26, 1), (6, 4), (6, 3), (9, 3), (5, 4), (1, 2), (15, 1), (26, 1), (25, 0), (25, 0), (29, 0), (2, 0), (2, 0), (27, 0)]⟩, ⟨1, 3, [], [⟨3, 0, [112, 99, 97, 108, 108]⟩], [(9, 0), (28, 2), (5, 0), (26, 2), (6, 2), (6, 1), (5, 2), (2, 0), (27, 0), (29, 1), (2, 0), (2, 0), (27, 0)]⟩, ⟨1, 1, [], [⟨3, 0, [121, 105, 101, 108, 100]⟩, ⟨3, 0, [101, 114, 114, 111, 114]⟩, ⟨2, 4611686018427387904, []⟩], [(9, 0), (5, 0), (26, 1), (25, 0), (25, 0), (9, 1), (1, 2), (26, 1), (25, 0), (25, 0), (2, 0), (2, 0), (27, 0)]⟩]
def srcC45x1 : List UInt8 := [108, 111, 99, 97, 108, 32, 99, 32, 61, 32, 99, 114, 101, 97, 116, 101, 40, 102, 117, 110, 99, 116, 105, 111, 110, 40, 97, 41, 32, 108, 111, 99, 97, 108, 32, 111, 44, 32, 101, 32, 61, 32, 112, 99, 97, 108, 108, 40, 102, 117, 110, 99, 116, 105, 111, 110, 40, 113, 41, 32, 121, 105, 101, 108, 100, 40, 113, 41, 32, 101, 114, 114, 111, 114, 40, 50, 41, 32, 101, 110, 100, 44, 32, 97, 41, 32, 114, 101, 116, 117, 114, 110, 32, 101, 32, 101, 110, 100, 41, 32, 108, 111, 99, 97, 108, 32, 111, 44, 32, 118, 32, 61, 32, 114, 101, 115, 117, 109, 101, 40, 99, 44, 32, 48, 41, 32, 112, 114, 105, 110, 116, 40, 118, 41, 32, 108, 111, 99, 97, 108, 32, 112, 44, 32, 119, 32, 61, 32, 114, 101, 115, 117, 109, 101, 40, 99, 41, 32, 112, 114, 105, 110, 116, 40, 119, 32, 43, 32, 48, 41]
def qC45x1a : HQ := List.replicate 3 none
def oC45x1a : List Ob := [.val ⟨2, 0, []⟩, .val ⟨2, 0, []⟩, .val ⟨2, 4611686018427387904, []⟩]
def uC45x1a : List UInt8 := [48, 10, 50, 10]
def qC45x1b : HQ := List.replicate 3 none
def oC45x1b : List Ob := [.val ⟨2, 0, []⟩, .val ⟨2, 0, []⟩, .val ⟨2, 4611686018427387904, []⟩]
def uC45x1b : List UInt8 := [48, 10]
theorem cpC45x1 : CompK nsC45x1 rootC45x1 3 rowsC45x1 := by
  intro n r0 r1 r2 r3 r4 r5 r6 r7 r8 r9 r10 r11 r12
  kernel_rfl
theorem prC45x1 (src : List UInt8) (nodes0 : List Nd) : bind1 (bind1 (scanS 400 srcC45x1 0 0 []) (parT 400 src nodes0)) erP = some (nsC45x1, rootC45x1) := by kernel_rfl
theorem frC45x1 : Front srcC45x1 3 rowsC45x1 := by
  have e : rowsC45x1.map (rPut ((0 : Nat) : Int)) = rowsC45x1 := by kernel_rfl
  refine front_mk (ns := nsC45x1) (root := rootC45x1) (of_decide_eq_true (by kernel_rfl)) (e ▸ Rows.put (x := 0) (by decide) (by decide) (by decide) (by kernel_rfl) (by kernel_rfl) (of_decide_eq_true (by kernel_rfl))) (fun nodes0 => ?_) cpC45x1.all
  obtain ⟨z, hz, h⟩ := bnd1 (prC45x1 srcC45x1 nodes0)
  obtain ⟨r, hr, hz⟩ := bnd1 hz
  exact parse_of (ascii_of (by kernel_rfl)) hr nodes0 (by rw [hz]; exact h)
theorem vC45x1a : endR (coLA 1000 40 60 0 V.nil V.nil 0 qC45x1a (ld1 (pgR rowsC45x1) ts0 8)) = some ((⟨1, V.nil, 0⟩, 1, uC45x1a, 0, 1), [], oC45x1a) := by kernel_rfl
theorem obC45x1a : allOb oC45x1a := by
  unfold oC45x1a
  exact allOb_cons (show _ ∧ _ ∧ _ ∧ cmpM _ _ _ = _ from ⟨rfl, rfl, by decide, by kernel_rfl⟩) (allOb_cons (show _ ∧ _ ∧ _ ∧ cmpM _ _ _ = _ from ⟨rfl, rfl, by decide, by kernel_rfl⟩) (allOb_cons (show _ ∧ _ ∧ _ ∧ cmpM _ _ _ = _ from ⟨rfl, rfl, by decide, by kernel_rfl⟩) (allOb_nil)))
theorem vC45x1b : endR (coLA 1000 40 60 0 V.nil V.nil 0 qC45x1b (ld1 (pgR rowsC45x1) ts0 7)) = some ((⟨3, V.nil, 9⟩, 1, uC45x1b, 0, 1), [], oC45x1b) := by kernel_rfl
theorem obC45x1b : allOb oC45x1b := by
  unfold oC45x1b
  exact allOb_cons (show _ ∧ _ ∧ _ ∧ cmpM _ _ _ = _ from ⟨rfl, rfl, by decide, by kernel_rfl⟩) (allOb_cons (show _ ∧ _ ∧ _ ∧ cmpM _ _ _ = _ from ⟨rfl, rfl, by decide, by kernel_rfl⟩) (allOb_cons (show _ ∧ _ ∧ _ ∧ cmpM _ _ _ = _ from ⟨rfl, rfl, by decide, by kernel_rfl⟩) (allOb_nil)))
theorem opC45x1 (c : CSt) (m : VM) (hJ : JJ c m) : Two say45 (say45 [48]).m (say45 [48]).ms [48] c m := by
  exact two_mk (src := srcC45x1) (run_mk frC45x1 vC45x1a obC45x1a (by decide) (.inl ⟨rfl, rfl⟩)) (run_mk frC45x1 vC45x1b obC45x1b (by decide) (.inr ⟨rfl, rfl⟩)) c m hJ
def nsC45x2 : List Nd := [⟨0, 0, 0, 0, 0, 0, [], 0⟩, ⟨17, 0, 0, 0, 0, 0, [99, 114, 101, 97, 116, 101], 0⟩, ⟨17, 0, 0, 0, 0, 0, [97], 0⟩, ⟨17, 0, 0, 0, 4, 0, [111], 0⟩, ⟨17, 0, 0, 0, 0, 0, [101], 0⟩, ⟨17, 0, 0, 0, 0, 0, [112, 99, 97, 108, 108], 0⟩, ⟨17, 0, 0, 0, 0, 0, [113], 0⟩, ⟨17, 0, 0, 0, 0, 0, [121, 105, 101, 108, 100], 0⟩, ⟨17, 0, 0, 0, 0, 0, [113], 0⟩, ⟨19, 7, 8, 0, 0, 0, [], 0⟩, ⟨5, 9, 0, 0, 14, 0, [], 0⟩, ⟨17, 0, 0, 0, 0, 0, [101, 114, 114, 111, 114], 0⟩, ⟨15, 0, 0, 0, 0, 4611686018427387904, [], 0⟩, ⟨19, 11, 12, 0, 0, 0, [], 0⟩, ⟨5, 13, 0, 0, 0, 0, [], 0⟩, ⟨20, 6, 10, 0, 16, 2, [], 0⟩, ⟨17, 0, 0, 0, 0, 0, [97], 0⟩, ⟨19, 5, 15, 0, 0, 0, [], 0⟩, ⟨2, 3, 17, 0, 20, 0, [], 0⟩, ⟨17, 0, 0, 0, 0, 0, [101], 0⟩, ⟨10, 19, 0, 0, 0, 0, [], 0⟩, ⟨20, 2, 18, 0, 0, 1, [], 0⟩, ⟨19, 1, 21, 0, 0, 0, [], 0⟩, ⟨1, 22, 0, 0, 30, 0, [99], 0⟩, ⟨17, 0, 0, 0, 25, 0, [111], 0⟩, ⟨17, 0, 0, 0, 0, 0, [118], 0⟩, ⟨17, 0, 0, 0, 0, 0, [114, 101, 115, 117, 109, 101], 0⟩, ⟨17, 0, 0, 0, 28, 0, [99], 0⟩, ⟨15, 0, 0, 0, 0, 4607182418800017408, [], 0⟩, ⟨19, 26, 27, 0, 0, 0, [], 0⟩, ⟨2, 24, 29, 0, 34, 0, [], 0⟩, ⟨17, 0, 0, 0, 0, 0, [112, 114, 105, 110, 116], 0⟩, ⟨17, 0, 0, 0, 0, 0, [118], 0⟩, ⟨19, 31, 32, 0, 0, 0, [], 0⟩, ⟨5, 33, 0, 0, 40, 0, [], 0⟩, ⟨17, 0, 0, 0, 36, 0, [112], 0⟩, ⟨17, 0, 0, 0, 0, 0, [119], 0⟩, ⟨17, 0, 0, 0, 0, 0, [114, 101, 115, 117, 109, 101], 0⟩, ⟨17, 0, 0, 0, 0, 0, [99], 0⟩, ⟨19, 37, 38, 0, 0, 0, [], 0⟩, ⟨2, 35, 39, 0, 46, 0, [], 0⟩, ⟨17, 0, 0, 0, 0, 0, [112, 114, 105, 110, 116], 0⟩, ⟨17, 0, 0, 0, 0, 0, [119], 0⟩, ⟨15, 0, 0, 0, 0, 0, [], 0⟩, ⟨22, 42, 43, 0, 0, 1, [], 0⟩, ⟨19, 41, 44, 0, 0, 0, [], 0⟩, ⟨5, 45, 0, 0, 0, 0, [], 0⟩]
def rootC45x2 : Int := 23
def rowsC45x2 : List Rw := [⟨0, 5, [], [⟨3, 0, [99, 114, 101, 97, 116, 101]⟩, ⟨3, 0, [114, 101, 115, 117, 109, 101]⟩, ⟨2, 4607182418800017408, []⟩, ⟨3, 0, [112, 114, 105, 110, 116]⟩, ⟨2, 0, []⟩], [(9, 0), (28, 1), (26, 1), (25, 0), (6, 0), (9, 1), (5, 0), (1, 2), (26, 2), (6, 2), (6, 1), (9, 3), (5, 2), (26, 1), (25, 0), (25, 0), (9, 1), (5, 0), (26, 1), (6, 4), (6, 3), (9, 3), (5, 4), (1, 4), (15, 1), (26, 1), (25, 0), (25, 0), (29, 0), (2, 0), (2, 0), (27, 0)]⟩, ⟨1, 3, [], [⟨3, 0, [112, 99, 97, 108, 108]⟩], [(9, 0), (28, 2), (5, 0), (26, 2), (6, 2), (6, 1), (5, 2), (2, 0), (27, 0), (29, 1), (2, 0), (2, 0), (27, 0)]⟩, ⟨1, 1, [], [⟨3, 0, [121, 105, 101, 108, 100]⟩, ⟨3, 0, [101, 114, 114, 111, 114]⟩, ⟨2, 4611686018427387904, []⟩], [(9, 0), (5, 0), (26, 1), (25, 0), (25, 0), (9, 1), (1, 2), (26, 1), (25, 0), (25, 0), (2, 0), (2, 0), (27, 0)]⟩]
def srcC45x2 : List UInt8 := [108, 111, 99, 97, 108, 32, 99, 32, 61, 32, 99, 114, 101, 97, 116, 101, 40, 102, 117, 110, 99, 116, 105, 111, 110, 40, 97, 41, 32, 108, 111, 99, 97, 108, 32, 111, 44, 32, 101, 32, 61, 32, 112, 99, 97, 108, 108, 40, 102, 117, 110, 99, 116, 105, 111, 110, 40, 113, 41, 32, 121, 105, 101, 108, 100, 40, 113, 41, 32, 101, 114, 114, 111, 114, 40, 50, 41, 32, 101, 110, 100, 44, 32, 97, 41, 32, 114, 101, 116, 117, 114, 110, 32, 101, 32, 101, 110, 100, 41, 32, 108, 111, 99, 97, 108, 32, 111, 44, 32, 118, 32, 61, 32, 114, 101, 115, 117, 109, 101, 40, 99, 44, 32, 49, 41, 32, 112, 114, 105, 110, 116, 40, 118, 41, 32, 108, 111, 99, 97, 108, 32, 112, 44, 32, 119, 32, 61, 32, 114, 101, 115, 117, 109, 101, 40, 99, 41, 32, 112, 114, 105, 110, 116, 40, 119, 32, 43, 32, 48, 41]
def qC45x2a : HQ := List.replicate 3 none
def oC45x2a : List Ob := [.val ⟨2, 4607182418800017408, []⟩, .val ⟨2, 4607182418800017408, []⟩, .val ⟨2, 4611686018427387904, []⟩]
def uC45x2a : List UInt8 := [49, 10, 50, 10]
def qC45x2b : HQ := List.replicate 3 none
def oC45x2b : List Ob := [.val ⟨2, 4607182418800017408, []⟩, .val ⟨2, 4607182418800017408, []⟩, .val ⟨2, 4611686018427387904, []⟩]
def uC45x2b : List UInt8 := [49, 10]
theorem cpC45x2 : CompK nsC45x2 rootC45x2 3 rowsC45x2 := by
  intro n r0 r1 r2 r3 r4 r5 r6 r7 r8 r9 r10 r11 r12
  kernel_rfl
theorem prC45x2 (src : List UInt8) (nodes0 : List Nd) : bind1 (bind1 (scanS 400 srcC45x2 0 0 []) (parT 400 src nodes0)) erP = some (nsC45x2, rootC45x2) := by kernel_rfl
theorem frC45x2 : Front srcC45x2 3 rowsC45x2 := by
  have e : rowsC45x2.map (rPut ((0 : Nat) : Int)) = rowsC45x2 := by kernel_rfl
  refine front_mk (ns := nsC45x2) (root := rootC45x2) (of_decide_eq_true (by kernel_rfl)) (e ▸ Rows.put (x := 0) (by decide) (by decide) (by decide) (by kernel_rfl) (by kernel_rfl) (of_decide_eq_true (by kernel_rfl))) (fun nodes0 => ?_) cpC45x2.all
  obtain ⟨z, hz, h⟩ := bnd1 (prC45x2 srcC45x2 nodes0)
  obtain ⟨r, hr, hz⟩ := bnd1 hz
  exact parse_of (ascii_of (by kernel_rfl)) hr nodes0 (by rw [hz]; exact h)
theorem vC45x2a : endR (coLA 1000 40 60 0 V.nil V.nil 0 qC45x2a (ld1 (pgR rowsC45x2) ts0 8)) = some ((⟨1, V.nil, 0⟩, 1, uC45x2a, 0, 1), [], oC45x2a) := by kernel_rfl
theorem obC45x2a : allOb oC45x2a := by
  unfold oC45x2a
  exact allOb_cons (show _ ∧ _ ∧ _ ∧ cmpM _ _ _ = _ from ⟨rfl, rfl, by decide, by kernel_rfl⟩) (allOb_cons (show _ ∧ _ ∧ _ ∧ cmpM _ _ _ = _ from ⟨rfl, rfl, by decide, by kernel_rfl⟩) (allOb_cons (show _ ∧ _ ∧ _ ∧ cmpM _ _ _ = _ from ⟨rfl, rfl, by decide, by kernel_rfl⟩) (allOb_nil)))
theorem vC45x2b : endR (coLA 1000 40 60 0 V.nil V.nil 0 qC45x2b (ld1 (pgR rowsC45x2) ts0 7)) = some ((⟨3, V.nil, 9⟩, 1, uC45x2b, 0, 1), [], oC45x2b) := by kernel_rfl
theorem obC45x2b : allOb oC45x2b := by
  unfold oC45x2b
  exact allOb_cons (show _ ∧ _ ∧ _ ∧ cmpM _ _ _ = _ from ⟨rfl, rfl, by decide, by kernel_rfl⟩) (allOb_cons (show _ ∧ _ ∧ _ ∧ cmpM _ _ _ = _ from ⟨rfl, rfl, by decide, by kernel_rfl⟩) (allOb_cons (show _ ∧ _ ∧ _ ∧ cmpM _ _ _ = _ from ⟨rfl, rfl, by decide, by kernel_rfl⟩) (allOb_nil)))
theorem opC45x2 (c : CSt) (m : VM) (hJ : JJ c m) : Two say45 (say45 [49]).m (say45 [49]).ms [49] c m := by
  exact two_mk (src := srcC45x2) (run_mk frC45x2 vC45x2a obC45x2a (by decide) (.inl ⟨rfl, rfl⟩)) (run_mk frC45x2 vC45x2b obC45x2b (by decide) (.inr ⟨rfl, rfl⟩)) c m hJ
theorem one45 {x : Nat} {t : List UInt8} (hx : x < 9218868437227405312) (hf : formatM x = some t) (c : CSt) (m : VM) (hJ : JJ c m) : Two say45 (say45 t).m (say45 t).ms t c m := by
  by_cases h0 : x = 4611686018427387904
  · subst h0
    have e : formatM 4611686018427387904 = some [50] := by kernel_rfl
    rw [e] at hf
    injection hf with hf
    subst hf
    exact opC45x0 c m hJ
  by_cases h1 : x = 0
  · subst h1
    have e : formatM 0 = some [48] := by kernel_rfl
    rw [e] at hf
    injection hf with hf
    subst hf
    exact opC45x1 c m hJ
  by_cases h2 : x = 4607182418800017408
  · subst h2
    have e : formatM 4607182418800017408 = some [49] := by kernel_rfl
    rw [e] at hf
    injection hf with hf
    subst hf
    exact opC45x2 c m hJ
  refine op45 hx hf ?_ c m hJ
  intro z hz
  simp only [List.mem_cons, List.not_mem_nil, or_false] at hz
  rcases hz with rfl | rfl | rfl <;> omega
def ns54 : List Nd := [⟨0, 0, 0, 0, 0, 0, [], 0⟩, ⟨21, 0, 0, 0, 0, 0, [], 0⟩, ⟨1, 1, 0, 0, 7, 0, [116], 0⟩, ⟨17, 0, 0, 0, 0, 0, [116], 0⟩, ⟨15, 0, 0, 0, 0, 0, [], 0⟩, ⟨18, 3, 4, 0, 0, 0, [], 0⟩, ⟨15, 0, 0, 0, 0, -1, [], 0⟩, ⟨4, 5, 6, 0, 14, 0, [], 0⟩, ⟨17, 0, 0, 0, 0, 0, [112, 114, 105, 110, 116], 0⟩, ⟨17, 0, 0, 0, 0, 0, [116], 0⟩, ⟨15, 0, 0, 0, 0, 0, [], 0⟩, ⟨23, 10, 0, 0, 0, 1, [], 0⟩, ⟨18, 9, 11, 0, 0, 0, [], 0⟩, ⟨19, 8, 12, 0, 0, 0, [], 0⟩, ⟨5, 13, 0, 0, 20, 0, [], 0⟩, ⟨17, 0, 0, 0, 0, 0, [116], 0⟩, ⟨15, 0, 0, 0, 0, 0, [], 0⟩, ⟨23, 16, 0, 0, 0, 1, [], 0⟩, ⟨18, 15, 17, 0, 0, 0, [], 0⟩, ⟨15, 0, 0, 0, 0, 4607182418800017408, [], 0⟩, ⟨4, 18, 19, 0, 26, 0, [], 0⟩, ⟨17, 0, 0, 0, 0, 0, [112, 114, 105, 110, 116], 0⟩, ⟨17, 0, 0, 0, 0, 0, [116], 0⟩, ⟨15, 0, 0, 0, 0, 0, [], 0⟩, ⟨18, 22, 23, 0, 0, 0, [], 0⟩, ⟨19, 21, 24, 0, 0, 0, [], 0⟩, ⟨5, 25, 0, 0, 32, 0, [], 0⟩, ⟨17, 0, 0, 0, 0, 0, [112, 114, 105, 110, 116], 0⟩, ⟨17, 0, 0, 0, 0, 0, [110, 101, 120, 116], 0⟩, ⟨17, 0, 0, 0, 0, 0, [116], 0⟩, ⟨19, 28, 29, 0, 0, 0, [], 0⟩, ⟨19, 27, 30, 0, 0, 0, [], 0⟩, ⟨5, 31, 0, 0, 0, 0, [], 0⟩]
def root54 : Int := 2
def rows54 : List Rw := [⟨0, 1, [], [⟨2, 0, []⟩, ⟨2, -1, []⟩, ⟨3, 0, [112, 114, 105, 110, 116]⟩, ⟨2, 4607182418800017408, []⟩, ⟨3, 0, [110, 101, 120, 116]⟩], [(14, 0), (6, 0), (5, 0), (1, 0), (1, 1), (12, 0), (9, 2), (5, 0), (1, 0), (19, 0), (11, 0), (26, 1), (25, 0), (25, 0), (5, 0), (1, 0), (19, 0), (1, 3), (12, 0), (9, 2), (5, 0), (1, 0), (11, 0), (26, 1), (25, 0), (25, 0), (9, 2), (9, 4), (5, 0), (26, 1), (25, 0), (26, 1), (25, 0), (25, 0), (29, 0), (2, 0), (2, 0), (27, 0)]⟩]
def q54a (x : Nat) (t : List UInt8) : HQ := [none, some ⟨t, [], [], 0⟩, none, some ⟨[], [], [], 1⟩, some ⟨[], [], [], 1⟩]
def o54a (x : Nat) (t : List UInt8) : List Ob := [.txt ⟨2, ((x : Nat) : Int), []⟩ t, .out [] t, .out (([] ++ t) ++ [10]) [49], .out (((([] ++ t) ++ [10]) ++ [49]) ++ [10]) [48]]
def u54a (t : List UInt8) : List UInt8 := (((((([] ++ t) ++ [10]) ++ [49]) ++ [10]) ++ [48]) ++ [10])
def q54b (x : Nat) (t : List UInt8) : HQ := [none, some ⟨t, [], [], 0⟩, none, some ⟨[], [], [], 1⟩, none]
def o54b (x : Nat) (t : List UInt8) : List Ob := [.txt ⟨2, ((x : Nat) : Int), []⟩ t, .out [] t, .out (([] ++ t) ++ [10]) [49]]
def u54b (t : List UInt8) : List UInt8 := (((([] ++ t) ++ [10]) ++ [49]) ++ [10])
theorem cp54 : CompK ns54 root54 1 rows54 := by
  intro n r0 r1 r2 r3 r4 r5 r6 r7 r8 r9 r10 r11 r12
  kernel_rfl
def p54_0 : List UInt8 := [108, 111, 99, 97, 108, 32, 116, 32, 61, 32, 123, 125, 32, 116, 91, 48, 93, 32, 61, 32]
def p54_1 : List UInt8 := [32, 112, 114, 105, 110, 116, 40, 116, 91, 45, 48, 93, 41, 32, 116, 91, 45, 48, 93, 32, 61, 32, 49, 32, 112, 114, 105, 110, 116, 40, 116, 91, 48, 93, 41, 32, 112, 114, 105, 110, 116, 40, 110, 101, 120, 116, 40, 116, 41, 41]
theorem lx54 (w : List UInt8) : scanW w 400 p54_0 0 0 [] = some (380, 20, 0, tkP 400 p54_0 0) := by kernel_rfl
theorem pr54 (x len : Nat) (src : List UInt8) (nodes0 : List Nd) : bind1 (bind1 (scanS 200 p54_1 (20 + len) 0 (tkP 400 p54_0 0 ++ [⟨3, 20, [], ((x : Nat) : Int), 0⟩])) (parT 400 src nodes0)) erP = some (ns54.map (nPut x), root54) := by kernel_rfl
theorem fr54 {x : Nat} {t : List UInt8} (hx : x < 9218868437227405312) (hn : NumT t) (hl : t.length ≤ 22) (hp : parseM t = some (x, 0)) (hL : newX [0, 4607182418800017408] x) : Front (say54 t).src 1 (rows54.map (rPut x)) := by
  refine front_mk (ns := ns54.map (nPut x)) (root := root54) ?_ (Rows.put hx (by decide) (by decide) (by kernel_rfl) (by kernel_rfl) (of_decide_eq_true (by kernel_rfl))) (fun nodes0 => ?_) (comp_open cp54 hL (fun z => hL 4607182418800017408 (by simp) z.symm) (by kernel_rfl) (by kernel_rfl))
  · show (((p54_0 ++ t) ++ p54_1)).length ≤ 2048
    simp only [List.length_append]
    have e : p54_0.length + p54_1.length ≤ 1000 := of_decide_eq_true (by kernel_rfl)
    omega
  · show bind1 (bind1 (scanL 400 ((p54_0 ++ t) ++ p54_1) 0 0 []) (parT 400 ((p54_0 ++ t) ++ p54_1) nodes0)) erP = _
    have h := pr54 x t.length ((p54_0 ++ t) ++ p54_1) nodes0
    obtain ⟨z, hz, h⟩ := bnd1 h
    obtain ⟨r, hr, hz⟩ := bnd1 hz
    refine parse_of (r := r) (ascii_app (ascii_app (ascii_of (by kernel_rfl)) (num_ascii hn)) (ascii_of (by kernel_rfl))) ?_ nodes0 ?_
    · rw [List.append_assoc]
      exact pre_step (lx54 _) (num_step hn hl (by refine ⟨?_, ?_, ?_⟩ <;> decide) hp (of_decide_eq_true (by kernel_rfl)) hr (by decide))
    · rw [hz]; exact h
theorem v54a (x : Nat) (t : List UInt8) : endR (coLA 1000 40 60 0 V.nil V.nil 0 (q54a x t) (ld1 (pgR (rows54.map (rPut x))) ts0 4)) = some ((⟨1, V.nil, 0⟩, 0, u54a t, 0, 2), [], o54a x t) := by kernel_rfl
theorem ob54a {x : Nat} {t : List UInt8} (hx : x < 9218868437227405312) (hf : formatM x = some t) (hg : formatM (negM x) = some ([45] ++ t)) (hl : t.length ≤ 22) (hp : parseM t = some (x, 0)) : allOb (o54a x t) := by
  unfold o54a
  exact allOb_cons (txt_num (Nat.lt_trans hx (by decide)) hf) (allOb_cons (by show List.length _ + List.length _ + 1 ≤ 200; simp only [List.length_append, List.length_cons, List.length_nil]; omega) (allOb_cons (by show List.length _ + List.length _ + 1 ≤ 200; simp only [List.length_append, List.length_cons, List.length_nil]; omega) (allOb_cons (by show List.length _ + List.length _ + 1 ≤ 200; simp only [List.length_append, List.length_cons, List.length_nil]; omega) (allOb_nil))))
theorem v54b (x : Nat) (t : List UInt8) : endR (coLA 1000 40 60 0 V.nil V.nil 0 (q54b x t) (ld1 (pgR (rows54.map (rPut x))) ts0 3)) = some ((⟨3, V.nil, 9⟩, 0, u54b t, 0, 2), [], o54b x t) := by kernel_rfl
theorem ob54b {x : Nat} {t : List UInt8} (hx : x < 9218868437227405312) (hf : formatM x = some t) (hg : formatM (negM x) = some ([45] ++ t)) (hl : t.length ≤ 22) (hp : parseM t = some (x, 0)) : allOb (o54b x t) := by
  unfold o54b
  exact allOb_cons (txt_num (Nat.lt_trans hx (by decide)) hf) (allOb_cons (by show List.length _ + List.length _ + 1 ≤ 200; simp only [List.length_append, List.length_cons, List.length_nil]; omega) (allOb_cons (by show List.length _ + List.length _ + 1 ≤ 200; simp only [List.length_append, List.length_cons, List.length_nil]; omega) (allOb_nil)))
theorem op54 {x : Nat} {t : List UInt8} (hx : x < 9218868437227405312) (hf : formatM x = some t) (hL : newX [0, 4607182418800017408] x) (c : CSt) (m : VM) (hJ : JJ c m) : Two say54 (say54 t).m (say54 t).ms t c m := by
  obtain ⟨t', f1, hn, hl, hp, hg⟩ := fmt_all hx
  rw [hf] at f1
  injection f1 with f1
  subst f1
  have ua : u54a t = (say54 t).out := by simp [u54a, say54]
  have ub : u54b t = (say54 t).short := by simp [u54b, say54]
  exact two_mk (run_mk (fr54 hx hn hl hp hL) (v54a x t) (ob54a hx hf hg hl hp) (by decide) (.inl ⟨rfl, by rw [ua]⟩)) (run_mk (fr54 hx hn hl hp hL) (v54b x t) (ob54b hx hf hg hl hp) (by decide) (.inr ⟨rfl, by rw [ub]⟩)) c m hJ
def nsC54x0 : List Nd := [⟨0, 0, 0, 0, 0, 0, [], 0⟩, ⟨21, 0, 0, 0, 0, 0, [], 0⟩, ⟨1, 1, 0, 0, 7, 0, [116], 0⟩, ⟨17, 0, 0, 0, 0, 0, [116], 0⟩, ⟨15, 0, 0, 0, 0, 0, [], 0⟩, ⟨18, 3, 4, 0, 0, 0, [], 0⟩, ⟨15, 0, 0, 0, 0, 0, [], 0⟩, ⟨4, 5, 6, 0, 14, 0, [], 0⟩, ⟨17, 0, 0, 0, 0, 0, [112, 114, 105, 110, 116], 0⟩, ⟨17, 0, 0, 0, 0, 0, [116], 0⟩, ⟨15, 0, 0, 0, 0, 0, [], 0⟩, ⟨23, 10, 0, 0, 0, 1, [], 0⟩, ⟨18, 9, 11, 0, 0, 0, [], 0⟩, ⟨19, 8, 12, 0, 0, 0, [], 0⟩, ⟨5, 13, 0, 0, 20, 0, [], 0⟩, ⟨17, 0, 0, 0, 0, 0, [116], 0⟩, ⟨15, 0, 0, 0, 0, 0, [], 0⟩, ⟨23, 16, 0, 0, 0, 1, [], 0⟩, ⟨18, 15, 17, 0, 0, 0, [], 0⟩, ⟨15, 0, 0, 0, 0, 4607182418800017408, [], 0⟩, ⟨4, 18, 19, 0, 26, 0, [], 0⟩, ⟨17, 0, 0, 0, 0, 0, [112, 114, 105, 110, 116], 0⟩, ⟨17, 0, 0, 0, 0, 0, [116], 0⟩, ⟨15, 0, 0, 0, 0, 0, [], 0⟩, ⟨18, 22, 23, 0, 0, 0, [], 0⟩, ⟨19, 21, 24, 0, 0, 0, [], 0⟩, ⟨5, 25, 0, 0, 32, 0, [], 0⟩, ⟨17, 0, 0, 0, 0, 0, [112, 114, 105, 110, 116], 0⟩, ⟨17, 0, 0, 0, 0, 0, [110, 101, 120, 116], 0⟩, ⟨17, 0, 0, 0, 0, 0, [116], 0⟩, ⟨19, 28, 29, 0, 0, 0, [], 0⟩, ⟨19, 27, 30, 0, 0, 0, [], 0⟩, ⟨5, 31, 0, 0, 0, 0, [], 0⟩]
def rootC54x0 : Int := 2
def rowsC54x0 : List Rw := [⟨0, 1, [], [⟨2, 0, []⟩, ⟨3, 0, [112, 114, 105, 110, 116]⟩, ⟨2, 4607182418800017408, []⟩, ⟨3, 0, [110, 101, 120, 116]⟩], [(14, 0), (6, 0), (5, 0), (1, 0), (1, 0), (12, 0), (9, 1), (5, 0), (1, 0), (19, 0), (11, 0), (26, 1), (25, 0), (25, 0), (5, 0), (1, 0), (19, 0), (1, 2), (12, 0), (9, 1), (5, 0), (1, 0), (11, 0), (26, 1), (25, 0), (25, 0), (9, 1), (9, 3), (5, 0), (26, 1), (25, 0), (26, 1), (25, 0), (25, 0), (29, 0), (2, 0), (2, 0), (27, 0)]⟩]
def srcC54x0 : List UInt8 := [108, 111, 99, 97, 108, 32, 116, 32, 61, 32, 123, 125, 32, 116, 91, 48, 93, 32, 61, 32, 48, 32, 112, 114, 105, 110, 116, 40, 116, 91, 45, 48, 93, 41, 32, 116, 91, 45, 48, 93, 32, 61, 32, 49, 32, 112, 114, 105, 110, 116, 40, 116, 91, 48, 93, 41, 32, 112, 114, 105, 110, 116, 40, 110, 101, 120, 116, 40, 116, 41, 41]
def qC54x0a : HQ := List.replicate 5 none
def oC54x0a : List Ob := []
def uC54x0a : List UInt8 := [48, 10, 49, 10, 48, 10]
def qC54x0b : HQ := List.replicate 5 none
def oC54x0b : List Ob := []
def uC54x0b : List UInt8 := [48, 10, 49, 10]
theorem cpC54x0 : CompK nsC54x0 rootC54x0 1 rowsC54x0 := by
  intro n r0 r1 r2 r3 r4 r5 r6 r7 r8 r9 r10 r11 r12
  kernel_rfl
theorem prC54x0 (src : List UInt8) (nodes0 : List Nd) : bind1 (bind1 (scanS 400 srcC54x0 0 0 []) (parT 400 src nodes0)) erP = some (nsC54x0, rootC54x0) := by kernel_rfl
theorem frC54x0 : Front srcC54x0 1 rowsC54x0 := by
  have e : rowsC54x0.map (rPut ((0 : Nat) : Int)) = rowsC54x0 := by kernel_rfl
  refine front_mk (ns := nsC54x0) (root := rootC54x0) (of_decide_eq_true (by kernel_rfl)) (e ▸ Rows.put (x := 0) (by decide) (by decide) (by decide) (by kernel_rfl) (by kernel_rfl) (of_decide_eq_true (by kernel_rfl))) (fun nodes0 => ?_) cpC54x0.all
  obtain ⟨z, hz, h⟩ := bnd1 (prC54x0 srcC54x0 nodes0)
  obtain ⟨r, hr, hz⟩ := bnd1 hz
  exact parse_of (ascii_of (by kernel_rfl)) hr nodes0 (by rw [hz]; exact h)
theorem vC54x0a : endR (coLA 1000 40 60 0 V.nil V.nil 0 qC54x0a (ld1 (pgR rowsC54x0) ts0 4)) = some ((⟨1, V.nil, 0⟩, 0, uC54x0a, 0, 2), [], oC54x0a) := by kernel_rfl
theorem obC54x0a : allOb oC54x0a := by
  unfold oC54x0a
  exact allOb_nil
theorem vC54x0b : endR (coLA 1000 40 60 0 V.nil V.nil 0 qC54x0b (ld1 (pgR rowsC54x0) ts0 3)) = some ((⟨3, V.nil, 9⟩, 0, uC54x0b, 0, 2), [], oC54x0b) := by kernel_rfl
theorem obC54x0b : allOb oC54x0b := by
  unfold oC54x0b
  exact allOb_nil
theorem opC54x0 (c : CSt) (m : VM) (hJ : JJ c m) : Two say54 (say54 [48]).m (say54 [48]).ms [48] c m := by
  exact two_mk (src := srcC54x0) (run_mk frC54x0 vC54x0a obC54x0a (by decide) (.inl ⟨rfl, rfl⟩)) (run_mk frC54x0 vC54x0b obC54x0b (by decide) (.inr ⟨rfl, rfl⟩)) c m hJ
def nsC54x1 : List Nd := [⟨0, 0, 0, 0, 0, 0, [], 0⟩, ⟨21, 0, 0, 0, 0, 0, [], 0⟩, ⟨1, 1, 0, 0, 7, 0, [116], 0⟩, ⟨17, 0, 0, 0, 0, 0, [116], 0⟩, ⟨15, 0, 0, 0, 0, 0, [], 0⟩, ⟨18, 3, 4, 0, 0, 0, [], 0⟩, ⟨15, 0, 0, 0, 0, 4607182418800017408, [], 0⟩, ⟨4, 5, 6, 0, 14, 0, [], 0⟩, ⟨17, 0, 0, 0, 0, 0, [112, 114, 105, 110, 116], 0⟩, ⟨17, 0, 0, 0, 0, 0, [116], 0⟩, ⟨15, 0, 0, 0, 0, 0, [], 0⟩, ⟨23, 10, 0, 0, 0, 1, [], 0⟩, ⟨18, 9, 11, 0, 0, 0, [], 0⟩, ⟨19, 8, 12, 0, 0, 0, [], 0⟩, ⟨5, 13, 0, 0, 20, 0, [], 0⟩, ⟨17, 0, 0, 0, 0, 0, [116], 0⟩, ⟨15, 0, 0, 0, 0, 0, [], 0⟩, ⟨23, 16, 0, 0, 0, 1, [], 0⟩, ⟨18, 15, 17, 0, 0, 0, [], 0⟩, ⟨15, 0, 0, 0, 0, 4607182418800017408, [], 0⟩, ⟨4, 18, 19, 0, 26, 0, [], 0⟩, ⟨17, 0, 0, 0, 0, 0, [112, 114, 105, 110, 116], 0⟩, ⟨17, 0, 0, 0, 0, 0, [116], 0⟩, ⟨15, 0, 0, 0, 0, 0, [], 0⟩, ⟨18, 22, 23, 0, 0, 0, [], 0⟩, ⟨19, 21, 24, 0, 0, 0, [], 0⟩, ⟨5, 25, 0, 0, 32, 0, [], 0⟩, ⟨17, 0, 0, 0, 0, 0, [112, 114, 105, 110, 116], 0⟩, ⟨17, 0, 0, 0, 0, 0, [110, 101, 120, 116], 0⟩, ⟨17, 0, 0, 0, 0, 0, [116], 0⟩, ⟨19, 28, 29, 0, 0, 0, [], 0⟩, ⟨19, 27, 30, 0, 0, 0, [], 0⟩, ⟨5, 31, 0, 0, 0, 0, [], 0⟩]
def rootC54x1 : Int := 2
def rowsC54x1 : List Rw := [⟨0, 1, [], [⟨2, 0, []⟩, ⟨2, 4607182418800017408, []⟩, ⟨3, 0, [112, 114, 105, 110, 116]⟩, ⟨3, 0, [110, 101, 120, 116]⟩], [(14, 0), (6, 0), (5, 0), (1, 0), (1, 1), (12, 0), (9, 2), (5, 0), (1, 0), (19, 0), (11, 0), (26, 1), (25, 0), (25, 0), (5, 0), (1, 0), (19, 0), (1, 1), (12, 0), (9, 2), (5, 0), (1, 0), (11, 0), (26, 1), (25, 0), (25, 0), (9, 2), (9, 3), (5, 0), (26, 1), (25, 0), (26, 1), (25, 0), (25, 0), (29, 0), (2, 0), (2, 0), (27, 0)]⟩]
def srcC54x1 : List UInt8 := [108, 111, 99, 97, 108, 32, 116, 32, 61, 32, 123, 125, 32, 116, 91, 48, 93, 32, 61, 32, 49, 32, 112, 114, 105, 110, 116, 40, 116, 91, 45, 48, 93, 41, 32, 116, 91, 45, 48, 93, 32, 61, 32, 49, 32, 112, 114, 105, 110, 116, 40, 116, 91, 48, 93, 41, 32, 112, 114, 105, 110, 116, 40, 110, 101, 120, 116, 40, 116, 41, 41]
def qC54x1a : HQ := List.replicate 5 none
def oC54x1a : List Ob := []
def uC54x1a : List UInt8 := [49, 10, 49, 10, 48, 10]
def qC54x1b : HQ := List.replicate 5 none
def oC54x1b : List Ob := []
def uC54x1b : List UInt8 := [49, 10, 49, 10]
theorem cpC54x1 : CompK nsC54x1 rootC54x1 1 rowsC54x1 := by
  intro n r0 r1 r2 r3 r4 r5 r6 r7 r8 r9 r10 r11 r12
  kernel_rfl
theorem prC54x1 (src : List UInt8) (nodes0 : List Nd) : bind1 (bind1 (scanS 400 srcC54x1 0 0 []) (parT 400 src nodes0)) erP = some (nsC54x1, rootC54x1) := by kernel_rfl
theorem frC54x1 : Front srcC54x1 1 rowsC54x1 := by
  have e : rowsC54x1.map (rPut ((0 : Nat) : Int)) = rowsC54x1 := by kernel_rfl
  refine front_mk (ns := nsC54x1) (root := rootC54x1) (of_decide_eq_true (by kernel_rfl)) (e ▸ Rows.put (x := 0) (by decide) (by decide) (by decide) (by kernel_rfl) (by kernel_rfl) (of_decide_eq_true (by kernel_rfl))) (fun nodes0 => ?_) cpC54x1.all
  obtain ⟨z, hz, h⟩ := bnd1 (prC54x1 srcC54x1 nodes0)
  obtain ⟨r, hr, hz⟩ := bnd1 hz
  exact parse_of (ascii_of (by kernel_rfl)) hr nodes0 (by rw [hz]; exact h)
theorem vC54x1a : endR (coLA 1000 40 60 0 V.nil V.nil 0 qC54x1a (ld1 (pgR rowsC54x1) ts0 4)) = some ((⟨1, V.nil, 0⟩, 0, uC54x1a, 0, 2), [], oC54x1a) := by kernel_rfl
theorem obC54x1a : allOb oC54x1a := by
  unfold oC54x1a
  exact allOb_nil
theorem vC54x1b : endR (coLA 1000 40 60 0 V.nil V.nil 0 qC54x1b (ld1 (pgR rowsC54x1) ts0 3)) = some ((⟨3, V.nil, 9⟩, 0, uC54x1b, 0, 2), [], oC54x1b) := by kernel_rfl
theorem obC54x1b : allOb oC54x1b := by
  unfold oC54x1b
  exact allOb_nil
theorem opC54x1 (c : CSt) (m : VM) (hJ : JJ c m) : Two say54 (say54 [49]).m (say54 [49]).ms [49] c m := by
  exact two_mk (src := srcC54x1) (run_mk frC54x1 vC54x1a obC54x1a (by decide) (.inl ⟨rfl, rfl⟩)) (run_mk frC54x1 vC54x1b obC54x1b (by decide) (.inr ⟨rfl, rfl⟩)) c m hJ
theorem one54 {x : Nat} {t : List UInt8} (hx : x < 9218868437227405312) (hf : formatM x = some t) (c : CSt) (m : VM) (hJ : JJ c m) : Two say54 (say54 t).m (say54 t).ms t c m := by
  by_cases h0 : x = 0
  · subst h0
    have e : formatM 0 = some [48] := by kernel_rfl
    rw [e] at hf
    injection hf with hf
    subst hf
    exact opC54x0 c m hJ
  by_cases h1 : x = 4607182418800017408
  · subst h1
    have e : formatM 4607182418800017408 = some [49] := by kernel_rfl
    rw [e] at hf
    injection hf with hf
    subst hf
    exact opC54x1 c m hJ
  refine op54 hx hf ?_ c m hJ
  intro z hz
  simp only [List.mem_cons, List.not_mem_nil, or_false] at hz
  rcases hz with rfl | rfl <;> omega
end Go.Wl
