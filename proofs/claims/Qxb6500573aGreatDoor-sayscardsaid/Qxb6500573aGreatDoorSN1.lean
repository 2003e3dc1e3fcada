/- Plain: sentences (made by program). -/
import Derived.Test.Qxb6500573aGreatDoorBY
set_option linter.unusedSimpArgs false
set_option linter.unusedVariables false
set_option linter.unusedSectionVars false
namespace Go.Wl
open Go Go.Sl Go.Proofs
set_option linter.unusedVariables false
set_option linter.unusedSimpArgs false
set_option maxRecDepth 100000
def ns2 : List Nd := [⟨0, 0, 0, 0, 0, 0, [], 0⟩, ⟨15, 0, 0, 0, 0, -1, [], 0⟩, ⟨1, 1, 0, 0, 4, 0, [97], 0⟩, ⟨17, 0, 0, 0, 0, 0, [97], 0⟩, ⟨1, 3, 0, 0, 8, 0, [97], 0⟩, ⟨17, 0, 0, 0, 0, 0, [112, 114, 105, 110, 116], 0⟩, ⟨17, 0, 0, 0, 0, 0, [97], 0⟩, ⟨19, 5, 6, 0, 0, 0, [], 0⟩, ⟨5, 7, 0, 0, 0, 0, [], 0⟩]
def root2 : Int := 2
def rows2 : List Rw := [⟨0, 2, [], [⟨2, -1, []⟩, ⟨3, 0, [112, 114, 105, 110, 116]⟩], [(1, 0), (6, 0), (5, 0), (6, 1), (9, 1), (5, 1), (26, 1), (25, 0), (25, 0), (29, 0), (2, 0), (2, 0), (27, 0)]⟩]
def q2a (x : Nat) (t : List UInt8) : HQ := [some ⟨t, [], [], 0⟩]
def o2a (x : Nat) (t : List UInt8) : List Ob := [.txt ⟨2, ((x : Nat) : Int), []⟩ t, .out [] t]
def u2a (t : List UInt8) : List UInt8 := (([] ++ t) ++ [10])
def q2b (x : Nat) (t : List UInt8) : HQ := [none]
def o2b (x : Nat) (t : List UInt8) : List Ob := []
def u2b (t : List UInt8) : List UInt8 := []
theorem cp2 : CompK ns2 root2 1 rows2 := by
  intro n r0 r1 r2 r3 r4 r5 r6 r7 r8 r9 r10 r11 r12
  kernel_rfl
def p2_0 : List UInt8 := [108, 111, 99, 97, 108, 32, 97, 32, 61, 32]
def p2_1 : List UInt8 := [32, 108, 111, 99, 97, 108, 32, 97, 32, 61, 32, 97, 32, 112, 114, 105, 110, 116, 40, 97, 41]
theorem lx2 (w : List UInt8) : scanW w 400 p2_0 0 0 [] = some (390, 10, 0, tkP 400 p2_0 0) := by kernel_rfl
theorem pr2 (x len : Nat) (src : List UInt8) (nodes0 : List Nd) : bind1 (bind1 (scanS 200 p2_1 (10 + len) 0 (tkP 400 p2_0 0 ++ [⟨3, 10, [], ((x : Nat) : Int), 0⟩])) (parT 400 src nodes0)) erP = some (ns2.map (nPut x), root2) := by kernel_rfl
theorem fr2 {x : Nat} {t : List UInt8} (hx : x < 9218868437227405312) (hn : NumT t) (hl : t.length ≤ 22) (hp : parseM t = some (x, 0)) (hL : newX [4607182418800017408] x) : Front (say2 t).src 1 (rows2.map (rPut x)) := by
  refine front_mk (ns := ns2.map (nPut x)) (root := root2) ?_ (Rows.put hx (by decide) (by decide) (by kernel_rfl) (by kernel_rfl) (of_decide_eq_true (by kernel_rfl))) (fun nodes0 => ?_) (comp_open cp2 hL (fun z => hL 4607182418800017408 (by simp) z.symm) (by kernel_rfl) (by kernel_rfl))
  · show (((p2_0 ++ t) ++ p2_1)).length ≤ 2048
    simp only [List.length_append]
    have e : p2_0.length + p2_1.length ≤ 1000 := of_decide_eq_true (by kernel_rfl)
    omega
  · show bind1 (bind1 (scanL 400 ((p2_0 ++ t) ++ p2_1) 0 0 []) (parT 400 ((p2_0 ++ t) ++ p2_1) nodes0)) erP = _
    have h := pr2 x t.length ((p2_0 ++ t) ++ p2_1) nodes0
    obtain ⟨z, hz, h⟩ := bnd1 h
    obtain ⟨r, hr, hz⟩ := bnd1 hz
    refine parse_of (r := r) (ascii_app (ascii_app (ascii_of (by kernel_rfl)) (num_ascii hn)) (ascii_of (by kernel_rfl))) ?_ nodes0 ?_
    · rw [List.append_assoc]
      exact pre_step (lx2 _) (num_step hn hl (by refine ⟨?_, ?_, ?_⟩ <;> decide) hp (of_decide_eq_true (by kernel_rfl)) hr (by decide))
    · rw [hz]; exact h
theorem v2a (x : Nat) (t : List UInt8) : endR (coLA 1000 40 60 0 V.nil V.nil 0 (q2a x t) (ld1 (pgR (rows2.map (rPut x))) ts0 1)) = some ((⟨1, V.nil, 0⟩, 0, u2a t, 0, 1), [], o2a x t) := by kernel_rfl
theorem ob2a {x : Nat} {t : List UInt8} (hx : x < 9218868437227405312) (hf : formatM x = some t) (hg : formatM (negM x) = some ([45] ++ t)) (hl : t.length ≤ 22) (hp : parseM t = some (x, 0)) : allOb (o2a x t) := by
  unfold o2a
  exact allOb_cons (txt_num (Nat.lt_trans hx (by decide)) hf) (allOb_cons (by show List.length _ + List.length _ + 1 ≤ 200; simp only [List.length_append, List.length_cons, List.length_nil]; omega) (allOb_nil))
theorem v2b (x : Nat) (t : List UInt8) : endR (coLA 1000 40 60 0 V.nil V.nil 0 (q2b x t) (ld1 (pgR (rows2.map (rPut x))) ts0 0)) = some ((⟨3, V.nil, 9⟩, 0, u2b t, 0, 1), [], o2b x t) := by kernel_rfl
theorem ob2b {x : Nat} {t : List UInt8} (hx : x < 9218868437227405312) (hf : formatM x = some t) (hg : formatM (negM x) = some ([45] ++ t)) (hl : t.length ≤ 22) (hp : parseM t = some (x, 0)) : allOb (o2b x t) := by
  unfold o2b
  exact allOb_nil
theorem op2 {x : Nat} {t : List UInt8} (hx : x < 9218868437227405312) (hf : formatM x = some t) (hL : newX [4607182418800017408] x) (c : CSt) (m : VM) (hJ : JJ c m) : Two say2 0 0 t c m := by
  obtain ⟨t', f1, hn, hl, hp, hg⟩ := fmt_all hx
  rw [hf] at f1
  injection f1 with f1
  subst f1
  have ua : u2a t = (say2 t).out := by simp [u2a, say2]
  have ub : u2b t = (say2 t).short := by simp [u2b, say2]
  exact two_mk (run_mk (fr2 hx hn hl hp hL) (v2a x t) (ob2a hx hf hg hl hp) (by decide) (.inl ⟨rfl, by rw [ua]⟩)) (run_mk (fr2 hx hn hl hp hL) (v2b x t) (ob2b hx hf hg hl hp) (by decide) (.inr ⟨rfl, by rw [ub]⟩)) c m hJ
def nsC2x0 : List Nd := [⟨0, 0, 0, 0, 0, 0, [], 0⟩, ⟨15, 0, 0, 0, 0, 4607182418800017408, [], 0⟩, ⟨1, 1, 0, 0, 4, 0, [97], 0⟩, ⟨17, 0, 0, 0, 0, 0, [97], 0⟩, ⟨1, 3, 0, 0, 8, 0, [97], 0⟩, ⟨17, 0, 0, 0, 0, 0, [112, 114, 105, 110, 116], 0⟩, ⟨17, 0, 0, 0, 0, 0, [97], 0⟩, ⟨19, 5, 6, 0, 0, 0, [], 0⟩, ⟨5, 7, 0, 0, 0, 0, [], 0⟩]
def rootC2x0 : Int := 2
def rowsC2x0 : List Rw := [⟨0, 2, [], [⟨2, 4607182418800017408, []⟩, ⟨3, 0, [112, 114, 105, 110, 116]⟩], [(1, 0), (6, 0), (5, 0), (6, 1), (9, 1), (5, 1), (26, 1), (25, 0), (25, 0), (29, 0), (2, 0), (2, 0), (27, 0)]⟩]
def srcC2x0 : List UInt8 := [108, 111, 99, 97, 108, 32, 97, 32, 61, 32, 49, 32, 108, 111, 99, 97, 108, 32, 97, 32, 61, 32, 97, 32, 112, 114, 105, 110, 116, 40, 97, 41]
def qC2x0a : HQ := List.replicate 1 none
def oC2x0a : List Ob := []
def uC2x0a : List UInt8 := [49, 10]
def qC2x0b : HQ := List.replicate 1 none
def oC2x0b : List Ob := []
def uC2x0b : List UInt8 := []
theorem cpC2x0 : CompK nsC2x0 rootC2x0 1 rowsC2x0 := by
  intro n r0 r1 r2 r3 r4 r5 r6 r7 r8 r9 r10 r11 r12
  kernel_rfl
theorem prC2x0 (src : List UInt8) (nodes0 : List Nd) : bind1 (bind1 (scanS 400 srcC2x0 0 0 []) (parT 400 src nodes0)) erP = some (nsC2x0, rootC2x0) := by kernel_rfl
theorem frC2x0 : Front srcC2x0 1 rowsC2x0 := by
  have e : rowsC2x0.map (rPut ((0 : Nat) : Int)) = rowsC2x0 := by kernel_rfl
  refine front_mk (ns := nsC2x0) (root := rootC2x0) (of_decide_eq_true (by kernel_rfl)) (e ▸ Rows.put (x := 0) (by decide) (by decide) (by decide) (by kernel_rfl) (by kernel_rfl) (of_decide_eq_true (by kernel_rfl))) (fun nodes0 => ?_) cpC2x0.all
  obtain ⟨z, hz, h⟩ := bnd1 (prC2x0 srcC2x0 nodes0)
  obtain ⟨r, hr, hz⟩ := bnd1 hz
  exact parse_of (ascii_of (by kernel_rfl)) hr nodes0 (by rw [hz]; exact h)
theorem vC2x0a : endR (coLA 1000 40 60 0 V.nil V.nil 0 qC2x0a (ld1 (pgR rowsC2x0) ts0 1)) = some ((⟨1, V.nil, 0⟩, 0, uC2x0a, 0, 1), [], oC2x0a) := by kernel_rfl
theorem obC2x0a : allOb oC2x0a := by
  unfold oC2x0a
  exact allOb_nil
theorem vC2x0b : endR (coLA 1000 40 60 0 V.nil V.nil 0 qC2x0b (ld1 (pgR rowsC2x0) ts0 0)) = some ((⟨3, V.nil, 9⟩, 0, uC2x0b, 0, 1), [], oC2x0b) := by kernel_rfl
theorem obC2x0b : allOb oC2x0b := by
  unfold oC2x0b
  exact allOb_nil
theorem opC2x0 (c : CSt) (m : VM) (hJ : JJ c m) : Two say2 0 0 [49] c m := by
  exact two_mk (src := srcC2x0) (run_mk frC2x0 vC2x0a obC2x0a (by decide) (.inl ⟨rfl, rfl⟩)) (run_mk frC2x0 vC2x0b obC2x0b (by decide) (.inr ⟨rfl, rfl⟩)) c m hJ
theorem one2 {x : Nat} {t : List UInt8} (hx : x < 9218868437227405312) (hf : formatM x = some t) (c : CSt) (m : VM) (hJ : JJ c m) : Two say2 0 0 t c m := by
  by_cases h0 : x = 4607182418800017408
  · subst h0
    have e : formatM 4607182418800017408 = some [49] := by kernel_rfl
    rw [e] at hf
    injection hf with hf
    subst hf
    exact opC2x0 c m hJ
  refine op2 hx hf ?_ c m hJ
  intro z hz
  simp only [List.mem_cons, List.not_mem_nil, or_false] at hz
  rcases hz with rfl <;> omega
def nsC11x0 : List Nd := [⟨0, 0, 0, 0, 0, 0, [], 0⟩, ⟨15, 0, 0, 0, 0, 0, [], 0⟩, ⟨1, 1, 0, 0, 11, 0, [110], 0⟩, ⟨17, 0, 0, 0, 0, 0, [110], 0⟩, ⟨17, 0, 0, 0, 0, 0, [110], 0⟩, ⟨15, 0, 0, 0, 0, 4607182418800017408, [], 0⟩, ⟨22, 4, 5, 0, 0, 1, [], 0⟩, ⟨4, 3, 6, 0, 9, 0, [], 0⟩, ⟨13, 0, 0, 0, 0, 0, [], 0⟩, ⟨10, 8, 0, 0, 0, 0, [], 0⟩, ⟨20, 0, 7, 0, 0, 1, [], 0⟩, ⟨3, 10, 0, 0, 16, 0, [102], 0⟩, ⟨14, 0, 0, 0, 0, 0, [], 0⟩, ⟨17, 0, 0, 0, 0, 0, [102], 0⟩, ⟨19, 13, 0, 0, 0, 0, [], 0⟩, ⟨24, 12, 14, 0, 0, 0, [], 0⟩, ⟨1, 15, 0, 0, 21, 0, [97], 0⟩, ⟨13, 0, 0, 0, 0, 0, [], 0⟩, ⟨17, 0, 0, 0, 0, 0, [102], 0⟩, ⟨19, 18, 0, 0, 0, 0, [], 0⟩, ⟨25, 17, 19, 0, 0, 0, [], 0⟩, ⟨1, 20, 0, 0, 25, 0, [98], 0⟩, ⟨17, 0, 0, 0, 0, 0, [112, 114, 105, 110, 116], 0⟩, ⟨17, 0, 0, 0, 0, 0, [110], 0⟩, ⟨19, 22, 23, 0, 0, 0, [], 0⟩, ⟨5, 24, 0, 0, 0, 0, [], 0⟩]
def rootC11x0 : Int := 2
def rowsC11x0 : List Rw := [⟨0, 4, [], [⟨2, 0, []⟩, ⟨3, 0, [112, 114, 105, 110, 116]⟩], [(1, 0), (6, 0), (28, 1), (6, 1), (4, 0), (23, 9), (5, 1), (26, 0), (25, 0), (6, 2), (3, 0), (24, 15), (5, 1), (26, 0), (25, 0), (6, 3), (9, 1), (5, 0), (26, 1), (25, 0), (25, 0), (29, 0), (2, 0), (2, 0), (27, 0)]⟩, ⟨0, 0, [(1, 0)], [⟨2, 4607182418800017408, []⟩], [(7, 0), (1, 0), (15, 1), (8, 0), (3, 0), (2, 0), (27, 0), (2, 0), (2, 0), (27, 0)]⟩]
def srcC11x0 : List UInt8 := [108, 111, 99, 97, 108, 32, 110, 32, 61, 32, 48, 32, 108, 111, 99, 97, 108, 32, 102, 117, 110, 99, 116, 105, 111, 110, 32, 102, 40, 41, 32, 110, 32, 61, 32, 110, 32, 43, 32, 49, 32, 114, 101, 116, 117, 114, 110, 32, 116, 114, 117, 101, 32, 101, 110, 100, 32, 108, 111, 99, 97, 108, 32, 97, 32, 61, 32, 102, 97, 108, 115, 101, 32, 97, 110, 100, 32, 102, 40, 41, 32, 108, 111, 99, 97, 108, 32, 98, 32, 61, 32, 116, 114, 117, 101, 32, 111, 114, 32, 102, 40, 41, 32, 112, 114, 105, 110, 116, 40, 110, 41]
def qC11x0a : HQ := List.replicate 1 none
def oC11x0a : List Ob := []
def uC11x0a : List UInt8 := [48, 10]
def qC11x0b : HQ := List.replicate 1 none
def oC11x0b : List Ob := []
def uC11x0b : List UInt8 := []
theorem cpC11x0 : CompK nsC11x0 rootC11x0 2 rowsC11x0 := by
  intro n r0 r1 r2 r3 r4 r5 r6 r7 r8 r9 r10 r11 r12
  kernel_rfl
theorem prC11x0 (src : List UInt8) (nodes0 : List Nd) : bind1 (bind1 (scanS 400 srcC11x0 0 0 []) (parT 400 src nodes0)) erP = some (nsC11x0, rootC11x0) := by kernel_rfl
theorem frC11x0 : Front srcC11x0 2 rowsC11x0 := by
  have e : rowsC11x0.map (rPut ((0 : Nat) : Int)) = rowsC11x0 := by kernel_rfl
  refine front_mk (ns := nsC11x0) (root := rootC11x0) (of_decide_eq_true (by kernel_rfl)) (e ▸ Rows.put (x := 0) (by decide) (by decide) (by decide) (by kernel_rfl) (by kernel_rfl) (of_decide_eq_true (by kernel_rfl))) (fun nodes0 => ?_) cpC11x0.all
  obtain ⟨z, hz, h⟩ := bnd1 (prC11x0 srcC11x0 nodes0)
  obtain ⟨r, hr, hz⟩ := bnd1 hz
  exact parse_of (ascii_of (by kernel_rfl)) hr nodes0 (by rw [hz]; exact h)
theorem vC11x0a : endR (coLA 1000 40 60 0 V.nil V.nil 0 qC11x0a (ld1 (pgR rowsC11x0) ts0 1)) = some ((⟨1, V.nil, 0⟩, 0, uC11x0a, 0, 1), [], oC11x0a) := by kernel_rfl
theorem obC11x0a : allOb oC11x0a := by
  unfold oC11x0a
  exact allOb_nil
theorem vC11x0b : endR (coLA 1000 40 60 0 V.nil V.nil 0 qC11x0b (ld1 (pgR rowsC11x0) ts0 0)) = some ((⟨3, V.nil, 9⟩, 0, uC11x0b, 0, 1), [], oC11x0b) := by kernel_rfl
theorem obC11x0b : allOb oC11x0b := by
  unfold oC11x0b
  exact allOb_nil
theorem opC11x0 (t : List UInt8) (c : CSt) (m : VM) (hJ : JJ c m) : Two say11 0 0 t c m := by
  exact two_mk (src := srcC11x0) (run_mk frC11x0 vC11x0a obC11x0a (by decide) (.inl ⟨rfl, rfl⟩)) (run_mk frC11x0 vC11x0b obC11x0b (by decide) (.inr ⟨rfl, rfl⟩)) c m hJ
theorem one11 {x : Nat} {t : List UInt8} (hx : x < 9218868437227405312) (hf : formatM x = some t) (c : CSt) (m : VM) (hJ : JJ c m) : Two say11 0 0 t c m := opC11x0 t c m hJ
def ns20 : List Nd := [⟨0, 0, 0, 0, 0, 0, [], 0⟩, ⟨15, 0, 0, 0, 0, 0, [], 0⟩, ⟨1, 1, 0, 0, 7, 0, [97], 0⟩, ⟨17, 0, 0, 0, 0, 0, [97], 0⟩, ⟨15, 0, 0, 0, 0, -1, [], 0⟩, ⟨4, 3, 4, 0, 0, 0, [], 0⟩, ⟨20, 0, 5, 0, 0, 1, [], 0⟩, ⟨3, 6, 0, 0, 11, 0, [102], 0⟩, ⟨17, 0, 0, 0, 0, 0, [97], 0⟩, ⟨10, 8, 0, 0, 0, 0, [], 0⟩, ⟨20, 0, 9, 0, 0, 2, [], 0⟩, ⟨3, 10, 0, 0, 14, 0, [103], 0⟩, ⟨17, 0, 0, 0, 0, 0, [102], 0⟩, ⟨19, 12, 0, 0, 0, 0, [], 0⟩, ⟨5, 13, 0, 0, 19, 0, [], 0⟩, ⟨17, 0, 0, 0, 0, 0, [112, 114, 105, 110, 116], 0⟩, ⟨17, 0, 0, 0, 0, 0, [103], 0⟩, ⟨19, 16, 0, 0, 0, 0, [], 0⟩, ⟨19, 15, 17, 0, 0, 0, [], 0⟩, ⟨5, 18, 0, 0, 0, 0, [], 0⟩]
def root20 : Int := 2
def rows20 : List Rw := [⟨0, 3, [], [⟨2, 0, []⟩, ⟨3, 0, [112, 114, 105, 110, 116]⟩], [(1, 0), (6, 0), (28, 1), (6, 1), (28, 2), (6, 2), (5, 1), (26, 0), (25, 0), (25, 0), (9, 1), (5, 2), (26, 0), (25, 0), (26, 1), (25, 0), (25, 0), (29, 0), (2, 0), (2, 0), (27, 0)]⟩, ⟨0, 0, [(1, 0)], [⟨2, -1, []⟩], [(1, 0), (8, 0), (2, 0), (2, 0), (27, 0)]⟩, ⟨0, 0, [(1, 0)], [], [(7, 0), (2, 0), (27, 0), (2, 0), (2, 0), (27, 0)]⟩]
def q20a (x : Nat) (t : List UInt8) : HQ := [some ⟨t, [], [], 0⟩]
def o20a (x : Nat) (t : List UInt8) : List Ob := [.txt ⟨2, ((x : Nat) : Int), []⟩ t, .out [] t]
def u20a (t : List UInt8) : List UInt8 := (([] ++ t) ++ [10])
def q20b (x : Nat) (t : List UInt8) : HQ := [none]
def o20b (x : Nat) (t : List UInt8) : List Ob := []
def u20b (t : List UInt8) : List UInt8 := []
theorem cp20 : CompK ns20 root20 3 rows20 := by
  intro n r0 r1 r2 r3 r4 r5 r6 r7 r8 r9 r10 r11 r12
  kernel_rfl
def p20_0 : List UInt8 := [108, 111, 99, 97, 108, 32, 97, 32, 61, 32, 48, 32, 108, 111, 99, 97, 108, 32, 102, 117, 110, 99, 116, 105, 111, 110, 32, 102, 40, 41, 32, 97, 32, 61, 32]
def p20_1 : List UInt8 := [32, 101, 110, 100, 32, 108, 111, 99, 97, 108, 32, 102, 117, 110, 99, 116, 105, 111, 110, 32, 103, 40, 41, 32, 114, 101, 116, 117, 114, 110, 32, 97, 32, 101, 110, 100, 32, 102, 40, 41, 32, 112, 114, 105, 110, 116, 40, 103, 40, 41, 41]
theorem lx20 (w : List UInt8) : scanW w 400 p20_0 0 0 [] = some (365, 35, 0, tkP 400 p20_0 0) := by kernel_rfl
theorem pr20 (x len : Nat) (src : List UInt8) (nodes0 : List Nd) : bind1 (bind1 (scanS 200 p20_1 (35 + len) 0 (tkP 400 p20_0 0 ++ [⟨3, 35, [], ((x : Nat) : Int), 0⟩])) (parT 400 src nodes0)) erP = some (ns20.map (nPut x), root20) := by kernel_rfl
theorem fr20 {x : Nat} {t : List UInt8} (hx : x < 9218868437227405312) (hn : NumT t) (hl : t.length ≤ 22) (hp : parseM t = some (x, 0)) (hL : newX [0, 4607182418800017408] x) : Front (say20 t).src 3 (rows20.map (rPut x)) := by
  refine front_mk (ns := ns20.map (nPut x)) (root := root20) ?_ (Rows.put hx (by decide) (by decide) (by kernel_rfl) (by kernel_rfl) (of_decide_eq_true (by kernel_rfl))) (fun nodes0 => ?_) (comp_open cp20 hL (fun z => hL 4607182418800017408 (by simp) z.symm) (by kernel_rfl) (by kernel_rfl))
  · show (((p20_0 ++ t) ++ p20_1)).length ≤ 2048
    simp only [List.length_append]
    have e : p20_0.length + p20_1.length ≤ 1000 := of_decide_eq_true (by kernel_rfl)
    omega
  · show bind1 (bind1 (scanL 400 ((p20_0 ++ t) ++ p20_1) 0 0 []) (parT 400 ((p20_0 ++ t) ++ p20_1) nodes0)) erP = _
    have h := pr20 x t.length ((p20_0 ++ t) ++ p20_1) nodes0
    obtain ⟨z, hz, h⟩ := bnd1 h
    obtain ⟨r, hr, hz⟩ := bnd1 hz
    refine parse_of (r := r) (ascii_app (ascii_app (ascii_of (by kernel_rfl)) (num_ascii hn)) (ascii_of (by kernel_rfl))) ?_ nodes0 ?_
    · rw [List.append_assoc]
      exact pre_step (lx20 _) (num_step hn hl (by refine ⟨?_, ?_, ?_⟩ <;> decide) hp (of_decide_eq_true (by kernel_rfl)) hr (by decide))
    · rw [hz]; exact h
theorem v20a (x : Nat) (t : List UInt8) : endR (coLA 1000 40 60 0 V.nil V.nil 0 (q20a x t) (ld1 (pgR (rows20.map (rPut x))) ts0 3)) = some ((⟨1, V.nil, 0⟩, 0, u20a t, 0, 1), [], o20a x t) := by kernel_rfl
theorem ob20a {x : Nat} {t : List UInt8} (hx : x < 9218868437227405312) (hf : formatM x = some t) (hg : formatM (negM x) = some ([45] ++ t)) (hl : t.length ≤ 22) (hp : parseM t = some (x, 0)) : allOb (o20a x t) := by
  unfold o20a
  exact allOb_cons (txt_num (Nat.lt_trans hx (by decide)) hf) (allOb_cons (by show List.length _ + List.length _ + 1 ≤ 200; simp only [List.length_append, List.length_cons, List.length_nil]; omega) (allOb_nil))
theorem v20b (x : Nat) (t : List UInt8) : endR (coLA 1000 40 60 0 V.nil V.nil 0 (q20b x t) (ld1 (pgR (rows20.map (rPut x))) ts0 2)) = some ((⟨3, V.nil, 9⟩, 0, u20b t, 0, 1), [], o20b x t) := by kernel_rfl
theorem ob20b {x : Nat} {t : List UInt8} (hx : x < 9218868437227405312) (hf : formatM x = some t) (hg : formatM (negM x) = some ([45] ++ t)) (hl : t.length ≤ 22) (hp : parseM t = some (x, 0)) : allOb (o20b x t) := by
  unfold o20b
  exact allOb_nil
theorem op20 {x : Nat} {t : List UInt8} (hx : x < 9218868437227405312) (hf : formatM x = some t) (hL : newX [0, 4607182418800017408] x) (c : CSt) (m : VM) (hJ : JJ c m) : Two say20 0 0 t c m := by
  obtain ⟨t', f1, hn, hl, hp, hg⟩ := fmt_all hx
  rw [hf] at f1
  injection f1 with f1
  subst f1
  have ua : u20a t = (say20 t).out := by simp [u20a, say20]
  have ub : u20b t = (say20 t).short := by simp [u20b, say20]
  exact two_mk (run_mk (fr20 hx hn hl hp hL) (v20a x t) (ob20a hx hf hg hl hp) (by decide) (.inl ⟨rfl, by rw [ua]⟩)) (run_mk (fr20 hx hn hl hp hL) (v20b x t) (ob20b hx hf hg hl hp) (by decide) (.inr ⟨rfl, by rw [ub]⟩)) c m hJ
def nsC20x0 : List Nd := [⟨0, 0, 0, 0, 0, 0, [], 0⟩, ⟨15, 0, 0, 0, 0, 0, [], 0⟩, ⟨1, 1, 0, 0, 7, 0, [97], 0⟩, ⟨17, 0, 0, 0, 0, 0, [97], 0⟩, ⟨15, 0, 0, 0, 0, 0, [], 0⟩, ⟨4, 3, 4, 0, 0, 0, [], 0⟩, ⟨20, 0, 5, 0, 0, 1, [], 0⟩, ⟨3, 6, 0, 0, 11, 0, [102], 0⟩, ⟨17, 0, 0, 0, 0, 0, [97], 0⟩, ⟨10, 8, 0, 0, 0, 0, [], 0⟩, ⟨20, 0, 9, 0, 0, 2, [], 0⟩, ⟨3, 10, 0, 0, 14, 0, [103], 0⟩, ⟨17, 0, 0, 0, 0, 0, [102], 0⟩, ⟨19, 12, 0, 0, 0, 0, [], 0⟩, ⟨5, 13, 0, 0, 19, 0, [], 0⟩, ⟨17, 0, 0, 0, 0, 0, [112, 114, 105, 110, 116], 0⟩, ⟨17, 0, 0, 0, 0, 0, [103], 0⟩, ⟨19, 16, 0, 0, 0, 0, [], 0⟩, ⟨19, 15, 17, 0, 0, 0, [], 0⟩, ⟨5, 18, 0, 0, 0, 0, [], 0⟩]
def rootC20x0 : Int := 2
def rowsC20x0 : List Rw := [⟨0, 3, [], [⟨2, 0, []⟩, ⟨3, 0, [112, 114, 105, 110, 116]⟩], [(1, 0), (6, 0), (28, 1), (6, 1), (28, 2), (6, 2), (5, 1), (26, 0), (25, 0), (25, 0), (9, 1), (5, 2), (26, 0), (25, 0), (26, 1), (25, 0), (25, 0), (29, 0), (2, 0), (2, 0), (27, 0)]⟩, ⟨0, 0, [(1, 0)], [⟨2, 0, []⟩], [(1, 0), (8, 0), (2, 0), (2, 0), (27, 0)]⟩, ⟨0, 0, [(1, 0)], [], [(7, 0), (2, 0), (27, 0), (2, 0), (2, 0), (27, 0)]⟩]
def srcC20x0 : List UInt8 := [108, 111, 99, 97, 108, 32, 97, 32, 61, 32, 48, 32, 108, 111, 99, 97, 108, 32, 102, 117, 110, 99, 116, 105, 111, 110, 32, 102, 40, 41, 32, 97, 32, 61, 32, 48, 32, 101, 110, 100, 32, 108, 111, 99, 97, 108, 32, 102, 117, 110, 99, 116, 105, 111, 110, 32, 103, 40, 41, 32, 114, 101, 116, 117, 114, 110, 32, 97, 32, 101, 110, 100, 32, 102, 40, 41, 32, 112, 114, 105, 110, 116, 40, 103, 40, 41, 41]
def qC20x0a : HQ := List.replicate 1 none
def oC20x0a : List Ob := []
def uC20x0a : List UInt8 := [48, 10]
def qC20x0b : HQ := List.replicate 1 none
def oC20x0b : List Ob := []
def uC20x0b : List UInt8 := []
theorem cpC20x0 : CompK nsC20x0 rootC20x0 3 rowsC20x0 := by
  intro n r0 r1 r2 r3 r4 r5 r6 r7 r8 r9 r10 r11 r12
  kernel_rfl
theorem prC20x0 (src : List UInt8) (nodes0 : List Nd) : bind1 (bind1 (scanS 400 srcC20x0 0 0 []) (parT 400 src nodes0)) erP = some (nsC20x0, rootC20x0) := by kernel_rfl
theorem frC20x0 : Front srcC20x0 3 rowsC20x0 := by
  have e : rowsC20x0.map (rPut ((0 : Nat) : Int)) = rowsC20x0 := by kernel_rfl
  refine front_mk (ns := nsC20x0) (root := rootC20x0) (of_decide_eq_true (by kernel_rfl)) (e ▸ Rows.put (x := 0) (by decide) (by decide) (by decide) (by kernel_rfl) (by kernel_rfl) (of_decide_eq_true (by kernel_rfl))) (fun nodes0 => ?_) cpC20x0.all
  obtain ⟨z, hz, h⟩ := bnd1 (prC20x0 srcC20x0 nodes0)
  obtain ⟨r, hr, hz⟩ := bnd1 hz
  exact parse_of (ascii_of (by kernel_rfl)) hr nodes0 (by rw [hz]; exact h)
theorem vC20x0a : endR (coLA 1000 40 60 0 V.nil V.nil 0 qC20x0a (ld1 (pgR rowsC20x0) ts0 3)) = some ((⟨1, V.nil, 0⟩, 0, uC20x0a, 0, 1), [], oC20x0a) := by kernel_rfl
theorem obC20x0a : allOb oC20x0a := by
  unfold oC20x0a
  exact allOb_nil
theorem vC20x0b : endR (coLA 1000 40 60 0 V.nil V.nil 0 qC20x0b (ld1 (pgR rowsC20x0) ts0 2)) = some ((⟨3, V.nil, 9⟩, 0, uC20x0b, 0, 1), [], oC20x0b) := by kernel_rfl
theorem obC20x0b : allOb oC20x0b := by
  unfold oC20x0b
  exact allOb_nil
theorem opC20x0 (c : CSt) (m : VM) (hJ : JJ c m) : Two say20 0 0 [48] c m := by
  exact two_mk (src := srcC20x0) (run_mk frC20x0 vC20x0a obC20x0a (by decide) (.inl ⟨rfl, rfl⟩)) (run_mk frC20x0 vC20x0b obC20x0b (by decide) (.inr ⟨rfl, rfl⟩)) c m hJ
def nsC20x1 : List Nd := [⟨0, 0, 0, 0, 0, 0, [], 0⟩, ⟨15, 0, 0, 0, 0, 0, [], 0⟩, ⟨1, 1, 0, 0, 7, 0, [97], 0⟩, ⟨17, 0, 0, 0, 0, 0, [97], 0⟩, ⟨15, 0, 0, 0, 0, 4607182418800017408, [], 0⟩, ⟨4, 3, 4, 0, 0, 0, [], 0⟩, ⟨20, 0, 5, 0, 0, 1, [], 0⟩, ⟨3, 6, 0, 0, 11, 0, [102], 0⟩, ⟨17, 0, 0, 0, 0, 0, [97], 0⟩, ⟨10, 8, 0, 0, 0, 0, [], 0⟩, ⟨20, 0, 9, 0, 0, 2, [], 0⟩, ⟨3, 10, 0, 0, 14, 0, [103], 0⟩, ⟨17, 0, 0, 0, 0, 0, [102], 0⟩, ⟨19, 12, 0, 0, 0, 0, [], 0⟩, ⟨5, 13, 0, 0, 19, 0, [], 0⟩, ⟨17, 0, 0, 0, 0, 0, [112, 114, 105, 110, 116], 0⟩, ⟨17, 0, 0, 0, 0, 0, [103], 0⟩, ⟨19, 16, 0, 0, 0, 0, [], 0⟩, ⟨19, 15, 17, 0, 0, 0, [], 0⟩, ⟨5, 18, 0, 0, 0, 0, [], 0⟩]
def rootC20x1 : Int := 2
def rowsC20x1 : List Rw := [⟨0, 3, [], [⟨2, 0, []⟩, ⟨3, 0, [112, 114, 105, 110, 116]⟩], [(1, 0), (6, 0), (28, 1), (6, 1), (28, 2), (6, 2), (5, 1), (26, 0), (25, 0), (25, 0), (9, 1), (5, 2), (26, 0), (25, 0), (26, 1), (25, 0), (25, 0), (29, 0), (2, 0), (2, 0), (27, 0)]⟩, ⟨0, 0, [(1, 0)], [⟨2, 4607182418800017408, []⟩], [(1, 0), (8, 0), (2, 0), (2, 0), (27, 0)]⟩, ⟨0, 0, [(1, 0)], [], [(7, 0), (2, 0), (27, 0), (2, 0), (2, 0), (27, 0)]⟩]
def srcC20x1 : List UInt8 := [108, 111, 99, 97, 108, 32, 97, 32, 61, 32, 48, 32, 108, 111, 99, 97, 108, 32, 102, 117, 110, 99, 116, 105, 111, 110, 32, 102, 40, 41, 32, 97, 32, 61, 32, 49, 32, 101, 110, 100, 32, 108, 111, 99, 97, 108, 32, 102, 117, 110, 99, 116, 105, 111, 110, 32, 103, 40, 41, 32, 114, 101, 116, 117, 114, 110, 32, 97, 32, 101, 110, 100, 32, 102, 40, 41, 32, 112, 114, 105, 110, 116, 40, 103, 40, 41, 41]
def qC20x1a : HQ := List.replicate 1 none
def oC20x1a : List Ob := []
def uC20x1a : List UInt8 := [49, 10]
def qC20x1b : HQ := List.replicate 1 none
def oC20x1b : List Ob := []
def uC20x1b : List UInt8 := []
theorem cpC20x1 : CompK nsC20x1 rootC20x1 3 rowsC20x1 := by
  intro n r0 r1 r2 r3 r4 r5 r6 r7 r8 r9 r10 r11 r12
  kernel_rfl
theorem prC20x1 (src : List UInt8) (nodes0 : List Nd) : bind1 (bind1 (scanS 400 srcC20x1 0 0 []) (parT 400 src nodes0)) erP = some (nsC20x1, rootC20x1) := by kernel_rfl
theorem frC20x1 : Front srcC20x1 3 rowsC20x1 := by
  have e : rowsC20x1.map (rPut ((0 : Nat) : Int)) = rowsC20x1 := by kernel_rfl
  refine front_mk (ns := nsC20x1) (root := rootC20x1) (of_decide_eq_true (by kernel_rfl)) (e ▸ Rows.put (x := 0) (by decide) (by decide) (by decide) (by kernel_rfl) (by kernel_rfl) (of_decide_eq_true (by kernel_rfl))) (fun nodes0 => ?_) cpC20x1.all
  obtain ⟨z, hz, h⟩ := bnd1 (prC20x1 srcC20x1 nodes0)
  obtain ⟨r, hr, hz⟩ := bnd1 hz
  exact parse_of (ascii_of (by kernel_rfl)) hr nodes0 (by rw [hz]; exact h)
theorem vC20x1a : endR (coLA 1000 40 60 0 V.nil V.nil 0 qC20x1a (ld1 (pgR rowsC20x1) ts0 3)) = some ((⟨1, V.nil, 0⟩, 0, uC20x1a, 0, 1), [], oC20x1a) := by kernel_rfl
theorem obC20x1a : allOb oC20x1a := by
  unfold oC20x1a
  exact allOb_nil
theorem vC20x1b : endR (coLA 1000 40 60 0 V.nil V.nil 0 qC20x1b (ld1 (pgR rowsC20x1) ts0 2)) = some ((⟨3, V.nil, 9⟩, 0, uC20x1b, 0, 1), [], oC20x1b) := by kernel_rfl
theorem obC20x1b : allOb oC20x1b := by
  unfold oC20x1b
  exact allOb_nil
theorem opC20x1 (c : CSt) (m : VM) (hJ : JJ c m) : Two say20 0 0 [49] c m := by
  exact two_mk (src := srcC20x1) (run_mk frC20x1 vC20x1a obC20x1a (by decide) (.inl ⟨rfl, rfl⟩)) (run_mk frC20x1 vC20x1b obC20x1b (by decide) (.inr ⟨rfl, rfl⟩)) c m hJ
theorem one20 {x : Nat} {t : List UInt8} (hx : x < 9218868437227405312) (hf : formatM x = some t) (c : CSt) (m : VM) (hJ : JJ c m) : Two say20 0 0 t c m := by
  by_cases h0 : x = 0
  · subst h0
    have e : formatM 0 = some [48] := by kernel_rfl
    rw [e] at hf
    injection hf with hf
    subst hf
    exact opC20x0 c m hJ
  by_cases h1 : x = 4607182418800017408
  · subst h1
    have e : formatM 4607182418800017408 = some [49] := by kernel_rfl
    rw [e] at hf
    injection hf with hf
    subst hf
    exact opC20x1 c m hJ
  refine op20 hx hf ?_ c m hJ
  intro z hz
  simp only [List.mem_cons, List.not_mem_nil, or_false] at hz
  rcases hz with rfl | rfl <;> omega
def ns29 : List Nd := [⟨0, 0, 0, 0, 0, 0, [], 0⟩, ⟨17, 0, 0, 0, 2, 0, [97], 0⟩, ⟨17, 0, 0, 0, 3, 0, [98], 0⟩, ⟨17, 0, 0, 0, 0, 0, [99], 0⟩, ⟨17, 0, 0, 0, 0, 0, [97], 0⟩, ⟨17, 0, 0, 0, 0, 0, [98], 0⟩, ⟨17, 0, 0, 0, 0, 0, [99], 0⟩, ⟨22, 5, 6, 0, 0, 20, [], 0⟩, ⟨22, 4, 7, 0, 0, 20, [], 0⟩, ⟨10, 8, 0, 0, 0, 0, [], 0⟩, ⟨20, 1, 9, 0, 0, 1, [], 0⟩, ⟨3, 10, 0, 0, 19, 0, [102], 0⟩, ⟨17, 0, 0, 0, 0, 0, [112, 114, 105, 110, 116], 0⟩, ⟨17, 0, 0, 0, 0, 0, [102], 0⟩, ⟨15, 0, 0, 0, 15, 4607182418800017408, [], 0⟩, ⟨15, 0, 0, 0, 16, 4611686018427387904, [], 0⟩, ⟨15, 0, 0, 0, 0, -1, [], 0⟩, ⟨19, 13, 14, 0, 0, 0, [], 0⟩, ⟨19, 12, 17, 0, 0, 0, [], 0⟩, ⟨5, 18, 0, 0, 0, 0, [], 0⟩]
def root29 : Int := 11
def rows29 : List Rw := [⟨0, 1, [], [⟨3, 0, [112, 114, 105, 110, 116]⟩, ⟨2, 4607182418800017408, []⟩, ⟨2, 4611686018427387904, []⟩, ⟨2, -1, []⟩], [(28, 1), (6, 0), (9, 0), (5, 0), (1, 1), (1, 2), (1, 3), (26, 3), (25, 0), (26, 1), (25, 0), (25, 0), (29, 0), (2, 0), (2, 0), (27, 0)]⟩, ⟨3, 3, [], [], [(5, 0), (5, 1), (5, 2), (17, 0), (17, 0), (2, 0), (27, 0), (2, 0), (2, 0), (27, 0)]⟩]
def q29a (x : Nat) (t : List UInt8) : HQ := [some ⟨[50], t, ([50] ++ t), 0⟩, some ⟨[49], ([50] ++ t), ([49, 50] ++ t), 0⟩, some ⟨([49, 50] ++ t), [], [], 0⟩]
def o29a (x : Nat) (t : List UInt8) : List Ob := [.txt ⟨2, 4611686018427387904, []⟩ [50], .txt ⟨2, ((x : Nat) : Int), []⟩ t, .cat [50] t ([50] ++ t), .txt ⟨2, 4607182418800017408, []⟩ [49], .txt ⟨3, 0, ([50] ++ t)⟩ ([50] ++ t), .cat [49] ([50] ++ t) ([49, 50] ++ t), .txt ⟨3, 0, ([49, 50] ++ t)⟩ ([49, 50] ++ t), .out [] ([49, 50] ++ t)]
def u29a (t : List UInt8) : List UInt8 := (([] ++ ([49, 50] ++ t)) ++ [10])
def q29b (x : Nat) (t : List UInt8) : HQ := [some ⟨[50], t, ([50] ++ t), 0⟩, some ⟨[49], ([50] ++ t), ([49, 50] ++ t), 0⟩, none]
def o29b (x : Nat) (t : List UInt8) : List Ob := [.txt ⟨2, 4611686018427387904, []⟩ [50], .txt ⟨2, ((x : Nat) : Int), []⟩ t, .cat [50] t ([50] ++ t), .txt ⟨2, 4607182418800017408, []⟩ [49], .txt ⟨3, 0, ([50] ++ t)⟩ ([50] ++ t), .cat [49] ([50] ++ t) ([49, 50] ++ t)]
def u29b (t : List UInt8) : List UInt8 := []
theorem cp29 : CompK ns29 root29 2 rows29 := by
  intro n r0 r1 r2 r3 r4 r5 r6 r7 r8 r9 r10 r11 r12
  kernel_rfl
def p29_0 : List UInt8 := [108, 111, 99, 97, 108, 32, 102, 117, 110, 99, 116, 105, 111, 110, 32, 102, 40, 97, 44, 32, 98, 44, 32, 99, 41, 32, 114, 101, 116, 117, 114, 110, 32, 97, 32, 46, 46, 32, 98, 32, 46, 46, 32, 99, 32, 101, 110, 100, 32, 112, 114, 105, 110, 116, 40, 102, 40, 49, 44, 32, 50, 44, 32]
def p29_1 : List UInt8 := [41, 41]
theorem lx29 (w : List UInt8) : scanW w 400 p29_0 0 0 [] = some (337, 63, 0, tkP 400 p29_0 0) := by kernel_rfl
theorem pr29 (x len : Nat) (src : List UInt8) (nodes0 : List Nd) : bind1 (bind1 (scanS 200 p29_1 (63 + len) 0 (tkP 400 p29_0 0 ++ [⟨3, 63, [], ((x : Nat) : Int), 0⟩])) (parT 400 src nodes0)) erP = some (ns29.map (nPut x), root29) := by kernel_rfl
theorem fr29 {x : Nat} {t : List UInt8} (hx : x < 9218868437227405312) (hn : NumT t) (hl : t.length ≤ 22) (hp : parseM t = some (x, 0)) (hL : newX [4607182418800017408, 4611686018427387904] x) : Front (say29 t).src 2 (rows29.map (rPut x)) := by
  refine front_mk (ns := ns29.map (nPut x)) (root := root29) ?_ (Rows.put hx (by decide) (by decide) (by kernel_rfl) (by kernel_rfl) (of_decide_eq_true (by kernel_rfl))) (fun nodes0 => ?_) (comp_open cp29 hL (fun z => hL 4607182418800017408 (by simp) z.symm) (by kernel_rfl) (by kernel_rfl))
  · show (((p29_0 ++ t) ++ p29_1)).length ≤ 2048
    simp only [List.length_append]
    have e : p29_0.length + p29_1.length ≤ 1000 := of_decide_eq_true (by kernel_rfl)
    omega
  · show bind1 (bind1 (scanL 400 ((p29_0 ++ t) ++ p29_1) 0 0 []) (parT 400 ((p29_0 ++ t) ++ p29_1) nodes0)) erP = _
    have h := pr29 x t.length ((p29_0 ++ t) ++ p29_1) nodes0
    obtain ⟨z, hz, h⟩ := bnd1 h
    obtain ⟨r, hr, hz⟩ := bnd1 hz
    refine parse_of (r := r) (ascii_app (ascii_app (ascii_of (by kernel_rfl)) (num_ascii hn)) (ascii_of (by kernel_rfl))) ?_ nodes0 ?_
    · rw [List.append_assoc]
      exact pre_step (lx29 _) (num_step hn hl (by refine ⟨?_, ?_, ?_⟩ <;> decide) hp (of_decide_eq_true (by kernel_rfl)) hr (by decide))
    · rw [hz]; exact h
theorem v29a (x : Nat) (t : List UInt8) : endR (coLA 1000 40 60 0 V.nil V.nil 0 (q29a x t) (ld1 (pgR (rows29.map (rPut x))) ts0 2)) = some ((⟨1, V.nil, 0⟩, 0, u29a t, 0, 1), [], o29a x t) := by kernel_rfl
theorem ob29a {x : Nat} {t : List UInt8} (hx : x < 9218868437227405312) (hf : formatM x = some t) (hg : formatM (negM x) = some ([45] ++ t)) (hl : t.length ≤ 22) (hp : parseM t = some (x, 0)) : allOb (o29a x t) := by
  unfold o29a
  exact allOb_cons (show textM _ = some _ from (by kernel_rfl)) (allOb_cons (txt_num (Nat.lt_trans hx (by decide)) hf) (allOb_cons (by show List.length _ + List.length _ ≤ 40 ∧ _ = _ ++ _; refine ⟨?_, ?_⟩; (simp only [List.length_append, List.length_cons, List.length_nil]; omega); (simp)) (allOb_cons (show textM _ = some _ from (by kernel_rfl)) (allOb_cons (txt_str _) (allOb_cons (by show List.length _ + List.length _ ≤ 40 ∧ _ = _ ++ _; refine ⟨?_, ?_⟩; (simp only [List.length_append, List.length_cons, List.length_nil]; omega); (simp)) (allOb_cons (txt_str _) (allOb_cons (by show List.length _ + List.length _ + 1 ≤ 200; simp only [List.length_append, List.length_cons, List.length_nil]; omega) (allOb_nil))))))))
theorem v29b (x : Nat) (t : List UInt8) : endR (coLA 1000 40 60 0 V.nil V.nil 0 (q29b x t) (ld1 (pgR (rows29.map (rPut x))) ts0 1)) = some ((⟨3, V.nil, 9⟩, 0, u29b t, 0, 1), [], o29b x t) := by kernel_rfl
theorem ob29b {x : Nat} {t : List UInt8} (hx : x < 9218868437227405312) (hf : formatM x = some t) (hg : formatM (negM x) = some ([45] ++ t)) (hl : t.length ≤ 22) (hp : parseM t = some (x, 0)) : allOb (o29b x t) := by
  unfold o29b
  exact allOb_cons (show textM _ = some _ from (by kernel_rfl)) (allOb_cons (txt_num (Nat.lt_trans hx (by decide)) hf) (allOb_cons (by show List.length _ + List.length _ ≤ 40 ∧ _ = _ ++ _; refine ⟨?_, ?_⟩; (simp only [List.length_append, List.length_cons, List.length_nil]; omega); (simp)) (allOb_cons (show textM _ = some _ from (by kernel_rfl)) (allOb_cons (txt_str _) (allOb_cons (by show List.length _ + List.length _ ≤ 40 ∧ _ = _ ++ _; refine ⟨?_, ?_⟩; (simp only [List.length_append, List.length_cons, List.length_nil]; omega); (simp)) (allOb_nil))))))
theorem op29 {x : Nat} {t : List UInt8} (hx : x < 9218868437227405312) (hf : formatM x = some t) (hL : newX [4607182418800017408, 4611686018427387904] x) (c : CSt) (m : VM) (hJ : JJ c m) : Two say29 0 0 t c m := by
  obtain ⟨t', f1, hn, hl, hp, hg⟩ := fmt_all hx
  rw [hf] at f1
  injection f1 with f1
  subst f1
  have ua : u29a t = (say29 t).out := by simp [u29a, say29]
  have ub : u29b t = (say29 t).short := by simp [u29b, say29]
  exact two_mk (run_mk (fr29 hx hn hl hp hL) (v29a x t) (ob29a hx hf hg hl hp) (by decide) (.inl ⟨rfl, by rw [ua]⟩)) (run_mk (fr29 hx hn hl hp hL) (v29b x t) (ob29b hx hf hg hl hp) (by decide) (.inr ⟨rfl, by rw [ub]⟩)) c m hJ
def nsC29x0 : List Nd := [⟨0, 0, 0, 0, 0, 0, [], 0⟩, ⟨17, 0, 0, 0, 2, 0, [97], 0⟩, ⟨17, 0, 0, 0, 3, 0, [98], 0⟩, ⟨17, 0, 0, 0, 0, 0, [99], 0⟩, ⟨17, 0, 0, 0, 0, 0, [97], 0⟩, ⟨17, 0, 0, 0, 0, 0, [98], 0⟩, ⟨17, 0, 0, 0, 0, 0, [99], 0⟩, ⟨22, 5, 6, 0, 0, 20, [], 0⟩, ⟨22, 4, 7, 0, 0, 20, [], 0⟩, ⟨10, 8, 0, 0, 0, 0, [], 0⟩, ⟨20, 1, 9, 0, 0, 1, [], 0⟩, ⟨3, 10, 0, 0, 19, 0, [102], 0⟩, ⟨17, 0, 0, 0, 0, 0, [112, 114, 105, 110, 116], 0⟩, ⟨17, 0, 0, 0, 0, 0, [102], 0⟩, ⟨15, 0, 0, 0, 15, 4607182418800017408, [], 0⟩, ⟨15, 0, 0, 0, 16, 4611686018427387904, [], 0⟩, ⟨15, 0, 0, 0, 0, 4607182418800017408, [], 0⟩, ⟨19, 13, 14, 0, 0, 0, [], 0⟩, ⟨19, 12, 17, 0, 0, 0, [], 0⟩, ⟨5, 18, 0, 0, 0, 0, [], 0⟩]
def rootC29x0 : Int := 11
def rowsC29x0 : List Rw := [⟨0, 1, [], [⟨3, 0, [112, 114, 105, 110, 116]⟩, ⟨2, 4607182418800017408, []⟩, ⟨2, 4611686018427387904, []⟩], [(28, 1), (6, 0), (9, 0), (5, 0), (1, 1), (1, 2), (1, 1), (26, 3), (25, 0), (26, 1), (25, 0), (25, 0), (29, 0), (2, 0), (2, 0), (27, 0)]⟩, ⟨3, 3, [], [], [(5, 0), (5, 1), (5, 2), (17, 0), (17, 0), (2, 0), (27, 0), (2, 0), (2, 0), (27, 0)]⟩]
def srcC29x0 : List UInt8 := [108, 111, 99, 97, 108, 32, 102, 117, 110, 99, 116, 105, 111, 110, 32, 102, 40, 97, 44, 32, 98, 44, 32, 99, 41, 32, 114, 101, 116, 117, 114, 110, 32, 97, 32, 46, 46, 32, 98, 32, 46, 46, 32, 99, 32, 101, 110, 100, 32, 112, 114, 105, 110, 116, 40, 102, 40, 49, 44, 32, 50, 44, 32, 49, 41, 41]
def qC29x0a : HQ := List.replicate 3 none
def oC29x0a : List Ob := []
def uC29x0a : List UInt8 := [49, 50, 49, 10]
def qC29x0b : HQ := List.replicate 3 none
def oC29x0b : List Ob := []
def uC29x0b : List UInt8 := []
theorem cpC29x0 : CompK nsC29x0 rootC29x0 2 rowsC29x0 := by
  intro n r0 r1 r2 r3 r4 r5 r6 r7 r8 r9 r10 r11 r12
  kernel_rfl
theorem prC29x0 (src : List UInt8) (nodes0 : List Nd) : bind1 (bind1 (scanS 400 srcC29x0 0 0 []) (parT 400 src nodes0)) erP = some (nsC29x0, rootC29x0) := by kernel_rfl
theorem frC29x0 : Front srcC29x0 2 rowsC29x0 := by
  have e : rowsC29x0.map (rPut ((0 : Nat) : Int)) = rowsC29x0 := by kernel_rfl
  refine front_mk (ns := nsC29x0) (root := rootC29x0) (of_decide_eq_true (by kernel_rfl)) (e ▸ Rows.put (x := 0) (by decide) (by decide) (by decide) (by kernel_rfl) (by kernel_rfl) (of_decide_eq_true (by kernel_rfl))) (fun nodes0 => ?_) cpC29x0.all
  obtain ⟨z, hz, h⟩ := bnd1 (prC29x0 srcC29x0 nodes0)
  obtain ⟨r, hr, hz⟩ := bnd1 hz
  exact parse_of (ascii_of (by kernel_rfl)) hr nodes0 (by rw [hz]; exact h)
theorem vC29x0a : endR (coLA 1000 40 60 0 V.nil V.nil 0 qC29x0a (ld1 (pgR rowsC29x0) ts0 2)) = some ((⟨1, V.nil, 0⟩, 0, uC29x0a, 0, 1), [], oC29x0a) := by kernel_rfl
theorem obC29x0a : allOb oC29x0a := by
  unfold oC29x0a
  exact allOb_nil
theorem vC29x0b : endR (coLA 1000 40 60 0 V.nil V.nil 0 qC29x0b (ld1 (pgR rowsC29x0) ts0 1)) = some ((⟨3, V.nil, 9⟩, 0, uC29x0b, 0, 1), [], oC29x0b) := by kernel_rfl
theorem obC29x0b : allOb oC29x0b := by
  unfold oC29x0b
  exact allOb_nil
theorem opC29x0 (c : CSt) (m : VM) (hJ : JJ c m) : Two say29 0 0 [49] c m := by
  exact two_mk (src := srcC29x0) (run_mk frC29x0 vC29x0a obC29x0a (by decide) (.inl ⟨rfl, rfl⟩)) (run_mk frC29x0 vC29x0b obC29x0b (by decide) (.inr ⟨rfl, rfl⟩)) c m hJ
def nsC29x1 : List Nd := [⟨0, 0, 0, 0, 0, 0, [], 0⟩, ⟨17, 0, 0, 0, 2, 0, [97], 0⟩, ⟨17, 0, 0, 0, 3, 0, [98], 0⟩, ⟨17, 0, 0, 0, 0, 0, [99], 0⟩, ⟨17, 0, 0, 0, 0, 0, [97], 0⟩, ⟨17, 0, 0, 0, 0, 0, [98], 0⟩, ⟨17, 0, 0, 0, 0, 0, [99], 0⟩, ⟨22, 5, 6, 0, 0, 20, [], 0⟩, ⟨22, 4, 7, 0, 0, 20, [], 0⟩, ⟨10, 8, 0, 0, 0, 0, [], 0⟩, ⟨20, 1, 9, 0, 0, 1, [], 0⟩, ⟨3, 10, 0, 0, 19, 0, [102], 0⟩, ⟨17, 0, 0, 0, 0, 0, [112, 114, 105, 110, 116], 0⟩, ⟨17, 0, 0, 0, 0, 0, [102], 0⟩, ⟨15, 0, 0, 0, 15, 4607182418800017408, [], 0⟩, ⟨15, 0, 0, 0, 16, 4611686018427387904, [], 0⟩, ⟨15, 0, 0, 0, 0, 4611686018427387904, [], 0⟩, ⟨19, 13, 14, 0, 0, 0, [], 0⟩, ⟨19, 12, 17, 0, 0, 0, [], 0⟩, ⟨5, 18, 0, 0, 0, 0, [], 0⟩]
def rootC29x1 : Int := 11
def rowsC29x1 : List Rw := [⟨0, 1, [], [⟨3, 0, [112, 114, 105, 110, 116]⟩, ⟨2, 4607182418800017408, []⟩, ⟨2, 4611686018427387904, []⟩], [(28, 1), (6, 0), (9, 0), (5, 0), (1, 1), (1, 2), (1, 2), (26, 3), (25, 0), (26, 1), (25, 0), (25, 0), (29, 0), (2, 0), (2, 0), (27, 0)]⟩, ⟨3, 3, [], [], [(5, 0), (5, 1), (5, 2), (17, 0), (17, 0), (2, 0), (27, 0), (2, 0), (2, 0), (27, 0)]⟩]
def srcC29x1 : List UInt8 := [108, 111, 99, 97, 108, 32, 102, 117, 110, 99, 116, 105, 111, 110, 32, 102, 40, 97, 44, 32, 98, 44, 32, 99, 41, 32, 114, 101, 116, 117, 114, 110, 32, 97, 32, 46, 46, 32, 98, 32, 46, 46, 32, 99, 32, 101, 110, 100, 32, 112, 114, 105, 110, 116, 40, 102, 40, 49, 44, 32, 50, 44, 32, 50, 41, 41]
def qC29x1a : HQ := List.replicate 3 none
def oC29x1a : List Ob := []
def uC29x1a : List UInt8 := [49, 50, 50, 10]
def qC29x1b : HQ := List.replicate 3 none
def oC29x1b : List Ob := []
def uC29x1b : List UInt8 := []
theorem cpC29x1 : CompK nsC29x1 rootC29x1 2 rowsC29x1 := by
  intro n r0 r1 r2 r3 r4 r5 r6 r7 r8 r9 r10 r11 r12
  kernel_rfl
theorem prC29x1 (src : List UInt8) (nodes0 : List Nd) : bind1 (bind1 (scanS 400 srcC29x1 0 0 []) (parT 400 src nodes0)) erP = some (nsC29x1, rootC29x1) := by kernel_rfl
theorem frC29x1 : Front srcC29x1 2 rowsC29x1 := by
  have e : rowsC29x1.map (rPut ((0 : Nat) : Int)) = rowsC29x1 := by kernel_rfl
  refine front_mk (ns := nsC29x1) (root := rootC29x1) (of_decide_eq_true (by kernel_rfl)) (e ▸ Rows.put (x := 0) (by decide) (by decide) (by decide) (by kernel_rfl) (by kernel_rfl) (of_decide_eq_true (by kernel_rfl))) (fun nodes0 => ?_) cpC29x1.all
  obtain ⟨z, hz, h⟩ := bnd1 (prC29x1 srcC29x1 nodes0)
  obtain ⟨r, hr, hz⟩ := bnd1 hz
  exact parse_of (ascii_of (by kernel_rfl)) hr nodes0 (by rw [hz]; exact h)
theorem vC29x1a : endR (coLA 1000 40 60 0 V.nil V.nil 0 qC29x1a (ld1 (pgR rowsC29x1) ts0 2)) = some ((⟨1, V.nil, 0⟩, 0, uC29x1a, 0, 1), [], oC29x1a) := by kernel_rfl
theorem obC29x1a : allOb oC29x1a := by
  unfold oC29x1a
  exact allOb_nil
theorem vC29x1b : endR (coLA 1000 40 60 0 V.nil V.nil 0 qC29x1b (ld1 (pgR rowsC29x1) ts0 1)) = some ((⟨3, V.nil, 9⟩, 0, uC29x1b, 0, 1), [], oC29x1b) := by kernel_rfl
theorem obC29x1b : allOb oC29x1b := by
  unfold oC29x1b
  exact allOb_nil
theorem opC29x1 (c : CSt) (m : VM) (hJ : JJ c m) : Two say29 0 0 [50] c m := by
  exact two_mk (src := srcC29x1) (run_mk frC29x1 vC29x1a obC29x1a (by decide) (.inl ⟨rfl, rfl⟩)) (run_mk frC29x1 vC29x1b obC29x1b (by decide) (.inr ⟨rfl, rfl⟩)) c m hJ
theorem one29 {x : Nat} {t : List UInt8} (hx : x < 9218868437227405312) (hf : formatM x = some t) (c : CSt) (m : VM) (hJ : JJ c m) : Two say29 0 0 t c m := by
  by_cases h0 : x = 4607182418800017408
  · subst h0
    have e : formatM 4607182418800017408 = some [49] := by kernel_rfl
    rw [e] at hf
    injection hf with hf
    subst hf
    exact opC29x0 c m hJ
  by_cases h1 : x = 4611686018427387904
  · subst h1
    have e : formatM 4611686018427387904 = some [50] := by kernel_rfl
    rw [e] at hf
    injection hf with hf
    subst hf
    exact opC29x1 c m hJ
  refine op29 hx hf ?_ c m hJ
  intro z hz
  simp only [List.mem_cons, List.not_mem_nil, or_false] at hz
  rcases hz with rfl | rfl <;> omega
def nsC38x0 : List Nd := [⟨0, 0, 0, 0, 0, 0, [], 0⟩, ⟨16, 0, 0, 0, 0, 0, [], 0⟩, ⟨1, 1, 0, 0, 12, 0, [115], 0⟩, ⟨17, 0, 0, 0, 0, 0, [120], 0⟩, ⟨17, 0, 0, 0, 0, 0, [115], 0⟩, ⟨17, 0, 0, 0, 0, 0, [115], 0⟩, ⟨17, 0, 0, 0, 0, 0, [120], 0⟩, ⟨22, 5, 6, 0, 0, 20, [], 0⟩, ⟨4, 4, 7, 0, 10, 0, [], 0⟩, ⟨17, 0, 0, 0, 0, 0, [120], 0⟩, ⟨10, 9, 0, 0, 0, 0, [], 0⟩, ⟨20, 3, 8, 0, 0, 1, [], 0⟩, ⟨3, 11, 0, 0, 20, 0, [102], 0⟩, ⟨17, 0, 0, 0, 0, 0, [102], 0⟩, ⟨15, 0, 0, 0, 0, 4607182418800017408, [], 0⟩, ⟨19, 13, 14, 0, 18, 0, [], 0⟩, ⟨17, 0, 0, 0, 0, 0, [102], 0⟩, ⟨15, 0, 0, 0, 0, 4611686018427387904, [], 0⟩, ⟨19, 16, 17, 0, 0, 0, [], 0⟩, ⟨21, 15, 0, 0, 0, 0, [], 0⟩, ⟨1, 19, 0, 0, 29, 0, [116], 0⟩, ⟨17, 0, 0, 0, 0, 0, [116], 0⟩, ⟨17, 0, 0, 0, 0, 0, [102], 0⟩, ⟨15, 0, 0, 0, 0, 4613937818241073152, [], 0⟩, ⟨19, 22, 23, 0, 0, 0, [], 0⟩, ⟨18, 21, 24, 0, 0, 0, [], 0⟩, ⟨17, 0, 0, 0, 0, 0, [102], 0⟩, ⟨15, 0, 0, 0, 0, 4616189618054758400, [], 0⟩, ⟨19, 26, 27, 0, 0, 0, [], 0⟩, ⟨4, 25, 28, 0, 33, 0, [], 0⟩, ⟨17, 0, 0, 0, 0, 0, [112, 114, 105, 110, 116], 0⟩, ⟨17, 0, 0, 0, 0, 0, [115], 0⟩, ⟨19, 30, 31, 0, 0, 0, [], 0⟩, ⟨5, 32, 0, 0, 0, 0, [], 0⟩]
def rootC38x0 : Int := 2
def rowsC38x0 : List Rw := [⟨0, 3, [], [⟨3, 0, []⟩, ⟨2, 4607182418800017408, []⟩, ⟨2, 4611686018427387904, []⟩, ⟨2, 4613937818241073152, []⟩, ⟨2, 4616189618054758400, []⟩, ⟨3, 0, [112, 114, 105, 110, 116]⟩], [(1, 0), (6, 0), (28, 1), (6, 1), (14, 0), (5, 1), (1, 1), (26, 1), (25, 0), (13, 1), (5, 1), (1, 2), (26, 1), (25, 0), (13, 2), (6, 2), (5, 2), (5, 1), (1, 3), (26, 1), (25, 0), (5, 1), (1, 4), (26, 1), (25, 0), (12, 0), (9, 5), (5, 0), (26, 1), (25, 0), (25, 0), (29, 0), (2, 0), (2, 0), (27, 0)]⟩, ⟨1, 1, [(1, 0)], [], [(7, 0), (5, 0), (17, 0), (8, 0), (5, 0), (2, 0), (27, 0), (2, 0), (2, 0), (27, 0)]⟩]
def srcC38x0 : List UInt8 := [108, 111, 99, 97, 108, 32, 115, 32, 61, 32, 34, 34, 32, 108, 111, 99, 97, 108, 32, 102, 117, 110, 99, 116, 105, 111, 110, 32, 102, 40, 120, 41, 32, 115, 32, 61, 32, 115, 32, 46, 46, 32, 120, 32, 114, 101, 116, 117, 114, 110, 32, 120, 32, 101, 110, 100, 32, 108, 111, 99, 97, 108, 32, 116, 32, 61, 32, 123, 102, 40, 49, 41, 44, 32, 102, 40, 50, 41, 125, 32, 116, 91, 102, 40, 51, 41, 93, 32, 61, 32, 102, 40, 52, 41, 32, 112, 114, 105, 110, 116, 40, 115, 41]
def qC38x0a : HQ := List.replicate 5 none
def oC38x0a : List Ob := []
def uC38x0a : List UInt8 := [49, 50, 51, 52, 10]
def qC38x0b : HQ := List.replicate 5 none
def oC38x0b : List Ob := []
def uC38x0b : List UInt8 := []
theorem cpC38x0 : CompK nsC38x0 rootC38x0 2 rowsC38x0 := by
  intro n r0 r1 r2 r3 r4 r5 r6 r7 r8 r9 r10 r11 r12
  kernel_rfl
theorem prC38x0 (src : List UInt8) (nodes0 : List Nd) : bind1 (bind1 (scanS 400 srcC38x0 0 0 []) (parT 400 src nodes0)) erP = some (nsC38x0, rootC38x0) := by kernel_rfl
theorem frC38x0 : Front srcC38x0 2 rowsC38x0 := by
  have e : rowsC38x0.map (rPut ((0 : Nat) : Int)) = rowsC38x0 := by kernel_rfl
  refine front_mk (ns := nsC38x0) (root := rootC38x0) (of_decide_eq_true (by kernel_rfl)) (e ▸ Rows.put (x := 0) (by decide) (by decide) (by decide) (by kernel_rfl) (by kernel_rfl) (of_decide_eq_true (by kernel_rfl))) (fun nodes0 => ?_) cpC38x0.all
  obtain ⟨z, hz, h⟩ := bnd1 (prC38x0 srcC38x0 nodes0)
  obtain ⟨r, hr, hz⟩ := bnd1 hz
  exact parse_of (ascii_of (by kernel_rfl)) hr nodes0 (by rw [hz]; exact h)
theorem vC38x0a : endR (coLA 1000 40 60 0 V.nil V.nil 0 qC38x0a (ld1 (pgR rowsC38x0) ts0 5)) = some ((⟨1, V.nil, 0⟩, 0, uC38x0a, 0, 2), [], oC38x0a) := by kernel_rfl
theorem obC38x0a : allOb oC38x0a := by
  unfold oC38x0a
  exact allOb_nil
theorem vC38x0b : endR (coLA 1000 40 60 0 V.nil V.nil 0 qC38x0b (ld1 (pgR rowsC38x0) ts0 4)) = some ((⟨3, V.nil, 9⟩, 0, uC38x0b, 0, 2), [], oC38x0b) := by kernel_rfl
theorem obC38x0b : allOb oC38x0b := by
  unfold oC38x0b
  exact allOb_nil
theorem opC38x0 (t : List UInt8) (c : CSt) (m : VM) (hJ : JJ c m) : Two say38 0 0 t c m := by
  exact two_mk (src := srcC38x0) (run_mk frC38x0 vC38x0a obC38x0a (by decide) (.inl ⟨rfl, rfl⟩)) (run_mk frC38x0 vC38x0b obC38x0b (by decide) (.inr ⟨rfl, rfl⟩)) c m hJ
theorem one38 {x : Nat} {t : List UInt8} (hx : x < 9218868437227405312) (hf : formatM x = some t) (c : CSt) (m : VM) (hJ : JJ c m) : Two say38 0 0 t c m := opC38x0 t c m hJ
def ns47 : List Nd := [⟨0, 0, 0, 0, 0, 0, [], 0⟩, ⟨21, 0, 0, 0, 0, 0, [], 0⟩, ⟨1, 1, 0, 0, 7, 0, [116], 0⟩, ⟨17, 0, 0, 0, 0, 0, [116], 0⟩, ⟨16, 0, 0, 0, 0, 0, [98], 0⟩, ⟨18, 3, 4, 0, 0, 0, [], 0⟩, ⟨15, 0, 0, 0, 0, 0, [], 0⟩, ⟨4, 5, 6, 0, 12, 0, [], 0⟩, ⟨17, 0, 0, 0, 0, 0, [116], 0⟩, ⟨16, 0, 0, 0, 0, 0, [99], 0⟩, ⟨18, 8, 9, 0, 0, 0, [], 0⟩, ⟨15, 0, 0, 0, 0, -1, [], 0⟩, ⟨4, 10, 11, 0, 17, 0, [], 0⟩, ⟨17, 0, 0, 0, 0, 0, [116], 0⟩, ⟨16, 0, 0, 0, 0, 0, [97], 0⟩, ⟨18, 13, 14, 0, 0, 0, [], 0⟩, ⟨15, 0, 0, 0, 0, 4607182418800017408, [], 0⟩, ⟨4, 15, 16, 0, 22, 0, [], 0⟩, ⟨17, 0, 0, 0, 0, 0, [116], 0⟩, ⟨16, 0, 0, 0, 0, 0, [98], 0⟩, ⟨18, 18, 19, 0, 0, 0, [], 0⟩, ⟨12, 0, 0, 0, 0, 0, [], 0⟩, ⟨4, 20, 21, 0, 28, 0, [], 0⟩, ⟨17, 0, 0, 0, 24, 0, [107], 0⟩, ⟨17, 0, 0, 0, 0, 0, [118], 0⟩, ⟨17, 0, 0, 0, 0, 0, [110, 101, 120, 116], 0⟩, ⟨17, 0, 0, 0, 0, 0, [116], 0⟩, ⟨19, 25, 26, 0, 0, 0, [], 0⟩, ⟨2, 23, 27, 0, 32, 0, [], 0⟩, ⟨17, 0, 0, 0, 0, 0, [112, 114, 105, 110, 116], 0⟩, ⟨17, 0, 0, 0, 0, 0, [107], 0⟩, ⟨19, 29, 30, 0, 0, 0, [], 0⟩, ⟨5, 31, 0, 0, 36, 0, [], 0⟩, ⟨17, 0, 0, 0, 0, 0, [112, 114, 105, 110, 116], 0⟩, ⟨17, 0, 0, 0, 0, 0, [118], 0⟩, ⟨19, 33, 34, 0, 0, 0, [], 0⟩, ⟨5, 35, 0, 0, 41, 0, [], 0⟩, ⟨17, 0, 0, 0, 0, 0, [112, 114, 105, 110, 116], 0⟩, ⟨17, 0, 0, 0, 0, 0, [116], 0⟩, ⟨23, 38, 0, 0, 0, 3, [], 0⟩, ⟨19, 37, 39, 0, 0, 0, [], 0⟩, ⟨5, 40, 0, 0, 0, 0, [], 0⟩]
def root47 : Int := 2
def rows47 : List Rw := [⟨0, 3, [], [⟨3, 0, [98]⟩, ⟨2, 0, []⟩, ⟨3, 0, [99]⟩, ⟨2, -1, []⟩, ⟨3, 0, [97]⟩, ⟨2, 4607182418800017408, []⟩, ⟨3, 0, [110, 101, 120, 116]⟩, ⟨3, 0, [112, 114, 105, 110, 116]⟩], [(14, 0), (6, 0), (5, 0), (1, 0), (1, 1), (12, 0), (5, 0), (1, 2), (1, 3), (12, 0), (5, 0), (1, 4), (1, 5), (12, 0), (5, 0), (1, 0), (2, 0), (12, 0), (9, 6), (5, 0), (26, 1), (6, 2), (6, 1), (9, 7), (5, 1), (26, 1), (25, 0), (25, 0), (9, 7), (5, 2), (26, 1), (25, 0), (25, 0), (9, 7), (5, 0), (20, 0), (26, 1), (25, 0), (25, 0), (29, 0), (2, 0), (2, 0), (27, 0)]⟩]
def q47a (x : Nat) (t : List UInt8) : HQ := [none, some ⟨t, [], [], 0⟩, some ⟨[], [], [], 1⟩]
def o47a (x : Nat) (t : List UInt8) : List Ob := [.txt ⟨2, ((x : Nat) : Int), []⟩ t, .out [99, 10] t, .out (([99, 10] ++ t) ++ [10]) [48]]
def u47a (t : List UInt8) : List UInt8 := (((([99, 10] ++ t) ++ [10]) ++ [48]) ++ [10])
def q47b (x : Nat) (t : List UInt8) : HQ := [none, some ⟨t, [], [], 0⟩, none]
def o47b (x : Nat) (t : List UInt8) : List Ob := [.txt ⟨2, ((x : Nat) : Int), []⟩ t, .out [99, 10] t]
def u47b (t : List UInt8) : List UInt8 := (([99, 10] ++ t) ++ [10])
theorem cp47 : CompK ns47 root47 1 rows47 := by
  intro n r0 r1 r2 r3 r4 r5 r6 r7 r8 r9 r10 r11 r12
  kernel_rfl
def p47_0 : List UInt8 := [108, 111, 99, 97, 108, 32, 116, 32, 61, 32, 123, 125, 32, 116, 46, 98, 32, 61, 32, 48, 32, 116, 46, 99, 32, 61, 32]
def p47_1 : List UInt8 := [32, 116, 46, 97, 32, 61, 32, 49, 32, 116, 46, 98, 32, 61, 32, 110, 105, 108, 32, 108, 111, 99, 97, 108, 32, 107, 44, 32, 118, 32, 61, 32, 110, 101, 120, 116, 40, 116, 41, 32, 112, 114, 105, 110, 116, 40, 107, 41, 32, 112, 114, 105, 110, 116, 40, 118, 41, 32, 112, 114, 105, 110, 116, 40, 35, 116, 41]
theorem lx47 (w : List UInt8) : scanW w 400 p47_0 0 0 [] = some (373, 27, 0, tkP 400 p47_0 0) := by kernel_rfl
theorem pr47 (x len : Nat) (src : List UInt8) (nodes0 : List Nd) : bind1 (bind1 (scanS 200 p47_1 (27 + len) 0 (tkP 400 p47_0 0 ++ [⟨3, 27, [], ((x : Nat) : Int), 0⟩])) (parT 400 src nodes0)) erP = some (ns47.map (nPut x), root47) := by kernel_rfl
theorem fr47 {x : Nat} {t : List UInt8} (hx : x < 9218868437227405312) (hn : NumT t) (hl : t.length ≤ 22) (hp : parseM t = some (x, 0)) (hL : newX [0, 4607182418800017408] x) : Front (say47 t).src 1 (rows47.map (rPut x)) := by
  refine front_mk (ns := ns47.map (nPut x)) (root := root47) ?_ (Rows.put hx (by decide) (by decide) (by kernel_rfl) (by kernel_rfl) (of_decide_eq_true (by kernel_rfl))) (fun nodes0 => ?_) (comp_open cp47 hL (fun z => hL 4607182418800017408 (by simp) z.symm) (by kernel_rfl) (by kernel_rfl))
  · show (((p47_0 ++ t) ++ p47_1)).length ≤ 2048
    simp only [List.length_append]
    have e : p47_0.length + p47_1.length ≤ 1000 := of_decide_eq_true (by kernel_rfl)
    omega
  · show bind1 (bind1 (scanL 400 ((p47_0 ++ t) ++ p47_1) 0 0 []) (parT 400 ((p47_0 ++ t) ++ p47_1) nodes0)) erP = _
    have h := pr47 x t.length ((p47_0 ++ t) ++ p47_1) nodes0
    obtain ⟨z, hz, h⟩ := bnd1 h
    obtain ⟨r, hr, hz⟩ := bnd1 hz
    refine parse_of (r := r) (ascii_app (ascii_app (ascii_of (by kernel_rfl)) (num_ascii hn)) (ascii_of (by kernel_rfl))) ?_ nodes0 ?_
    · rw [List.append_assoc]
      exact pre_step (lx47 _) (num_step hn hl (by refine ⟨?_, ?_, ?_⟩ <;> decide) hp (of_decide_eq_true (by kernel_rfl)) hr (by decide))
    · rw [hz]; exact h
theorem v47a (x : Nat) (t : List UInt8) : endR (coLA 1000 40 60 0 V.nil V.nil 0 (q47a x t) (ld1 (pgR (rows47.map (rPut x))) ts0 4)) = some ((⟨1, V.nil, 0⟩, 0, u47a t, 0, 2), [], o47a x t) := by kernel_rfl
theorem ob47a {x : Nat} {t : List UInt8} (hx : x < 9218868437227405312) (hf : formatM x = some t) (hg : formatM (negM x) = some ([45] ++ t)) (hl : t.length ≤ 22) (hp : parseM t = some (x, 0)) : allOb (o47a x t) := by
  unfold o47a
  exact allOb_cons (txt_num (Nat.lt_trans hx (by decide)) hf) (allOb_cons (by show List.length _ + List.length _ + 1 ≤ 200; simp only [List.length_append, List.length_cons, List.length_nil]; omega) (allOb_cons (by show List.length _ + List.length _ + 1 ≤ 200; simp only [List.length_append, List.length_cons, List.length_nil]; omega) (allOb_nil)))
theorem v47b (x : Nat) (t : List UInt8) : endR (coLA 1000 40 60 0 V.nil V.nil 0 (q47b x t) (ld1 (pgR (rows47.map (rPut x))) ts0 3)) = some ((⟨3, V.nil, 9⟩, 0, u47b t, 0, 2), [], o47b x t) := by kernel_rfl
theorem ob47b {x : Nat} {t : List UInt8} (hx : x < 9218868437227405312) (hf : formatM x = some t) (hg : formatM (negM x) = some ([45] ++ t)) (hl : t.length ≤ 22) (hp : parseM t = some (x, 0)) : allOb (o47b x t) := by
  unfold o47b
  exact allOb_cons (txt_num (Nat.lt_trans hx (by decide)) hf) (allOb_cons (by show List.length _ + List.length _ + 1 ≤ 200; simp only [List.length_append, List.length_cons, List.length_nil]; omega) (allOb_nil))
theorem op47 {x : Nat} {t : List UInt8} (hx : x < 9218868437227405312) (hf : formatM x = some t) (hL : newX [0, 4607182418800017408] x) (c : CSt) (m : VM) (hJ : JJ c m) : Two say47 (say47 t).m (say47 t).ms t c m := by
  obtain ⟨t', f1, hn, hl, hp, hg⟩ := fmt_all hx
  rw [hf] at f1
  injection f1 with f1
  subst f1
  have ua : u47a t = (say47 t).out := by simp [u47a, say47]
  have ub : u47b t = (say47 t).short := by simp [u47b, say47]
  exact two_mk (run_mk (fr47 hx hn hl hp hL) (v47a x t) (ob47a hx hf hg hl hp) (by decide) (.inl ⟨rfl, by rw [ua]⟩)) (run_mk (fr47 hx hn hl hp hL) (v47b x t) (ob47b hx hf hg hl hp) (by decide) (.inr ⟨rfl, by rw [ub]⟩)) c m hJ
def nsC47x0 : List Nd := [⟨0, 0, 0, 0, 0, 0, [], 0⟩, ⟨21, 0, 0, 0, 0, 0, [], 0⟩, ⟨1, 1, 0, 0, 7, 0, [116], 0⟩, ⟨17, 0, 0, 0, 0, 0, [116], 0⟩, ⟨16, 0, 0, 0, 0, 0, [98], 0⟩, ⟨18, 3, 4, 0, 0, 0, [], 0⟩, ⟨15, 0, 0, 0, 0, 0, [], 0⟩, ⟨4, 5, 6, 0, 12, 0, [], 0⟩, ⟨17, 0, 0, 0, 0, 0, [116], 0⟩, ⟨16, 0, 0, 0, 0, 0, [99], 0⟩, ⟨18, 8, 9, 0, 0, 0, [], 0⟩, ⟨15, 0, 0, 0, 0, 0, [], 0⟩, ⟨4, 10, 11, 0, 17, 0, [], 0⟩, ⟨17, 0, 0, 0, 0, 0, [116], 0⟩, ⟨16, 0, 0, 0, 0, 0, [97], 0⟩, ⟨18, 13, 14, 0, 0, 0, [], 0⟩, ⟨15, 0, 0, 0, 0, 4607182418800017408, [], 0⟩, ⟨4, 15, 16, 0, 22, 0, [], 0⟩, ⟨17, 0, 0, 0, 0, 0, [116], 0⟩, ⟨16, 0, 0, 0, 0, 0, [98], 0⟩, ⟨18, 18, 19, 0, 0, 0, [], 0⟩, ⟨12, 0, 0, 0, 0, 0, [], 0⟩, ⟨4, 20, 21, 0, 28, 0, [], 0⟩, ⟨17, 0, 0, 0, 24, 0, [107], 0⟩, ⟨17, 0, 0, 0, 0, 0, [118], 0⟩, ⟨17, 0, 0, 0, 0, 0, [110, 101, 120, 116], 0⟩, ⟨17, 0, 0, 0, 0, 0, [116], 0⟩, ⟨19, 25, 26, 0, 0, 0, [], 0⟩, ⟨2, 23, 27, 0, 32, 0, [], 0⟩, ⟨17, 0, 0, 0, 0, 0, [112, 114, 105, 110, 116], 0⟩, ⟨17, 0, 0, 0, 0, 0, [107], 0⟩, ⟨19, 29, 30, 0, 0, 0, [], 0⟩, ⟨5, 31, 0, 0, 36, 0, [], 0⟩, ⟨17, 0, 0, 0, 0, 0, [112, 114, 105, 110, 116], 0⟩, ⟨17, 0, 0, 0, 0, 0, [118], 0⟩, ⟨19, 33, 34, 0, 0, 0, [], 0⟩, ⟨5, 35, 0, 0, 41, 0, [], 0⟩, ⟨17, 0, 0, 0, 0, 0, [112, 114, 105, 110, 116], 0⟩, ⟨17, 0, 0, 0, 0, 0, [116], 0⟩, ⟨23, 38, 0, 0, 0, 3, [], 0⟩, ⟨19, 37, 39, 0, 0, 0, [], 0⟩, ⟨5, 40, 0, 0, 0, 0, [], 0⟩]
def rootC47x0 : Int := 2
def rowsC47x0 : List Rw := [⟨0, 3, [], [⟨3, 0, [98]⟩, ⟨2, 0, []⟩, ⟨3, 0, [99]⟩, ⟨3, 0, [97]⟩, ⟨2, 4607182418800017408, []⟩, ⟨3, 0, [110, 101, 120, 116]⟩, ⟨3, 0, [112, 114, 105, 110, 116]⟩], [(14, 0), (6, 0), (5, 0), (1, 0), (1, 1), (12, 0), (5, 0), (1, 2), (1, 1), (12, 0), (5, 0), (1, 3), (1, 4), (12, 0), (5, 0), (1, 0), (2, 0), (12, 0), (9, 5), (5, 0), (26, 1), (6, 2), (6, 1), (9, 6), (5, 1), (26, 1), (25, 0), (25, 0), (9, 6), (5, 2), (26, 1), (25, 0), (25, 0), (9, 6), (5, 0), (20, 0), (26, 1), (25, 0), (25, 0), (29, 0), (2, 0), (2, 0), (27, 0)]⟩]
def srcC47x0 : List UInt8 := [108, 111, 99, 97, 108, 32, 116, 32, 61, 32, 123, 125, 32, 116, 46, 98, 32, 61, 32, 48, 32, 116, 46, 99, 32, 61, 32, 48, 32, 116, 46, 97, 32, 61, 32, 49, 32, 116, 46, 98, 32, 61, 32, 110, 105, 108, 32, 108, 111, 99, 97, 108, 32, 107, 44, 32, 118, 32, 61, 32, 110, 101, 120, 116, 40, 116, 41, 32, 112, 114, 105, 110, 116, 40, 107, 41, 32, 112, 114, 105, 110, 116, 40, 118, 41, 32, 112, 114, 105, 110, 116, 40, 35, 116, 41]
def qC47x0a : HQ := List.replicate 3 none
def oC47x0a : List Ob := []
def uC47x0a : List UInt8 := [99, 10, 48, 10, 48, 10]
def qC47x0b : HQ := List.replicate 3 none
def oC47x0b : List Ob := []
def uC47x0b : List UInt8 := [99, 10, 48, 10]
theorem cpC47x0 : CompK nsC47x0 rootC47x0 1 rowsC47x0 := by
  intro n r0 r1 r2 r3 r4 r5 r6 r7 r8 r9 r10 r11 r12
  kernel_rfl
theorem prC47x0 (src : List UInt8) (nodes0 : List Nd) : bind1 (bind1 (scanS 400 srcC47x0 0 0 []) (parT 400 src nodes0)) erP = some (nsC47x0, rootC47x0) := by kernel_rfl
theorem frC47x0 : Front srcC47x0 1 rowsC47x0 := by
  have e : rowsC47x0.map (rPut ((0 : Nat) : Int)) = rowsC47x0 := by kernel_rfl
  refine front_mk (ns := nsC47x0) (root := rootC47x0) (of_decide_eq_true (by kernel_rfl)) (e ▸ Rows.put (x := 0) (by decide) (by decide) (by decide) (by kernel_rfl) (by kernel_rfl) (of_decide_eq_true (by kernel_rfl))) (fun nodes0 => ?_) cpC47x0.all
  obtain ⟨z, hz, h⟩ := bnd1 (prC47x0 srcC47x0 nodes0)
  obtain ⟨r, hr, hz⟩ := bnd1 hz
  exact parse_of (ascii_of (by kernel_rfl)) hr nodes0 (by rw [hz]; exact h)
theorem vC47x0a : endR (coLA 1000 40 60 0 V.nil V.nil 0 qC47x0a (ld1 (pgR rowsC47x0) ts0 4)) = some ((⟨1, V.nil, 0⟩, 0, uC47x0a, 0, 2), [], oC47x0a) := by kernel_rfl
theorem obC47x0a : allOb oC47x0a := by
  unfold oC47x0a
  exact allOb_nil
theorem vC47x0b : endR (coLA 1000 40 60 0 V.nil V.nil 0 qC47x0b (ld1 (pgR rowsC47x0) ts0 3)) = some ((⟨3, V.nil, 9⟩, 0, uC47x0b, 0, 2), [], oC47x0b) := by kernel_rfl
theorem obC47x0b : allOb oC47x0b := by
  unfold oC47x0b
  exact allOb_nil
theorem opC47x0 (c : CSt) (m : VM) (hJ : JJ c m) : Two say47 (say47 [48]).m (say47 [48]).ms [48] c m := by
  exact two_mk (src := srcC47x0) (run_mk frC47x0 vC47x0a obC47x0a (by decide) (.inl ⟨rfl, rfl⟩)) (run_mk frC47x0 vC47x0b obC47x0b (by decide) (.inr ⟨rfl, rfl⟩)) c m hJ
def nsC47x1 : List Nd := [⟨0, 0, 0, 0, 0, 0, [], 0⟩, ⟨21, 0, 0, 0, 0, 0, [], 0⟩, ⟨1, 1, 0, 0, 7, 0, [116], 0⟩, ⟨17, 0, 0, 0, 0, 0, [116], 0⟩, ⟨16, 0, 0, 0, 0, 0, [98], 0⟩, ⟨18, 3, 4, 0, 0, 0, [], 0⟩, ⟨15, 0, 0, 0, 0, 0, [], 0⟩, ⟨4, 5, 6, 0, 12, 0, [], 0⟩, ⟨17, 0, 0, 0, 0, 0, [116], 0⟩, ⟨16, 0, 0, 0, 0, 0, [99], 0⟩, ⟨18, 8, 9, 0, 0, 0, [], 0⟩, ⟨15, 0, 0, 0, 0, 4607182418800017408, [], 0⟩, ⟨4, 10, 11, 0, 17, 0, [], 0⟩, ⟨17, 0, 0, 0, 0, 0, [116], 0⟩, ⟨16, 0, 0, 0, 0, 0, [97], 0⟩, ⟨18, 13, 14, 0, 0, 0, [], 0⟩, ⟨15, 0, 0, 0, 0, 4607182418800017408, [], 0⟩, ⟨4, 15, 16, 0, 22, 0, [], 0⟩, ⟨17, 0, 0, 0, 0, 0, [116], 0⟩, ⟨16, 0, 0, 0, 0, 0, [98], 0⟩, ⟨18, 18, 19, 0, 0, 0, [], 0⟩, ⟨12, 0, 0, 0, 0, 0, [], 0⟩, ⟨4, 20, 21, 0, 28, 0, [], 0⟩, ⟨17, 0, 0, 0, 24, 0, [107], 0⟩, ⟨17, 0, 0, 0, 0, 0, [118], 0⟩, ⟨17, 0, 0, 0, 0, 0, [110, 101, 120, 116], 0⟩, ⟨17, 0, 0, 0, 0, 0, [116], 0⟩, ⟨19, 25, 26, 0, 0, 0, [], 0⟩, ⟨2, 23, 27, 0, 32, 0, [], 0⟩, ⟨17, 0, 0, 0, 0, 0, [112, 114, 105, 110, 116], 0⟩, ⟨17, 0, 0, 0, 0, 0, [107], 0⟩, ⟨19, 29, 30, 0, 0, 0, [], 0⟩, ⟨5, 31, 0, 0, 36, 0, [], 0⟩, ⟨17, 0, 0, 0, 0, 0, [112, 114, 105, 110, 116], 0⟩, ⟨17, 0, 0, 0, 0, 0, [118], 0⟩, ⟨19, 33, 34, 0, 0, 0, [], 0⟩, ⟨5, 35, 0, 0, 41, 0, [], 0⟩, ⟨17, 0, 0, 0, 0, 0, [112, 114, 105, 110, 116], 0⟩, ⟨17, 0, 0, 0, 0, 0, [116], 0⟩, ⟨23, 38, 0, 0, 0, 3, [], 0⟩, ⟨19, 37, 39, 0, 0, 0, [], 0⟩, ⟨5, 40, 0, 0, 0, 0, [], 0⟩]
def rootC47x1 : Int := 2
def rowsC47x1 : List Rw := [⟨0, 3, [], [⟨3, 0, [98]⟩, ⟨2, 0, []⟩, ⟨3, 0, [99]⟩, ⟨2, 4607182418800017408, []⟩, ⟨3, 0, [97]⟩, ⟨3, 0, [110, 101, 120, 116]⟩, ⟨3, 0, [112, 114, 105, 110, 116]⟩], [(14, 0), (6, 0), (5, 0), (1, 0), (1, 1), (12, 0), (5, 0), (1, 2), (1, 3), (12, 0), (5, 0), (1, 4), (1, 3), (12, 0), (5, 0), (1, 0), (2, 0), (12, 0), (9, 5), (5, 0), (26, 1), (6, 2), (6, 1), (9, 6), (5, 1), (26, 1), (25, 0), (25, 0), (9, 6), (5, 2), (26, 1), (25, 0), (25, 0), (9, 6), (5, 0), (20, 0), (26, 1), (25, 0), (25, 0), (29, 0), (2, 0), (2, 0), (27, 0)]⟩]
def srcC47x1 : List UInt8 := [108, 111, 99, 97, 108, 32, 116, 32, 61, 32, 123, 125, 32, 116, 46, 98, 32, 61, 32, 48, 32, 116, 46, 99, 32, 61, 32, 49, 32, 116, 46, 97, 32, 61, 32, 49, 32, 116, 46, 98, 32, 61, 32, 110, 105, 108, 32, 108, 111, 99, 97, 108, 32, 107, 44, 32, 118, 32, 61, 32, 110, 101, 120, 116, 40, 116, 41, 32, 112, 114, 105, 110, 116, 40, 107, 41, 32, 112, 114, 105, 110, 116, 40, 118, 41, 32, 112, 114, 105, 110, 116, 40, 35, 116, 41]
def qC47x1a : HQ := List.replicate 3 none
def oC47x1a : List Ob := []
def uC47x1a : List UInt8 := [99, 10, 49, 10, 48, 10]
def qC47x1b : HQ := List.replicate 3 none
def oC47x1b : List Ob := []
def uC47x1b : List UInt8 := [99, 10, 49, 10]
theorem cpC47x1 : CompK nsC47x1 rootC47x1 1 rowsC47x1 := by
  intro n r0 r1 r2 r3 r4 r5 r6 r7 r8 r9 r10 r11 r12
  kernel_rfl
theorem prC47x1 (src : List UInt8) (nodes0 : List Nd) : bind1 (bind1 (scanS 400 srcC47x1 0 0 []) (parT 400 src nodes0)) erP = some (nsC47x1, rootC47x1) := by kernel_rfl
theorem frC47x1 : Front srcC47x1 1 rowsC47x1 := by
  have e : rowsC47x1.map (rPut ((0 : Nat) : Int)) = rowsC47x1 := by kernel_rfl
  refine front_mk (ns := nsC47x1) (root := rootC47x1) (of_decide_eq_true (by kernel_rfl)) (e ▸ Rows.put (x := 0) (by decide) (by decide) (by decide) (by kernel_rfl) (by kernel_rfl) (of_decide_eq_true (by kernel_rfl))) (fun nodes0 => ?_) cpC47x1.all
  obtain ⟨z, hz, h⟩ := bnd1 (prC47x1 srcC47x1 nodes0)
  obtain ⟨r, hr, hz⟩ := bnd1 hz
  exact parse_of (ascii_of (by kernel_rfl)) hr nodes0 (by rw [hz]; exact h)
theorem vC47x1a : endR (coLA 1000 40 60 0 V.nil V.nil 0 qC47x1a (ld1 (pgR rowsC47x1) ts0 4)) = some ((⟨1, V.nil, 0⟩, 0, uC47x1a, 0, 2), [], oC47x1a) := by kernel_rfl
theorem obC47x1a : allOb oC47x1a := by
  unfold oC47x1a
  exact allOb_nil
theorem vC47x1b : endR (coLA 1000 40 60 0 V.nil V.nil 0 qC47x1b (ld1 (pgR rowsC47x1) ts0 3)) = some ((⟨3, V.nil, 9⟩, 0, uC47x1b, 0, 2), [], oC47x1b) := by kernel_rfl
theorem obC47x1b : allOb oC47x1b := by
  unfold oC47x1b
  exact allOb_nil
theorem opC47x1 (c : CSt) (m : VM) (hJ : JJ c m) : Two say47 (say47 [49]).m (say47 [49]).ms [49] c m := by
  exact two_mk (src := srcC47x1) (run_mk frC47x1 vC47x1a obC47x1a (by decide) (.inl ⟨rfl, rfl⟩)) (run_mk frC47x1 vC47x1b obC47x1b (by decide) (.inr ⟨rfl, rfl⟩)) c m hJ
theorem one47 {x : Nat} {t : List UInt8} (hx : x < 9218868437227405312) (hf : formatM x = some t) (c : CSt) (m : VM) (hJ : JJ c m) : Two say47 (say47 t).m (say47 t).ms t c m := by
  by_cases h0 : x = 0
  · subst h0
    have e : formatM 0 = some [48] := by kernel_rfl
    rw [e] at hf
    injection hf with hf
    subst hf
    exact opC47x0 c m hJ
  by_cases h1 : x = 4607182418800017408
  · subst h1
    have e : formatM 4607182418800017408 = some [49] := by kernel_rfl
    rw [e] at hf
    injection hf with hf
    subst hf
    exact opC47x1 c m hJ
  refine op47 hx hf ?_ c m hJ
  intro z hz
  simp only [List.mem_cons, List.not_mem_nil, or_false] at hz
  rcases hz with rfl | rfl <;> omega
end Go.Wl
