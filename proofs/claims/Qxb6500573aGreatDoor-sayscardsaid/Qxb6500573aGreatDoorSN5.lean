/- Plain: sentences (made by program). -/
import Derived.Test.Qxb6500573aGreatDoorBY
set_option linter.unusedSimpArgs false
set_option linter.unusedVariables false
set_option linter.unusedSectionVars false
namespace Go.Wl
open Go Go.Sl Go.Proofs
set_option linter.unusedVariables false
set_option linter.unusedSimpArgs false
set_option maxRecDepth 100000
def nsC6x0 : List Nd := [⟨0, 0, 0, 0, 0, 0, [], 0⟩, ⟨1, 0, 0, 0, 11, 0, [103], 0⟩, ⟨15, 0, 0, 0, 3, 4607182418800017408, [], 0⟩, ⟨15, 0, 0, 0, 0, 4611686018427387904, [], 0⟩, ⟨17, 0, 0, 0, 0, 0, [103], 0⟩, ⟨17, 0, 0, 0, 0, 0, [103], 0⟩, ⟨17, 0, 0, 0, 0, 0, [105], 0⟩, ⟨10, 6, 0, 0, 0, 0, [], 0⟩, ⟨20, 0, 7, 0, 0, 1, [], 0⟩, ⟨25, 5, 8, 0, 0, 0, [], 0⟩, ⟨4, 4, 9, 0, 0, 0, [], 0⟩, ⟨8, 2, 10, 0, 16, 0, [105], 0⟩, ⟨17, 0, 0, 0, 0, 0, [112, 114, 105, 110, 116], 0⟩, ⟨17, 0, 0, 0, 0, 0, [103], 0⟩, ⟨19, 13, 0, 0, 0, 0, [], 0⟩, ⟨19, 12, 14, 0, 0, 0, [], 0⟩, ⟨5, 15, 0, 0, 0, 0, [], 0⟩]
def rootC6x0 : Int := 1
def rowsC6x0 : List Rw := [⟨0, 5, [], [⟨2, 4607182418800017408, []⟩, ⟨2, 4611686018427387904, []⟩, ⟨3, 0, [112, 114, 105, 110, 116]⟩], [(2, 0), (6, 0), (1, 0), (6, 1), (1, 1), (6, 2), (1, 0), (6, 3), (30, 1), (31, 1), (22, 23), (5, 1), (6, 4), (5, 0), (24, 16), (28, 1), (6, 0), (29, 4), (5, 1), (5, 3), (15, 1), (6, 1), (21, 9), (29, 1), (9, 2), (5, 0), (26, 0), (25, 0), (26, 1), (25, 0), (25, 0), (29, 0), (2, 0), (2, 0), (27, 0)]⟩, ⟨0, 0, [(1, 4)], [], [(7, 0), (2, 0), (27, 0), (2, 0), (2, 0), (27, 0)]⟩]
def srcC6x0 : List UInt8 := [108, 111, 99, 97, 108, 32, 103, 32, 102, 111, 114, 32, 105, 32, 61, 32, 49, 44, 32, 50, 32, 100, 111, 32, 103, 32, 61, 32, 103, 32, 111, 114, 32, 102, 117, 110, 99, 116, 105, 111, 110, 40, 41, 32, 114, 101, 116, 117, 114, 110, 32, 105, 32, 101, 110, 100, 32, 101, 110, 100, 32, 112, 114, 105, 110, 116, 40, 103, 40, 41, 41]
def qC6x0a : HQ := List.replicate 3 none
def oC6x0a : List Ob := []
def uC6x0a : List UInt8 := [49, 10]
def qC6x0b : HQ := List.replicate 3 none
def oC6x0b : List Ob := []
def uC6x0b : List UInt8 := []
theorem cpC6x0 : CompK nsC6x0 rootC6x0 2 rowsC6x0 := by
  intro n r0 r1 r2 r3 r4 r5 r6 r7 r8 r9 r10 r11 r12
  kernel_rfl
theorem prC6x0 (src : List UInt8) (nodes0 : List Nd) : bind1 (bind1 (scanS 400 srcC6x0 0 0 []) (parT 400 src nodes0)) erP = some (nsC6x0, rootC6x0) := by kernel_rfl
theorem frC6x0 : Front srcC6x0 2 rowsC6x0 := by
  have e : rowsC6x0.map (rPut ((0 : Nat) : Int)) = rowsC6x0 := by kernel_rfl
  refine front_mk (ns := nsC6x0) (root := rootC6x0) (of_decide_eq_true (by kernel_rfl)) (e ▸ Rows.put (x := 0) (by decide) (by decide) (by decide) (by kernel_rfl) (by kernel_rfl) (of_decide_eq_true (by kernel_rfl))) (fun nodes0 => ?_) cpC6x0.all
  obtain ⟨z, hz, h⟩ := bnd1 (prC6x0 srcC6x0 nodes0)
  obtain ⟨r, hr, hz⟩ := bnd1 hz
  exact parse_of (ascii_of (by kernel_rfl)) hr nodes0 (by rw [hz]; exact h)
theorem vC6x0a : endR (coLA 1000 40 60 0 V.nil V.nil 0 qC6x0a (ld1 (pgR rowsC6x0) ts0 4)) = some ((⟨1, V.nil, 0⟩, 0, uC6x0a, 0, 1), [], oC6x0a) := by kernel_rfl
theorem obC6x0a : allOb oC6x0a := by
  unfold oC6x0a
  exact allOb_nil
theorem vC6x0b : endR (coLA 1000 40 60 0 V.nil V.nil 0 qC6x0b (ld1 (pgR rowsC6x0) ts0 3)) = some ((⟨3, V.nil, 9⟩, 0, uC6x0b, 0, 1), [], oC6x0b) := by kernel_rfl
theorem obC6x0b : allOb oC6x0b := by
  unfold oC6x0b
  exact allOb_nil
theorem opC6x0 (t : List UInt8) (c : CSt) (m : VM) (hJ : JJ c m) : Two say6 0 0 t c m := by
  exact two_mk (src := srcC6x0) (run_mk frC6x0 vC6x0a obC6x0a (by decide) (.inl ⟨rfl, rfl⟩)) (run_mk frC6x0 vC6x0b obC6x0b (by decide) (.inr ⟨rfl, rfl⟩)) c m hJ
theorem one6 {x : Nat} {t : List UInt8} (hx : x < 9218868437227405312) (hf : formatM x = some t) (c : CSt) (m : VM) (hJ : JJ c m) : Two say6 0 0 t c m := opC6x0 t c m hJ
def ns15 : List Nd := [⟨0, 0, 0, 0, 0, 0, [], 0⟩, ⟨15, 0, 0, 0, 0, -1, [], 0⟩, ⟨15, 0, 0, 0, 0, 4607182418800017408, [], 0⟩, ⟨10, 1, 2, 0, 0, 0, [], 0⟩, ⟨20, 0, 3, 0, 0, 1, [], 0⟩, ⟨3, 4, 0, 0, 10, 0, [102], 0⟩, ⟨17, 0, 0, 0, 7, 0, [97], 0⟩, ⟨17, 0, 0, 0, 0, 0, [98], 0⟩, ⟨17, 0, 0, 0, 0, 0, [102], 0⟩, ⟨19, 8, 0, 0, 0, 0, [], 0⟩, ⟨2, 6, 9, 0, 14, 0, [], 0⟩, ⟨17, 0, 0, 0, 0, 0, [112, 114, 105, 110, 116], 0⟩, ⟨17, 0, 0, 0, 0, 0, [97], 0⟩, ⟨19, 11, 12, 0, 0, 0, [], 0⟩, ⟨5, 13, 0, 0, 18, 0, [], 0⟩, ⟨17, 0, 0, 0, 0, 0, [112, 114, 105, 110, 116], 0⟩, ⟨17, 0, 0, 0, 0, 0, [98], 0⟩, ⟨19, 15, 16, 0, 0, 0, [], 0⟩, ⟨5, 17, 0, 0, 0, 0, [], 0⟩]
def root15 : Int := 5
def rows15 : List Rw := [⟨0, 3, [], [⟨3, 0, [112, 114, 105, 110, 116]⟩], [(28, 1), (6, 0), (5, 0), (26, 0), (6, 2), (6, 1), (9, 0), (5, 1), (26, 1), (25, 0), (25, 0), (9, 0), (5, 2), (26, 1), (25, 0), (25, 0), (29, 0), (2, 0), (2, 0), (27, 0)]⟩, ⟨0, 0, [], [⟨2, -1, []⟩, ⟨2, 4607182418800017408, []⟩], [(1, 0), (1, 1), (27, 0), (2, 0), (2, 0), (27, 0)]⟩]
def q15a (x : Nat) (t : List UInt8) : HQ := [some ⟨t, [], [], 0⟩, some ⟨[], [], [], 1⟩]
def o15a (x : Nat) (t : List UInt8) : List Ob := [.txt ⟨2, ((x : Nat) : Int), []⟩ t, .out [] t, .out (([] ++ t) ++ [10]) [49]]
def u15a (t : List UInt8) : List UInt8 := (((([] ++ t) ++ [10]) ++ [49]) ++ [10])
def q15b (x : Nat) (t : List UInt8) : HQ := [some ⟨t, [], [], 0⟩, none]
def o15b (x : Nat) (t : List UInt8) : List Ob := [.txt ⟨2, ((x : Nat) : Int), []⟩ t, .out [] t]
def u15b (t : List UInt8) : List UInt8 := (([] ++ t) ++ [10])
theorem cp15 : CompK ns15 root15 2 rows15 := by
  intro n r0 r1 r2 r3 r4 r5 r6 r7 r8 r9 r10 r11 r12
  kernel_rfl
def p15_0 : List UInt8 := [108, 111, 99, 97, 108, 32, 102, 117, 110, 99, 116, 105, 111, 110, 32, 102, 40, 41, 32, 114, 101, 116, 117, 114, 110, 32]
def p15_1 : List UInt8 := [44, 32, 49, 32, 101, 110, 100, 32, 108, 111, 99, 97, 108, 32, 97, 44, 32, 98, 32, 61, 32, 102, 40, 41, 32, 112, 114, 105, 110, 116, 40, 97, 41, 32, 112, 114, 105, 110, 116, 40, 98, 41]
theorem lx15 (w : List UInt8) : scanW w 400 p15_0 0 0 [] = some (374, 26, 0, tkP 400 p15_0 0) := by kernel_rfl
theorem pr15 (x len : Nat) (src : List UInt8) (nodes0 : List Nd) : bind1 (bind1 (scanS 200 p15_1 (26 + len) 0 (tkP 400 p15_0 0 ++ [⟨3, 26, [], ((x : Nat) : Int), 0⟩])) (parT 400 src nodes0)) erP = some (ns15.map (nPut x), root15) := by kernel_rfl
theorem fr15 {x : Nat} {t : List UInt8} (hx : x < 9218868437227405312) (hn : NumT t) (hl : t.length ≤ 22) (hp : parseM t = some (x, 0)) (hL : newX [4607182418800017408] x) : Front (say15 t).src 2 (rows15.map (rPut x)) := by
  refine front_mk (ns := ns15.map (nPut x)) (root := root15) ?_ (Rows.put hx (by decide) (by decide) (by kernel_rfl) (by kernel_rfl) (of_decide_eq_true (by kernel_rfl))) (fun nodes0 => ?_) (comp_open cp15 hL (fun z => hL 4607182418800017408 (by simp) z.symm) (by kernel_rfl) (by kernel_rfl))
  · show (((p15_0 ++ t) ++ p15_1)).length ≤ 2048
    simp only [List.length_append]
    have e : p15_0.length + p15_1.length ≤ 1000 := of_decide_eq_true (by kernel_rfl)
    omega
  · show bind1 (bind1 (scanL 400 ((p15_0 ++ t) ++ p15_1) 0 0 []) (parT 400 ((p15_0 ++ t) ++ p15_1) nodes0)) erP = _
    have h := pr15 x t.length ((p15_0 ++ t) ++ p15_1) nodes0
    obtain ⟨z, hz, h⟩ := bnd1 h
    obtain ⟨r, hr, hz⟩ := bnd1 hz
    refine parse_of (r := r) (ascii_app (ascii_app (ascii_of (by kernel_rfl)) (num_ascii hn)) (ascii_of (by kernel_rfl))) ?_ nodes0 ?_
    · rw [List.append_assoc]
      exact pre_step (lx15 _) (num_step hn hl (by refine ⟨?_, ?_, ?_⟩ <;> decide) hp (of_decide_eq_true (by kernel_rfl)) hr (by decide))
    · rw [hz]; exact h
theorem v15a (x : Nat) (t : List UInt8) : endR (coLA 1000 40 60 0 V.nil V.nil 0 (q15a x t) (ld1 (pgR (rows15.map (rPut x))) ts0 3)) = some ((⟨1, V.nil, 0⟩, 0, u15a t, 0, 1), [], o15a x t) := by kernel_rfl
theorem ob15a {x : Nat} {t : List UInt8} (hx : x < 9218868437227405312) (hf : formatM x = some t) (hg : formatM (negM x) = some ([45] ++ t)) (hl : t.length ≤ 22) (hp : parseM t = some (x, 0)) : allOb (o15a x t) := by
  unfold o15a
  exact allOb_cons (txt_num (Nat.lt_trans hx (by decide)) hf) (allOb_cons (by show List.length _ + List.length _ + 1 ≤ 200; simp only [List.length_append, List.length_cons, List.length_nil]; omega) (allOb_cons (by show List.length _ + List.length _ + 1 ≤ 200; simp only [List.length_append, List.length_cons, List.length_nil]; omega) (allOb_nil)))
theorem v15b (x : Nat) (t : List UInt8) : endR (coLA 1000 40 60 0 V.nil V.nil 0 (q15b x t) (ld1 (pgR (rows15.map (rPut x))) ts0 2)) = some ((⟨3, V.nil, 9⟩, 0, u15b t, 0, 1), [], o15b x t) := by kernel_rfl
theorem ob15b {x : Nat} {t : List UInt8} (hx : x < 9218868437227405312) (hf : formatM x = some t) (hg : formatM (negM x) = some ([45] ++ t)) (hl : t.length ≤ 22) (hp : parseM t = some (x, 0)) : allOb (o15b x t) := by
  unfold o15b
  exact allOb_cons (txt_num (Nat.lt_trans hx (by decide)) hf) (allOb_cons (by show List.length _ + List.length _ + 1 ≤ 200; simp only [List.length_append, List.length_cons, List.length_nil]; omega) (allOb_nil))
theorem op15 {x : Nat} {t : List UInt8} (hx : x < 9218868437227405312) (hf : formatM x = some t) (hL : newX [4607182418800017408] x) (c : CSt) (m : VM) (hJ : JJ c m) : Two say15 0 0 t c m := by
  obtain ⟨t', f1, hn, hl, hp, hg⟩ := fmt_all hx
  rw [hf] at f1
  injection f1 with f1
  subst f1
  have ua : u15a t = (say15 t).out := by simp [u15a, say15]
  have ub : u15b t = (say15 t).short := by simp [u15b, say15]
  exact two_mk (run_mk (fr15 hx hn hl hp hL) (v15a x t) (ob15a hx hf hg hl hp) (by decide) (.inl ⟨rfl, by rw [ua]⟩)) (run_mk (fr15 hx hn hl hp hL) (v15b x t) (ob15b hx hf hg hl hp) (by decide) (.inr ⟨rfl, by rw [ub]⟩)) c m hJ
def nsC15x0 : List Nd := [⟨0, 0, 0, 0, 0, 0, [], 0⟩, ⟨15, 0, 0, 0, 0, 4607182418800017408, [], 0⟩, ⟨15, 0, 0, 0, 0, 4607182418800017408, [], 0⟩, ⟨10, 1, 2, 0, 0, 0, [], 0⟩, ⟨20, 0, 3, 0, 0, 1, [], 0⟩, ⟨3, 4, 0, 0, 10, 0, [102], 0⟩, ⟨17, 0, 0, 0, 7, 0, [97], 0⟩, ⟨17, 0, 0, 0, 0, 0, [98], 0⟩, ⟨17, 0, 0, 0, 0, 0, [102], 0⟩, ⟨19, 8, 0, 0, 0, 0, [], 0⟩, ⟨2, 6, 9, 0, 14, 0, [], 0⟩, ⟨17, 0, 0, 0, 0, 0, [112, 114, 105, 110, 116], 0⟩, ⟨17, 0, 0, 0, 0, 0, [97], 0⟩, ⟨19, 11, 12, 0, 0, 0, [], 0⟩, ⟨5, 13, 0, 0, 18, 0, [], 0⟩, ⟨17, 0, 0, 0, 0, 0, [112, 114, 105, 110, 116], 0⟩, ⟨17, 0, 0, 0, 0, 0, [98], 0⟩, ⟨19, 15, 16, 0, 0, 0, [], 0⟩, ⟨5, 17, 0, 0, 0, 0, [], 0⟩]
def rootC15x0 : Int := 5
def rowsC15x0 : List Rw := [⟨0, 3, [], [⟨3, 0, [112, 114, 105, 110, 116]⟩], [(28, 1), (6, 0), (5, 0), (26, 0), (6, 2), (6, 1), (9, 0), (5, 1), (26, 1), (25, 0), (25, 0), (9, 0), (5, 2), (26, 1), (25, 0), (25, 0), (29, 0), (2, 0), (2, 0), (27, 0)]⟩, ⟨0, 0, [], [⟨2, 4607182418800017408, []⟩], [(1, 0), (1, 0), (27, 0), (2, 0), (2, 0), (27, 0)]⟩]
def srcC15x0 : List UInt8 := [108, 111, 99, 97, 108, 32, 102, 117, 110, 99, 116, 105, 111, 110, 32, 102, 40, 41, 32, 114, 101, 116, 117, 114, 110, 32, 49, 44, 32, 49, 32, 101, 110, 100, 32, 108, 111, 99, 97, 108, 32, 97, 44, 32, 98, 32, 61, 32, 102, 40, 41, 32, 112, 114, 105, 110, 116, 40, 97, 41, 32, 112, 114, 105, 110, 116, 40, 98, 41]
def qC15x0a : HQ := List.replicate 2 none
def oC15x0a : List Ob := []
def uC15x0a : List UInt8 := [49, 10, 49, 10]
def qC15x0b : HQ := List.replicate 2 none
def oC15x0b : List Ob := []
def uC15x0b : List UInt8 := [49, 10]
theorem cpC15x0 : CompK nsC15x0 rootC15x0 2 rowsC15x0 := by
  intro n r0 r1 r2 r3 r4 r5 r6 r7 r8 r9 r10 r11 r12
  kernel_rfl
theorem prC15x0 (src : List UInt8) (nodes0 : List Nd) : bind1 (bind1 (scanS 400 srcC15x0 0 0 []) (parT 400 src nodes0)) erP = some (nsC15x0, rootC15x0) := by kernel_rfl
theorem frC15x0 : Front srcC15x0 2 rowsC15x0 := by
  have e : rowsC15x0.map (rPut ((0 : Nat) : Int)) = rowsC15x0 := by kernel_rfl
  refine front_mk (ns := nsC15x0) (root := rootC15x0) (of_decide_eq_true (by kernel_rfl)) (e ▸ Rows.put (x := 0) (by decide) (by decide) (by decide) (by kernel_rfl) (by kernel_rfl) (of_decide_eq_true (by kernel_rfl))) (fun nodes0 => ?_) cpC15x0.all
  obtain ⟨z, hz, h⟩ := bnd1 (prC15x0 srcC15x0 nodes0)
  obtain ⟨r, hr, hz⟩ := bnd1 hz
  exact parse_of (ascii_of (by kernel_rfl)) hr nodes0 (by rw [hz]; exact h)
theorem vC15x0a : endR (coLA 1000 40 60 0 V.nil V.nil 0 qC15x0a (ld1 (pgR rowsC15x0) ts0 3)) = some ((⟨1, V.nil, 0⟩, 0, uC15x0a, 0, 1), [], oC15x0a) := by kernel_rfl
theorem obC15x0a : allOb oC15x0a := by
  unfold oC15x0a
  exact allOb_nil
theorem vC15x0b : endR (coLA 1000 40 60 0 V.nil V.nil 0 qC15x0b (ld1 (pgR rowsC15x0) ts0 2)) = some ((⟨3, V.nil, 9⟩, 0, uC15x0b, 0, 1), [], oC15x0b) := by kernel_rfl
theorem obC15x0b : allOb oC15x0b := by
  unfold oC15x0b
  exact allOb_nil
theorem opC15x0 (c : CSt) (m : VM) (hJ : JJ c m) : Two say15 0 0 [49] c m := by
  exact two_mk (src := srcC15x0) (run_mk frC15x0 vC15x0a obC15x0a (by decide) (.inl ⟨rfl, rfl⟩)) (run_mk frC15x0 vC15x0b obC15x0b (by decide) (.inr ⟨rfl, rfl⟩)) c m hJ
theorem one15 {x : Nat} {t : List UInt8} (hx : x < 9218868437227405312) (hf : formatM x = some t) (c : CSt) (m : VM) (hJ : JJ c m) : Two say15 0 0 t c m := by
  by_cases h0 : x = 4607182418800017408
  · subst h0
    have e : formatM 4607182418800017408 = some [49] := by kernel_rfl
    rw [e] at hf
    injection hf with hf
    subst hf
    exact opC15x0 c m hJ
  refine op15 hx hf ?_ c m hJ
  intro z hz
  simp only [List.mem_cons, List.not_mem_nil, or_false] at hz
  rcases hz with rfl <;> omega
def nsC24x0 : List Nd := [⟨0, 0, 0, 0, 0, 0, [], 0⟩, ⟨15, 0, 0, 0, 0, 0, [], 0⟩, ⟨1, 1, 0, 0, 15, 0, [110], 0⟩, ⟨15, 0, 0, 0, 4, 4607182418800017408, [], 0⟩, ⟨15, 0, 0, 0, 0, 4613937818241073152, [], 0⟩, ⟨17, 0, 0, 0, 0, 0, [105], 0⟩, ⟨17, 0, 0, 0, 0, 0, [105], 0⟩, ⟨15, 0, 0, 0, 0, 4617315517961601024, [], 0⟩, ⟨22, 6, 7, 0, 0, 1, [], 0⟩, ⟨4, 5, 8, 0, 14, 0, [], 0⟩, ⟨17, 0, 0, 0, 0, 0, [110], 0⟩, ⟨17, 0, 0, 0, 0, 0, [110], 0⟩, ⟨15, 0, 0, 0, 0, 4607182418800017408, [], 0⟩, ⟨22, 11, 12, 0, 0, 1, [], 0⟩, ⟨4, 10, 13, 0, 0, 0, [], 0⟩, ⟨8, 3, 9, 0, 19, 0, [105], 0⟩, ⟨17, 0, 0, 0, 0, 0, [112, 114, 105, 110, 116], 0⟩, ⟨17, 0, 0, 0, 0, 0, [110], 0⟩, ⟨19, 16, 17, 0, 0, 0, [], 0⟩, ⟨5, 18, 0, 0, 0, 0, [], 0⟩]
def rootC24x0 : Int := 2
def rowsC24x0 : List Rw := [⟨0, 5, [], [⟨2, 0, []⟩, ⟨2, 4607182418800017408, []⟩, ⟨2, 4613937818241073152, []⟩, ⟨2, 4617315517961601024, []⟩, ⟨3, 0, [112, 114, 105, 110, 116]⟩], [(1, 0), (6, 0), (1, 1), (6, 1), (1, 2), (6, 2), (1, 1), (6, 3), (30, 1), (31, 1), (22, 27), (5, 1), (6, 4), (5, 4), (1, 3), (15, 1), (6, 4), (5, 0), (1, 1), (15, 1), (6, 0), (29, 4), (5, 1), (5, 3), (15, 1), (6, 1), (21, 9), (29, 1), (9, 4), (5, 0), (26, 1), (25, 0), (25, 0), (29, 0), (2, 0), (2, 0), (27, 0)]⟩]
def srcC24x0 : List UInt8 := [108, 111, 99, 97, 108, 32, 110, 32, 61, 32, 48, 32, 102, 111, 114, 32, 105, 32, 61, 32, 49, 44, 32, 51, 32, 100, 111, 32, 105, 32, 61, 32, 105, 32, 43, 32, 53, 32, 110, 32, 61, 32, 110, 32, 43, 32, 49, 32, 101, 110, 100, 32, 112, 114, 105, 110, 116, 40, 110, 41]
def qC24x0a : HQ := List.replicate 10 none
def oC24x0a : List Ob := []
def uC24x0a : List UInt8 := [51, 10]
def qC24x0b : HQ := List.replicate 10 none
def oC24x0b : List Ob := []
def uC24x0b : List UInt8 := []
theorem cpC24x0 : CompK nsC24x0 rootC24x0 1 rowsC24x0 := by
  intro n r0 r1 r2 r3 r4 r5 r6 r7 r8 r9 r10 r11 r12
  kernel_rfl
theorem prC24x0 (src : List UInt8) (nodes0 : List Nd) : bind1 (bind1 (scanS 400 srcC24x0 0 0 []) (parT 400 src nodes0)) erP = some (nsC24x0, rootC24x0) := by kernel_rfl
theorem frC24x0 : Front srcC24x0 1 rowsC24x0 := by
  have e : rowsC24x0.map (rPut ((0 : Nat) : Int)) = rowsC24x0 := by kernel_rfl
  refine front_mk (ns := nsC24x0) (root := rootC24x0) (of_decide_eq_true (by kernel_rfl)) (e ▸ Rows.put (x := 0) (by decide) (by decide) (by decide) (by kernel_rfl) (by kernel_rfl) (of_decide_eq_true (by kernel_rfl))) (fun nodes0 => ?_) cpC24x0.all
  obtain ⟨z, hz, h⟩ := bnd1 (prC24x0 srcC24x0 nodes0)
  obtain ⟨r, hr, hz⟩ := bnd1 hz
  exact parse_of (ascii_of (by kernel_rfl)) hr nodes0 (by rw [hz]; exact h)
theorem vC24x0a : endR (coLA 1000 40 60 0 V.nil V.nil 0 qC24x0a (ld1 (pgR rowsC24x0) ts0 4)) = some ((⟨1, V.nil, 0⟩, 0, uC24x0a, 0, 1), [], oC24x0a) := by kernel_rfl
theorem obC24x0a : allOb oC24x0a := by
  unfold oC24x0a
  exact allOb_nil
theorem vC24x0b : endR (coLA 1000 40 60 0 V.nil V.nil 0 qC24x0b (ld1 (pgR rowsC24x0) ts0 3)) = some ((⟨3, V.nil, 9⟩, 0, uC24x0b, 0, 1), [], oC24x0b) := by kernel_rfl
theorem obC24x0b : allOb oC24x0b := by
  unfold oC24x0b
  exact allOb_nil
theorem opC24x0 (t : List UInt8) (c : CSt) (m : VM) (hJ : JJ c m) : Two say24 0 0 t c m := by
  exact two_mk (src := srcC24x0) (run_mk frC24x0 vC24x0a obC24x0a (by decide) (.inl ⟨rfl, rfl⟩)) (run_mk frC24x0 vC24x0b obC24x0b (by decide) (.inr ⟨rfl, rfl⟩)) c m hJ
theorem one24 {x : Nat} {t : List UInt8} (hx : x < 9218868437227405312) (hf : formatM x = some t) (c : CSt) (m : VM) (hJ : JJ c m) : Two say24 0 0 t c m := opC24x0 t c m hJ
def ns33 : List Nd := [⟨0, 0, 0, 0, 0, 0, [], 0⟩, ⟨17, 0, 0, 0, 0, 0, [112, 114, 105, 110, 116], 0⟩, ⟨15, 0, 0, 0, 0, 4607182418800017408, [], 0⟩, ⟨15, 0, 0, 0, 0, -1, [], 0⟩, ⟨24, 2, 3, 0, 0, 0, [], 0⟩, ⟨19, 1, 4, 0, 0, 0, [], 0⟩, ⟨5, 5, 0, 0, 12, 0, [], 0⟩, ⟨17, 0, 0, 0, 0, 0, [112, 114, 105, 110, 116], 0⟩, ⟨12, 0, 0, 0, 0, 0, [], 0⟩, ⟨15, 0, 0, 0, 0, 4607182418800017408, [], 0⟩, ⟨24, 8, 9, 0, 0, 0, [], 0⟩, ⟨19, 7, 10, 0, 0, 0, [], 0⟩, ⟨5, 11, 0, 0, 18, 0, [], 0⟩, ⟨17, 0, 0, 0, 0, 0, [112, 114, 105, 110, 116], 0⟩, ⟨14, 0, 0, 0, 0, 0, [], 0⟩, ⟨15, 0, 0, 0, 0, -1, [], 0⟩, ⟨25, 14, 15, 0, 0, 0, [], 0⟩, ⟨19, 13, 16, 0, 0, 0, [], 0⟩, ⟨5, 17, 0, 0, 24, 0, [], 0⟩, ⟨17, 0, 0, 0, 0, 0, [112, 114, 105, 110, 116], 0⟩, ⟨15, 0, 0, 0, 0, 4607182418800017408, [], 0⟩, ⟨15, 0, 0, 0, 0, 4611686018427387904, [], 0⟩, ⟨25, 20, 21, 0, 0, 0, [], 0⟩, ⟨19, 19, 22, 0, 0, 0, [], 0⟩, ⟨5, 23, 0, 0, 0, 0, [], 0⟩]
def root33 : Int := 6
def rows33 : List Rw := [⟨0, 0, [], [⟨3, 0, [112, 114, 105, 110, 116]⟩, ⟨2, 4607182418800017408, []⟩, ⟨2, -1, []⟩, ⟨2, 4611686018427387904, []⟩], [(9, 0), (1, 1), (23, 4), (1, 2), (26, 1), (25, 0), (25, 0), (9, 0), (2, 0), (23, 11), (1, 1), (26, 1), (25, 0), (25, 0), (9, 0), (4, 0), (24, 18), (1, 2), (26, 1), (25, 0), (25, 0), (9, 0), (1, 1), (24, 25), (1, 3), (26, 1), (25, 0), (25, 0), (2, 0), (2, 0), (27, 0)]⟩]
def q33a (x : Nat) (t : List UInt8) : HQ := [some ⟨t, [], [], 0⟩, some ⟨[], [], [], 1⟩, some ⟨t, [], [], 0⟩, some ⟨[], [], [], 1⟩]
def o33a (x : Nat) (t : List UInt8) : List Ob := [.txt ⟨2, ((x : Nat) : Int), []⟩ t, .out [] t, .out (([] ++ t) ++ [10]) [110, 105, 108], .txt ⟨2, ((x : Nat) : Int), []⟩ t, .out (((([] ++ t) ++ [10]) ++ [110, 105, 108]) ++ [10]) t, .out (((((([] ++ t) ++ [10]) ++ [110, 105, 108]) ++ [10]) ++ t) ++ [10]) [49]]
def u33a (t : List UInt8) : List UInt8 := (((((((([] ++ t) ++ [10]) ++ [110, 105, 108]) ++ [10]) ++ t) ++ [10]) ++ [49]) ++ [10])
def q33b (x : Nat) (t : List UInt8) : HQ := [some ⟨t, [], [], 0⟩, some ⟨[], [], [], 1⟩, some ⟨t, [], [], 0⟩, none]
def o33b (x : Nat) (t : List UInt8) : List Ob := [.txt ⟨2, ((x : Nat) : Int), []⟩ t, .out [] t, .out (([] ++ t) ++ [10]) [110, 105, 108], .txt ⟨2, ((x : Nat) : Int), []⟩ t, .out (((([] ++ t) ++ [10]) ++ [110, 105, 108]) ++ [10]) t]
def u33b (t : List UInt8) : List UInt8 := (((((([] ++ t) ++ [10]) ++ [110, 105, 108]) ++ [10]) ++ t) ++ [10])
theorem cp33 : CompK ns33 root33 1 rows33 := by
  intro n r0 r1 r2 r3 r4 r5 r6 r7 r8 r9 r10 r11 r12
  kernel_rfl
def p33_0 : List UInt8 := [112, 114, 105, 110, 116, 40, 49, 32, 97, 110, 100, 32]
def p33_1 : List UInt8 := [41, 32, 112, 114, 105, 110, 116, 40, 110, 105, 108, 32, 97, 110, 100, 32, 49, 41, 32, 112, 114, 105, 110, 116, 40, 102, 97, 108, 115, 101, 32, 111, 114, 32]
def p33_2 : List UInt8 := [41, 32, 112, 114, 105, 110, 116, 40, 49, 32, 111, 114, 32, 50, 41]
theorem lx33_0 (w : List UInt8) : scanW w 400 p33_0 0 0 [] = some (388, 12, 0, tkP 400 p33_0 0) := by kernel_rfl
def tk33_0 (x len : Nat) : List Tok := tkP 400 p33_0 0
def tk33_1 (x len : Nat) : List Tok := ((scanS 365 p33_1 (12 + len) 0 (tk33_0 x len ++ [⟨3, (12 : Nat), [], ((x : Nat) : Int), 0⟩])).getD []).dropLast
theorem lx33_1 (w : List UInt8) (x len : Nat) : scanW w 365 p33_1 (12 + len) 0 (tk33_0 x len ++ [⟨3, (12 : Nat), [], ((x : Nat) : Int), 0⟩]) = some (331, 12 + len + 34, 0, tk33_1 x len) := by kernel_rfl
theorem pr33 (x len : Nat) (src : List UInt8) (nodes0 : List Nd) : bind1 (bind1 (scanS 100 p33_2 (12 + len + 34 + len) 0 (tk33_1 x len ++ [⟨3, (12 + len + 34 : Nat), [], ((x : Nat) : Int), 0⟩])) (parT 400 src nodes0)) erP = some (ns33.map (nPut x), root33) := by kernel_rfl
theorem fr33 {x : Nat} {t : List UInt8} (hx : x < 9218868437227405312) (hn : NumT t) (hl : t.length ≤ 22) (hp : parseM t = some (x, 0)) (hL : newX [4607182418800017408, 4611686018427387904] x) : Front (say33 t).src 1 (rows33.map (rPut x)) := by
  refine front_mk (ns := ns33.map (nPut x)) (root := root33) ?_ (Rows.put hx (by decide) (by decide) (by kernel_rfl) (by kernel_rfl) (of_decide_eq_true (by kernel_rfl))) (fun nodes0 => ?_) (comp_open cp33 hL (fun z => hL 4607182418800017408 (by simp) z.symm) (by kernel_rfl) (by kernel_rfl))
  · show (((((p33_0 ++ t) ++ p33_1) ++ t) ++ p33_2)).length ≤ 2048
    simp only [List.length_append]
    have e : p33_0.length + p33_1.length + p33_2.length ≤ 1000 := of_decide_eq_true (by kernel_rfl)
    omega
  · show bind1 (bind1 (scanL 400 ((((p33_0 ++ t) ++ p33_1) ++ t) ++ p33_2) 0 0 []) (parT 400 ((((p33_0 ++ t) ++ p33_1) ++ t) ++ p33_2) nodes0)) erP = _
    have h := pr33 x t.length ((((p33_0 ++ t) ++ p33_1) ++ t) ++ p33_2) nodes0
    obtain ⟨z, hz, h⟩ := bnd1 h
    obtain ⟨r, hr, hz⟩ := bnd1 hz
    refine parse_of (r := r) (ascii_app (ascii_app (ascii_app (ascii_app (ascii_of (by kernel_rfl)) (num_ascii hn)) (ascii_of (by kernel_rfl))) (num_ascii hn)) (ascii_of (by kernel_rfl))) ?_ nodes0 ?_
    · have e : ((((p33_0 ++ t) ++ p33_1) ++ t) ++ p33_2) = p33_0 ++ (t ++ (p33_1 ++ (t ++ (p33_2)))) := by simp only [List.append_assoc]
      rw [e]
      exact pre_step (lx33_0 _) (num_step (t := t) hn hl (by refine ⟨?_, ?_, ?_⟩ <;> decide) hp (of_decide_eq_true (by kernel_rfl)) (pre_step (lx33_1 _ x t.length) (num_step (t := t) hn hl (by refine ⟨?_, ?_, ?_⟩ <;> decide) hp (of_decide_eq_true (by kernel_rfl)) hr (by decide))) (by decide))
    · rw [hz]; exact h
theorem v33a (x : Nat) (t : List UInt8) : endR (coLA 1000 40 60 0 V.nil V.nil 0 (q33a x t) (ld1 (pgR (rows33.map (rPut x))) ts0 4)) = some ((⟨1, V.nil, 0⟩, 0, u33a t, 0, 1), [], o33a x t) := by kernel_rfl
theorem ob33a {x : Nat} {t : List UInt8} (hx : x < 9218868437227405312) (hf : formatM x = some t) (hg : formatM (negM x) = some ([45] ++ t)) (hl : t.length ≤ 22) (hp : parseM t = some (x, 0)) : allOb (o33a x t) := by
  unfold o33a
  exact allOb_cons (txt_num (Nat.lt_trans hx (by decide)) hf) (allOb_cons (by show List.length _ + List.length _ + 1 ≤ 200; simp only [List.length_append, List.length_cons, List.length_nil]; omega) (allOb_cons (by show List.length _ + List.length _ + 1 ≤ 200; simp only [List.length_append, List.length_cons, List.length_nil]; omega) (allOb_cons (txt_num (Nat.lt_trans hx (by decide)) hf) (allOb_cons (by show List.length _ + List.length _ + 1 ≤ 200; simp only [List.length_append, List.length_cons, List.length_nil]; omega) (allOb_cons (by show List.length _ + List.length _ + 1 ≤ 200; simp only [List.length_append, List.length_cons, List.length_nil]; omega) (allOb_nil))))))
theorem v33b (x : Nat) (t : List UInt8) : endR (coLA 1000 40 60 0 V.nil V.nil 0 (q33b x t) (ld1 (pgR (rows33.map (rPut x))) ts0 3)) = some ((⟨3, V.nil, 9⟩, 0, u33b t, 0, 1), [], o33b x t) := by kernel_rfl
theorem ob33b {x : Nat} {t : List UInt8} (hx : x < 9218868437227405312) (hf : formatM x = some t) (hg : formatM (negM x) = some ([45] ++ t)) (hl : t.length ≤ 22) (hp : parseM t = some (x, 0)) : allOb (o33b x t) := by
  unfold o33b
  exact allOb_cons (txt_num (Nat.lt_trans hx (by decide)) hf) (allOb_cons (by show List.length _ + List.length _ + 1 ≤ 200; simp only [List.length_append, List.length_cons, List.length_nil]; omega) (allOb_cons (by show List.length _ + List.length _ + 1 ≤ 200; simp only [List.length_append, List.length_cons, List.length_nil]; omega) (allOb_cons (txt_num (Nat.lt_trans hx (by decide)) hf) (allOb_cons (by show List.length _ + List.length _ + 1 ≤ 200; simp only [List.length_append, List.length_cons, List.length_nil]; omega) (allOb_nil)))))
theorem op33 {x : Nat} {t : List UInt8} (hx : x < 9218868437227405312) (hf : formatM x = some t) (hL : newX [4607182418800017408, 4611686018427387904] x) (c : CSt) (m : VM) (hJ : JJ c m) : Two say33 0 0 t c m := by
  obtain ⟨t', f1, hn, hl, hp, hg⟩ := fmt_all hx
  rw [hf] at f1
  injection f1 with f1
  subst f1
  have ua : u33a t = (say33 t).out := by simp [u33a, say33]
  have ub : u33b t = (say33 t).short := by simp [u33b, say33]
  exact two_mk (run_mk (fr33 hx hn hl hp hL) (v33a x t) (ob33a hx hf hg hl hp) (by decide) (.inl ⟨rfl, by rw [ua]⟩)) (run_mk (fr33 hx hn hl hp hL) (v33b x t) (ob33b hx hf hg hl hp) (by decide) (.inr ⟨rfl, by rw [ub]⟩)) c m hJ
def nsC33x0 : List Nd := [⟨0, 0, 0, 0, 0, 0, [], 0⟩, ⟨17, 0, 0, 0, 0, 0, [112, 114, 105, 110, 116], 0⟩, ⟨15, 0, 0, 0, 0, 4607182418800017408, [], 0⟩, ⟨15, 0, 0, 0, 0, 4607182418800017408, [], 0⟩, ⟨24, 2, 3, 0, 0, 0, [], 0⟩, ⟨19, 1, 4, 0, 0, 0, [], 0⟩, ⟨5, 5, 0, 0, 12, 0, [], 0⟩, ⟨17, 0, 0, 0, 0, 0, [112, 114, 105, 110, 116], 0⟩, ⟨12, 0, 0, 0, 0, 0, [], 0⟩, ⟨15, 0, 0, 0, 0, 4607182418800017408, [], 0⟩, ⟨24, 8, 9, 0, 0, 0, [], 0⟩, ⟨19, 7, 10, 0, 0, 0, [], 0⟩, ⟨5, 11, 0, 0, 18, 0, [], 0⟩, ⟨17, 0, 0, 0, 0, 0, [112, 114, 105, 110, 116], 0⟩, ⟨14, 0, 0, 0, 0, 0, [], 0⟩, ⟨15, 0, 0, 0, 0, 4607182418800017408, [], 0⟩, ⟨25, 14, 15, 0, 0, 0, [], 0⟩, ⟨19, 13, 16, 0, 0, 0, [], 0⟩, ⟨5, 17, 0, 0, 24, 0, [], 0⟩, ⟨17, 0, 0, 0, 0, 0, [112, 114, 105, 110, 116], 0⟩, ⟨15, 0, 0, 0, 0, 4607182418800017408, [], 0⟩, ⟨15, 0, 0, 0, 0, 4611686018427387904, [], 0⟩, ⟨25, 20, 21, 0, 0, 0, [], 0⟩, ⟨19, 19, 22, 0, 0, 0, [], 0⟩, ⟨5, 23, 0, 0, 0, 0, [], 0⟩]
def rootC33x0 : Int := 6
def rowsC33x0 : List Rw := [⟨0, 0, [], [⟨3, 0, [112, 114, 105, 110, 116]⟩, ⟨2, 4607182418800017408, []⟩, ⟨2, 4611686018427387904, []⟩], [(9, 0), (1, 1), (23, 4), (1, 1), (26, 1), (25, 0), (25, 0), (9, 0), (2, 0), (23, 11), (1, 1), (26, 1), (25, 0), (25, 0), (9, 0), (4, 0), (24, 18), (1, 1), (26, 1), (25, 0), (25, 0), (9, 0), (1, 1), (24, 25), (1, 2), (26, 1), (25, 0), (25, 0), (2, 0), (2, 0), (27, 0)]⟩]
def srcC33x0 : List UInt8 := [112, 114, 105, 110, 116, 40, 49, 32, 97, 110, 100, 32, 49, 41, 32, 112, 114, 105, 110, 116, 40, 110, 105, 108, 32, 97, 110, 100, 32, 49, 41, 32, 112, 114, 105, 110, 116, 40, 102, 97, 108, 115, 101, 32, 111, 114, 32, 49, 41, 32, 112, 114, 105, 110, 116, 40, 49, 32, 111, 114, 32, 50, 41]
def qC33x0a : HQ := List.replicate 4 none
def oC33x0a : List Ob := []
def uC33x0a : List UInt8 := [49, 10, 110, 105, 108, 10, 49, 10, 49, 10]
def qC33x0b : HQ := List.replicate 4 none
def oC33x0b : List Ob := []
def uC33x0b : List UInt8 := [49, 10, 110, 105, 108, 10, 49, 10]
theorem cpC33x0 : CompK nsC33x0 rootC33x0 1 rowsC33x0 := by
  intro n r0 r1 r2 r3 r4 r5 r6 r7 r8 r9 r10 r11 r12
  kernel_rfl
theorem prC33x0 (src : List UInt8) (nodes0 : List Nd) : bind1 (bind1 (scanS 400 srcC33x0 0 0 []) (parT 400 src nodes0)) erP = some (nsC33x0, rootC33x0) := by kernel_rfl
theorem frC33x0 : Front srcC33x0 1 rowsC33x0 := by
  have e : rowsC33x0.map (rPut ((0 : Nat) : Int)) = rowsC33x0 := by kernel_rfl
  refine front_mk (ns := nsC33x0) (root := rootC33x0) (of_decide_eq_true (by kernel_rfl)) (e ▸ Rows.put (x := 0) (by decide) (by decide) (by decide) (by kernel_rfl) (by kernel_rfl) (of_decide_eq_true (by kernel_rfl))) (fun nodes0 => ?_) cpC33x0.all
  obtain ⟨z, hz, h⟩ := bnd1 (prC33x0 srcC33x0 nodes0)
  obtain ⟨r, hr, hz⟩ := bnd1 hz
  exact parse_of (ascii_of (by kernel_rfl)) hr nodes0 (by rw [hz]; exact h)
theorem vC33x0a : endR (coLA 1000 40 60 0 V.nil V.nil 0 qC33x0a (ld1 (pgR rowsC33x0) ts0 4)) = some ((⟨1, V.nil, 0⟩, 0, uC33x0a, 0, 1), [], oC33x0a) := by kernel_rfl
theorem obC33x0a : allOb oC33x0a := by
  unfold oC33x0a
  exact allOb_nil
theorem vC33x0b : endR (coLA 1000 40 60 0 V.nil V.nil 0 qC33x0b (ld1 (pgR rowsC33x0) ts0 3)) = some ((⟨3, V.nil, 9⟩, 0, uC33x0b, 0, 1), [], oC33x0b) := by kernel_rfl
theorem obC33x0b : allOb oC33x0b := by
  unfold oC33x0b
  exact allOb_nil
theorem opC33x0 (c : CSt) (m : VM) (hJ : JJ c m) : Two say33 0 0 [49] c m := by
  exact two_mk (src := srcC33x0) (run_mk frC33x0 vC33x0a obC33x0a (by decide) (.inl ⟨rfl, rfl⟩)) (run_mk frC33x0 vC33x0b obC33x0b (by decide) (.inr ⟨rfl, rfl⟩)) c m hJ
def nsC33x1 : List Nd := [⟨0, 0, 0, 0, 0, 0, [], 0⟩, ⟨17, 0, 0, 0, 0, 0, [112, 114, 105, 110, 116], 0⟩, ⟨15, 0, 0, 0, 0, 4607182418800017408, [], 0⟩, ⟨15, 0, 0, 0, 0, 4611686018427387904, [], 0⟩, ⟨24, 2, 3, 0, 0, 0, [], 0⟩, ⟨19, 1, 4, 0, 0, 0, [], 0⟩, ⟨5, 5, 0, 0, 12, 0, [], 0⟩, ⟨17, 0, 0, 0, 0, 0, [112, 114, 105, 110, 116], 0⟩, ⟨12, 0, 0, 0, 0, 0, [], 0⟩, ⟨15, 0, 0, 0, 0, 4607182418800017408, [], 0⟩, ⟨24, 8, 9, 0, 0, 0, [], 0⟩, ⟨19, 7, 10, 0, 0, 0, [], 0⟩, ⟨5, 11, 0, 0, 18, 0, [], 0⟩, ⟨17, 0, 0, 0, 0, 0, [112, 114, 105, 110, 116], 0⟩, ⟨14, 0, 0, 0, 0, 0, [], 0⟩, ⟨15, 0, 0, 0, 0, 4611686018427387904, [], 0⟩, ⟨25, 14, 15, 0, 0, 0, [], 0⟩, ⟨19, 13, 16, 0, 0, 0, [], 0⟩, ⟨5, 17, 0, 0, 24, 0, [], 0⟩, ⟨17, 0, 0, 0, 0, 0, [112, 114, 105, 110, 116], 0⟩, ⟨15, 0, 0, 0, 0, 4607182418800017408, [], 0⟩, ⟨15, 0, 0, 0, 0, 4611686018427387904, [], 0⟩, ⟨25, 20, 21, 0, 0, 0, [], 0⟩, ⟨19, 19, 22, 0, 0, 0, [], 0⟩, ⟨5, 23, 0, 0, 0, 0, [], 0⟩]
def rootC33x1 : Int := 6
def rowsC33x1 : List Rw := [⟨0, 0, [], [⟨3, 0, [112, 114, 105, 110, 116]⟩, ⟨2, 4607182418800017408, []⟩, ⟨2, 4611686018427387904, []⟩], [(9, 0), (1, 1), (23, 4), (1, 2), (26, 1), (25, 0), (25, 0), (9, 0), (2, 0), (23, 11), (1, 1), (26, 1), (25, 0), (25, 0), (9, 0), (4, 0), (24, 18), (1, 2), (26, 1), (25, 0), (25, 0), (9, 0), (1, 1), (24, 25), (1, 2), (26, 1), (25, 0), (25, 0), (2, 0), (2, 0), (27, 0)]⟩]
def srcC33x1 : List UInt8 := [112, 114, 105, 110, 116, 40, 49, 32, 97, 110, 100, 32, 50, 41, 32, 112, 114, 105, 110, 116, 40, 110, 105, 108, 32, 97, 110, 100, 32, 49, 41, 32, 112, 114, 105, 110, 116, 40, 102, 97, 108, 115, 101, 32, 111, 114, 32, 50, 41, 32, 112, 114, 105, 110, 116, 40, 49, 32, 111, 114, 32, 50, 41]
def qC33x1a : HQ := List.replicate 4 none
def oC33x1a : List Ob := []
def uC33x1a : List UInt8 := [50, 10, 110, 105, 108, 10, 50, 10, 49, 10]
def qC33x1b : HQ := List.replicate 4 none
def oC33x1b : List Ob := []
def uC33x1b : List UInt8 := [50, 10, 110, 105, 108, 10, 50, 10]
theorem cpC33x1 : CompK nsC33x1 rootC33x1 1 rowsC33x1 := by
  intro n r0 r1 r2 r3 r4 r5 r6 r7 r8 r9 r10 r11 r12
  kernel_rfl
theorem prC33x1 (src : List UInt8) (nodes0 : List Nd) : bind1 (bind1 (scanS 400 srcC33x1 0 0 []) (parT 400 src nodes0)) erP = some (nsC33x1, rootC33x1) := by kernel_rfl
theorem frC33x1 : Front srcC33x1 1 rowsC33x1 := by
  have e : rowsC33x1.map (rPut ((0 : Nat) : Int)) = rowsC33x1 := by kernel_rfl
  refine front_mk (ns := nsC33x1) (root := rootC33x1) (of_decide_eq_true (by kernel_rfl)) (e ▸ Rows.put (x := 0) (by decide) (by decide) (by decide) (by kernel_rfl) (by kernel_rfl) (of_decide_eq_true (by kernel_rfl))) (fun nodes0 => ?_) cpC33x1.all
  obtain ⟨z, hz, h⟩ := bnd1 (prC33x1 srcC33x1 nodes0)
  obtain ⟨r, hr, hz⟩ := bnd1 hz
  exact parse_of (ascii_of (by kernel_rfl)) hr nodes0 (by rw [hz]; exact h)
theorem vC33x1a : endR (coLA 1000 40 60 0 V.nil V.nil 0 qC33x1a (ld1 (pgR rowsC33x1) ts0 4)) = some ((⟨1, V.nil, 0⟩, 0, uC33x1a, 0, 1), [], oC33x1a) := by kernel_rfl
theorem obC33x1a : allOb oC33x1a := by
  unfold oC33x1a
  exact allOb_nil
theorem vC33x1b : endR (coLA 1000 40 60 0 V.nil V.nil 0 qC33x1b (ld1 (pgR rowsC33x1) ts0 3)) = some ((⟨3, V.nil, 9⟩, 0, uC33x1b, 0, 1), [], oC33x1b) := by kernel_rfl
theorem obC33x1b : allOb oC33x1b := by
  unfold oC33x1b
  exact allOb_nil
theorem opC33x1 (c : CSt) (m : VM) (hJ : JJ c m) : Two say33 0 0 [50] c m := by
  exact two_mk (src := srcC33x1) (run_mk frC33x1 vC33x1a obC33x1a (by decide) (.inl ⟨rfl, rfl⟩)) (run_mk frC33x1 vC33x1b obC33x1b (by decide) (.inr ⟨rfl, rfl⟩)) c m hJ
theorem one33 {x : Nat} {t : List UInt8} (hx : x < 9218868437227405312) (hf : formatM x = some t) (c : CSt) (m : VM) (hJ : JJ c m) : Two say33 0 0 t c m := by
  by_cases h0 : x = 4607182418800017408
  · subst h0
    have e : formatM 4607182418800017408 = some [49] := by kernel_rfl
    rw [e] at hf
    injection hf with hf
    subst hf
    exact opC33x0 c m hJ
  by_cases h1 : x = 4611686018427387904
  · subst h1
    have e : formatM 4611686018427387904 = some [50] := by kernel_rfl
    rw [e] at hf
    injection hf with hf
    subst hf
    exact opC33x1 c m hJ
  refine op33 hx hf ?_ c m hJ
  intro z hz
  simp only [List.mem_cons, List.not_mem_nil, or_false] at hz
  rcases hz with rfl | rfl <;> omega
def ns42 : List Nd := [⟨0, 0, 0, 0, 0, 0, [], 0⟩, ⟨17, 0, 0, 0, 2, 0, [97], 0⟩, ⟨17, 0, 0, 0, 0, 0, [98], 0⟩, ⟨17, 0, 0, 0, 0, 0, [112, 99, 97, 108, 108], 0⟩, ⟨12, 0, 0, 0, 0, 0, [], 0⟩, ⟨15, 0, 0, 0, 0, 4607182418800017408, [], 0⟩, ⟨22, 4, 5, 0, 0, 1, [], 0⟩, ⟨10, 6, 0, 0, 0, 0, [], 0⟩, ⟨20, 0, 7, 0, 0, 1, [], 0⟩, ⟨19, 3, 8, 0, 0, 0, [], 0⟩, ⟨2, 1, 9, 0, 14, 0, [], 0⟩, ⟨17, 0, 0, 0, 0, 0, [112, 114, 105, 110, 116], 0⟩, ⟨17, 0, 0, 0, 0, 0, [98], 0⟩, ⟨19, 11, 12, 0, 0, 0, [], 0⟩, ⟨5, 13, 0, 0, 18, 0, [], 0⟩, ⟨17, 0, 0, 0, 0, 0, [112, 114, 105, 110, 116], 0⟩, ⟨15, 0, 0, 0, 0, -1, [], 0⟩, ⟨19, 15, 16, 0, 0, 0, [], 0⟩, ⟨5, 17, 0, 0, 0, 0, [], 0⟩]
def root42 : Int := 10
def rows42 : List Rw := [⟨0, 2, [], [⟨3, 0, [112, 99, 97, 108, 108]⟩, ⟨3, 0, [112, 114, 105, 110, 116]⟩, ⟨2, -1, []⟩], [(9, 0), (28, 1), (26, 1), (6, 1), (6, 0), (9, 1), (5, 1), (26, 1), (25, 0), (25, 0), (9, 1), (1, 2), (26, 1), (25, 0), (25, 0), (29, 0), (2, 0), (2, 0), (27, 0)]⟩, ⟨0, 0, [], [⟨2, 4607182418800017408, []⟩], [(2, 0), (1, 0), (15, 1), (2, 0), (27, 0), (2, 0), (2, 0), (27, 0)]⟩]
def q42a (x : Nat) (t : List UInt8) : HQ := [none, none, some ⟨t, [], [], 0⟩]
def o42a (x : Nat) (t : List UInt8) : List Ob := [.txt ⟨2, ((x : Nat) : Int), []⟩ t, .out [97, 114, 105, 116, 104, 10] t]
def u42a (t : List UInt8) : List UInt8 := (([97, 114, 105, 116, 104, 10] ++ t) ++ [10])
def q42b (x : Nat) (t : List UInt8) : HQ := [none, none, none]
def o42b (x : Nat) (t : List UInt8) : List Ob := []
def u42b (t : List UInt8) : List UInt8 := [97, 114, 105, 116, 104, 10]
theorem cp42 : CompK ns42 root42 2 rows42 := by
  intro n r0 r1 r2 r3 r4 r5 r6 r7 r8 r9 r10 r11 r12
  kernel_rfl
def p42_0 : List UInt8 := [108, 111, 99, 97, 108, 32, 97, 44, 32, 98, 32, 61, 32, 112, 99, 97, 108, 108, 40, 102, 117, 110, 99, 116, 105, 111, 110, 40, 41, 32, 114, 101, 116, 117, 114, 110, 32, 110, 105, 108, 32, 43, 32, 49, 32, 101, 110, 100, 41, 32, 112, 114, 105, 110, 116, 40, 98, 41, 32, 112, 114, 105, 110, 116, 40]
def p42_1 : List UInt8 := [41]
theorem lx42 (w : List UInt8) : scanW w 400 p42_0 0 0 [] = some (335, 65, 0, tkP 400 p42_0 0) := by kernel_rfl
theorem pr42 (x len : Nat) (src : List UInt8) (nodes0 : List Nd) : bind1 (bind1 (scanS 200 p42_1 (65 + len) 0 (tkP 400 p42_0 0 ++ [⟨3, 65, [], ((x : Nat) : Int), 0⟩])) (parT 400 src nodes0)) erP = some (ns42.map (nPut x), root42) := by kernel_rfl
theorem fr42 {x : Nat} {t : List UInt8} (hx : x < 9218868437227405312) (hn : NumT t) (hl : t.length ≤ 22) (hp : parseM t = some (x, 0)) (hL : newX [4607182418800017408] x) : Front (say42 t).src 2 (rows42.map (rPut x)) := by
  refine front_mk (ns := ns42.map (nPut x)) (root := root42) ?_ (Rows.put hx (by decide) (by decide) (by kernel_rfl) (by kernel_rfl) (of_decide_eq_true (by kernel_rfl))) (fun nodes0 => ?_) (comp_open cp42 hL (fun z => hL 4607182418800017408 (by simp) z.symm) (by kernel_rfl) (by kernel_rfl))
  · show (((p42_0 ++ t) ++ p42_1)).length ≤ 2048
    simp only [List.length_append]
    have e : p42_0.length + p42_1.length ≤ 1000 := of_decide_eq_true (by kernel_rfl)
    omega
  · show bind1 (bind1 (scanL 400 ((p42_0 ++ t) ++ p42_1) 0 0 []) (parT 400 ((p42_0 ++ t) ++ p42_1) nodes0)) erP = _
    have h := pr42 x t.length ((p42_0 ++ t) ++ p42_1) nodes0
    obtain ⟨z, hz, h⟩ := bnd1 h
    obtain ⟨r, hr, hz⟩ := bnd1 hz
    refine parse_of (r := r) (ascii_app (ascii_app (ascii_of (by kernel_rfl)) (num_ascii hn)) (ascii_of (by kernel_rfl))) ?_ nodes0 ?_
    · rw [List.append_assoc]
      exact pre_step (lx42 _) (num_step hn hl (by refine ⟨?_, ?_, ?_⟩ <;> decide) hp (of_decide_eq_true (by kernel_rfl)) hr (by decide))
    · rw [hz]; exact h
theorem v42a (x : Nat) (t : List UInt8) : endR (coLA 1000 40 60 0 V.nil V.nil 0 (q42a x t) (ld1 (pgR (rows42.map (rPut x))) ts0 3)) = some ((⟨1, V.nil, 0⟩, 0, u42a t, 0, 1), [], o42a x t) := by kernel_rfl
theorem ob42a {x : Nat} {t : List UInt8} (hx : x < 9218868437227405312) (hf : formatM x = some t) (hg : formatM (negM x) = some ([45] ++ t)) (hl : t.length ≤ 22) (hp : parseM t = some (x, 0)) : allOb (o42a x t) := by
  unfold o42a
  exact allOb_cons (txt_num (Nat.lt_trans hx (by decide)) hf) (allOb_cons (by show List.length _ + List.length _ + 1 ≤ 200; simp only [List.length_append, List.length_cons, List.length_nil]; omega) (allOb_nil))
theorem v42b (x : Nat) (t : List UInt8) : endR (coLA 1000 40 60 0 V.nil V.nil 0 (q42b x t) (ld1 (pgR (rows42.map (rPut x))) ts0 2)) = some ((⟨3, V.nil, 9⟩, 0, u42b t, 0, 1), [], o42b x t) := by kernel_rfl
theorem ob42b {x : Nat} {t : List UInt8} (hx : x < 9218868437227405312) (hf : formatM x = some t) (hg : formatM (negM x) = some ([45] ++ t)) (hl : t.length ≤ 22) (hp : parseM t = some (x, 0)) : allOb (o42b x t) := by
  unfold o42b
  exact allOb_nil
theorem op42 {x : Nat} {t : List UInt8} (hx : x < 9218868437227405312) (hf : formatM x = some t) (hL : newX [4607182418800017408] x) (c : CSt) (m : VM) (hJ : JJ c m) : Two say42 (say42 t).m (say42 t).ms t c m := by
  obtain ⟨t', f1, hn, hl, hp, hg⟩ := fmt_all hx
  rw [hf] at f1
  injection f1 with f1
  subst f1
  have ua : u42a t = (say42 t).out := by simp [u42a, say42]
  have ub : u42b t = (say42 t).short := by simp [u42b, say42]
  exact two_mk (run_mk (fr42 hx hn hl hp hL) (v42a x t) (ob42a hx hf hg hl hp) (by decide) (.inl ⟨rfl, by rw [ua]⟩)) (run_mk (fr42 hx hn hl hp hL) (v42b x t) (ob42b hx hf hg hl hp) (by decide) (.inr ⟨rfl, by rw [ub]⟩)) c m hJ
def nsC42x0 : List Nd := [⟨0, 0, 0, 0, 0, 0, [], 0⟩, ⟨17, 0, 0, 0, 2, 0, [97], 0⟩, ⟨17, 0, 0, 0, 0, 0, [98], 0⟩, ⟨17, 0, 0, 0, 0, 0, [112, 99, 97, 108, 108], 0⟩, ⟨12, 0, 0, 0, 0, 0, [], 0⟩, ⟨15, 0, 0, 0, 0, 4607182418800017408, [], 0⟩, ⟨22, 4, 5, 0, 0, 1, [], 0⟩, ⟨10, 6, 0, 0, 0, 0, [], 0⟩, ⟨20, 0, 7, 0, 0, 1, [], 0⟩, ⟨19, 3, 8, 0, 0, 0, [], 0⟩, ⟨2, 1, 9, 0, 14, 0, [], 0⟩, ⟨17, 0, 0, 0, 0, 0, [112, 114, 105, 110, 116], 0⟩, ⟨17, 0, 0, 0, 0, 0, [98], 0⟩, ⟨19, 11, 12, 0, 0, 0, [], 0⟩, ⟨5, 13, 0, 0, 18, 0, [], 0⟩, ⟨17, 0, 0, 0, 0, 0, [112, 114, 105, 110, 116], 0⟩, ⟨15, 0, 0, 0, 0, 4607182418800017408, [], 0⟩, ⟨19, 15, 16, 0, 0, 0, [], 0⟩, ⟨5, 17, 0, 0, 0, 0, [], 0⟩]
def rootC42x0 : Int := 10
def rowsC42x0 : List Rw := [⟨0, 2, [], [⟨3, 0, [112, 99, 97, 108, 108]⟩, ⟨3, 0, [112, 114, 105, 110, 116]⟩, ⟨2, 4607182418800017408, []⟩], [(9, 0), (28, 1), (26, 1), (6, 1), (6, 0), (9, 1), (5, 1), (26, 1), (25, 0), (25, 0), (9, 1), (1, 2), (26, 1), (25, 0), (25, 0), (29, 0), (2, 0), (2, 0), (27, 0)]⟩, ⟨0, 0, [], [⟨2, 4607182418800017408, []⟩], [(2, 0), (1, 0), (15, 1), (2, 0), (27, 0), (2, 0), (2, 0), (27, 0)]⟩]
def srcC42x0 : List UInt8 := [108, 111, 99, 97, 108, 32, 97, 44, 32, 98, 32, 61, 32, 112, 99, 97, 108, 108, 40, 102, 117, 110, 99, 116, 105, 111, 110, 40, 41, 32, 114, 101, 116, 117, 114, 110, 32, 110, 105, 108, 32, 43, 32, 49, 32, 101, 110, 100, 41, 32, 112, 114, 105, 110, 116, 40, 98, 41, 32, 112, 114, 105, 110, 116, 40, 49, 41]
def qC42x0a : HQ := List.replicate 3 none
def oC42x0a : List Ob := []
def uC42x0a : List UInt8 := [97, 114, 105, 116, 104, 10, 49, 10]
def qC42x0b : HQ := List.replicate 3 none
def oC42x0b : List Ob := []
def uC42x0b : List UInt8 := [97, 114, 105, 116, 104, 10]
theorem cpC42x0 : CompK nsC42x0 rootC42x0 2 rowsC42x0 := by
  intro n r0 r1 r2 r3 r4 r5 r6 r7 r8 r9 r10 r11 r12
  kernel_rfl
theorem prC42x0 (src : List UInt8) (nodes0 : List Nd) : bind1 (bind1 (scanS 400 srcC42x0 0 0 []) (parT 400 src nodes0)) erP = some (nsC42x0, rootC42x0) := by kernel_rfl
theorem frC42x0 : Front srcC42x0 2 rowsC42x0 := by
  have e : rowsC42x0.map (rPut ((0 : Nat) : Int)) = rowsC42x0 := by kernel_rfl
  refine front_mk (ns := nsC42x0) (root := rootC42x0) (of_decide_eq_true (by kernel_rfl)) (e ▸ Rows.put (x := 0) (by decide) (by decide) (by decide) (by kernel_rfl) (by kernel_rfl) (of_decide_eq_true (by kernel_rfl))) (fun nodes0 => ?_) cpC42x0.all
  obtain ⟨z, hz, h⟩ := bnd1 (prC42x0 srcC42x0 nodes0)
  obtain ⟨r, hr, hz⟩ := bnd1 hz
  exact parse_of (ascii_of (by kernel_rfl)) hr nodes0 (by rw [hz]; exact h)
theorem vC42x0a : endR (coLA 1000 40 60 0 V.nil V.nil 0 qC42x0a (ld1 (pgR rowsC42x0) ts0 3)) = some ((⟨1, V.nil, 0⟩, 0, uC42x0a, 0, 1), [], oC42x0a) := by kernel_rfl
theorem obC42x0a : allOb oC42x0a := by
  unfold oC42x0a
  exact allOb_nil
theorem vC42x0b : endR (coLA 1000 40 60 0 V.nil V.nil 0 qC42x0b (ld1 (pgR rowsC42x0) ts0 2)) = some ((⟨3, V.nil, 9⟩, 0, uC42x0b, 0, 1), [], oC42x0b) := by kernel_rfl
theorem obC42x0b : allOb oC42x0b := by
  unfold oC42x0b
  exact allOb_nil
theorem opC42x0 (c : CSt) (m : VM) (hJ : JJ c m) : Two say42 (say42 [49]).m (say42 [49]).ms [49] c m := by
  exact two_mk (src := srcC42x0) (run_mk frC42x0 vC42x0a obC42x0a (by decide) (.inl ⟨rfl, rfl⟩)) (run_mk frC42x0 vC42x0b obC42x0b (by decide) (.inr ⟨rfl, rfl⟩)) c m hJ
theorem one42 {x : Nat} {t : List UInt8} (hx : x < 9218868437227405312) (hf : formatM x = some t) (c : CSt) (m : VM) (hJ : JJ c m) : Two say42 (say42 t).m (say42 t).ms t c m := by
  by_cases h0 : x = 4607182418800017408
  · subst h0
    have e : formatM 4607182418800017408 = some [49] := by kernel_rfl
    rw [e] at hf
    injection hf with hf
    subst hf
    exact opC42x0 c m hJ
  refine op42 hx hf ?_ c m hJ
  intro z hz
  simp only [List.mem_cons, List.not_mem_nil, or_false] at hz
  rcases hz with rfl <;> omega
def ns51 : List Nd := [⟨0, 0, 0, 0, 0, 0, [], 0⟩, ⟨17, 0, 0, 0, 0, 0, [112, 114, 105, 110, 116], 0⟩, ⟨16, 0, 0, 0, 0, 0, [97], 0⟩, ⟨16, 0, 0, 0, 0, 0, [98], 0⟩, ⟨22, 2, 3, 0, 0, 13, [], 0⟩, ⟨19, 1, 4, 0, 0, 0, [], 0⟩, ⟨5, 5, 0, 0, 12, 0, [], 0⟩, ⟨17, 0, 0, 0, 0, 0, [112, 114, 105, 110, 116], 0⟩, ⟨16, 0, 0, 0, 0, 0, [98], 0⟩, ⟨16, 0, 0, 0, 0, 0, [97], 0⟩, ⟨22, 8, 9, 0, 0, 13, [], 0⟩, ⟨19, 7, 10, 0, 0, 0, [], 0⟩, ⟨5, 11, 0, 0, 18, 0, [], 0⟩, ⟨17, 0, 0, 0, 0, 0, [112, 114, 105, 110, 116], 0⟩, ⟨16, 0, 0, 0, 0, 0, [97], 0⟩, ⟨15, 0, 0, 0, 0, -1, [], 0⟩, ⟨22, 14, 15, 0, 0, 20, [], 0⟩, ⟨19, 13, 16, 0, 0, 0, [], 0⟩, ⟨5, 17, 0, 0, 23, 0, [], 0⟩, ⟨17, 0, 0, 0, 0, 0, [112, 114, 105, 110, 116], 0⟩, ⟨16, 0, 0, 0, 0, 0, [97, 98], 0⟩, ⟨23, 20, 0, 0, 0, 3, [], 0⟩, ⟨19, 19, 21, 0, 0, 0, [], 0⟩, ⟨5, 22, 0, 0, 29, 0, [], 0⟩, ⟨17, 0, 0, 0, 0, 0, [112, 114, 105, 110, 116], 0⟩, ⟨16, 0, 0, 0, 0, 0, [97, 98], 0⟩, ⟨16, 0, 0, 0, 0, 0, [98], 0⟩, ⟨22, 25, 26, 0, 0, 13, [], 0⟩, ⟨19, 24, 27, 0, 0, 0, [], 0⟩, ⟨5, 28, 0, 0, 0, 0, [], 0⟩]
def root51 : Int := 6
def rows51 : List Rw := [⟨0, 0, [], [⟨3, 0, [112, 114, 105, 110, 116]⟩, ⟨3, 0, [97]⟩, ⟨3, 0, [98]⟩, ⟨2, -1, []⟩, ⟨3, 0, [97, 98]⟩], [(9, 0), (1, 1), (1, 2), (16, 3), (26, 1), (25, 0), (25, 0), (9, 0), (1, 2), (1, 1), (16, 3), (26, 1), (25, 0), (25, 0), (9, 0), (1, 1), (1, 3), (17, 0), (26, 1), (25, 0), (25, 0), (9, 0), (1, 4), (20, 0), (26, 1), (25, 0), (25, 0), (9, 0), (1, 4), (1, 2), (16, 3), (26, 1), (25, 0), (25, 0), (2, 0), (2, 0), (27, 0)]⟩]
def q51a (x : Nat) (t : List UInt8) : HQ := [none, none, some ⟨[97], t, ([97] ++ t), 0⟩, some ⟨([97] ++ t), [], [], 0⟩, some ⟨[], [], [], 1⟩, some ⟨[], [], [], 1⟩]
def o51a (x : Nat) (t : List UInt8) : List Ob := [.txt ⟨3, 0, [97]⟩ [97], .txt ⟨2, ((x : Nat) : Int), []⟩ t, .cat [97] t ([97] ++ t), .txt ⟨3, 0, ([97] ++ t)⟩ ([97] ++ t), .out [116, 114, 117, 101, 10, 102, 97, 108, 115, 101, 10] ([97] ++ t), .out (([116, 114, 117, 101, 10, 102, 97, 108, 115, 101, 10] ++ ([97] ++ t)) ++ [10]) [50], .out (((([116, 114, 117, 101, 10, 102, 97, 108, 115, 101, 10] ++ ([97] ++ t)) ++ [10]) ++ [50]) ++ [10]) [116, 114, 117, 101]]
def u51a (t : List UInt8) : List UInt8 := (((((([116, 114, 117, 101, 10, 102, 97, 108, 115, 101, 10] ++ ([97] ++ t)) ++ [10]) ++ [50]) ++ [10]) ++ [116, 114, 117, 101]) ++ [10])
def q51b (x : Nat) (t : List UInt8) : HQ := [none, none, some ⟨[97], t, ([97] ++ t), 0⟩, some ⟨([97] ++ t), [], [], 0⟩, some ⟨[], [], [], 1⟩, none]
def o51b (x : Nat) (t : List UInt8) : List Ob := [.txt ⟨3, 0, [97]⟩ [97], .txt ⟨2, ((x : Nat) : Int), []⟩ t, .cat [97] t ([97] ++ t), .txt ⟨3, 0, ([97] ++ t)⟩ ([97] ++ t), .out [116, 114, 117, 101, 10, 102, 97, 108, 115, 101, 10] ([97] ++ t), .out (([116, 114, 117, 101, 10, 102, 97, 108, 115, 101, 10] ++ ([97] ++ t)) ++ [10]) [50]]
def u51b (t : List UInt8) : List UInt8 := (((([116, 114, 117, 101, 10, 102, 97, 108, 115, 101, 10] ++ ([97] ++ t)) ++ [10]) ++ [50]) ++ [10])
theorem cp51 : CompK ns51 root51 1 rows51 := by
  intro n r0 r1 r2 r3 r4 r5 r6 r7 r8 r9 r10 r11 r12
  kernel_rfl
def p51_0 : List UInt8 := [112, 114, 105, 110, 116, 40, 34, 97, 34, 32, 60, 32, 34, 98, 34, 41, 32, 112, 114, 105, 110, 116, 40, 34, 98, 34, 32, 60, 32, 34, 97, 34, 41, 32, 112, 114, 105, 110, 116, 40, 34, 97, 34, 32, 46, 46, 32]
def p51_1 : List UInt8 := [41, 32, 112, 114, 105, 110, 116, 40, 35, 34, 97, 98, 34, 41, 32, 112, 114, 105, 110, 116, 40, 34, 97, 98, 34, 32, 60, 32, 34, 98, 34, 41]
theorem lx51 (w : List UInt8) : scanW w 400 p51_0 0 0 [] = some (353, 47, 0, tkP 400 p51_0 0) := by kernel_rfl
theorem pr51 (x len : Nat) (src : List UInt8) (nodes0 : List Nd) : bind1 (bind1 (scanS 200 p51_1 (47 + len) 0 (tkP 400 p51_0 0 ++ [⟨3, 47, [], ((x : Nat) : Int), 0⟩])) (parT 400 src nodes0)) erP = some (ns51.map (nPut x), root51) := by kernel_rfl
theorem fr51 {x : Nat} {t : List UInt8} (hx : x < 9218868437227405312) (hn : NumT t) (hl : t.length ≤ 22) (hp : parseM t = some (x, 0)) (hL : newX [4607182418800017408] x) : Front (say51 t).src 1 (rows51.map (rPut x)) := by
  refine front_mk (ns := ns51.map (nPut x)) (root := root51) ?_ (Rows.put hx (by decide) (by decide) (by kernel_rfl) (by kernel_rfl) (of_decide_eq_true (by kernel_rfl))) (fun nodes0 => ?_) (comp_open cp51 hL (fun z => hL 4607182418800017408 (by simp) z.symm) (by kernel_rfl) (by kernel_rfl))
  · show (((p51_0 ++ t) ++ p51_1)).length ≤ 2048
    simp only [List.length_append]
    have e : p51_0.length + p51_1.length ≤ 1000 := of_decide_eq_true (by kernel_rfl)
    omega
  · show bind1 (bind1 (scanL 400 ((p51_0 ++ t) ++ p51_1) 0 0 []) (parT 400 ((p51_0 ++ t) ++ p51_1) nodes0)) erP = _
    have h := pr51 x t.length ((p51_0 ++ t) ++ p51_1) nodes0
    obtain ⟨z, hz, h⟩ := bnd1 h
    obtain ⟨r, hr, hz⟩ := bnd1 hz
    refine parse_of (r := r) (ascii_app (ascii_app (ascii_of (by kernel_rfl)) (num_ascii hn)) (ascii_of (by kernel_rfl))) ?_ nodes0 ?_
    · rw [List.append_assoc]
      exact pre_step (lx51 _) (num_step hn hl (by refine ⟨?_, ?_, ?_⟩ <;> decide) hp (of_decide_eq_true (by kernel_rfl)) hr (by decide))
    · rw [hz]; exact h
theorem v51a (x : Nat) (t : List UInt8) : endR (coLA 1000 40 60 0 V.nil V.nil 0 (q51a x t) (ld1 (pgR (rows51.map (rPut x))) ts0 5)) = some ((⟨1, V.nil, 0⟩, 0, u51a t, 0, 1), [], o51a x t) := by kernel_rfl
theorem ob51a {x : Nat} {t : List UInt8} (hx : x < 9218868437227405312) (hf : formatM x = some t) (hg : formatM (negM x) = some ([45] ++ t)) (hl : t.length ≤ 22) (hp : parseM t = some (x, 0)) : allOb (o51a x t) := by
  unfold o51a
  exact allOb_cons (txt_str _) (allOb_cons (txt_num (Nat.lt_trans hx (by decide)) hf) (allOb_cons (by show List.length _ + List.length _ ≤ 40 ∧ _ = _ ++ _; refine ⟨?_, ?_⟩; (simp only [List.length_append, List.length_cons, List.length_nil]; omega); (simp)) (allOb_cons (txt_str _) (allOb_cons (by show List.length _ + List.length _ + 1 ≤ 200; simp only [List.length_append, List.length_cons, List.length_nil]; omega) (allOb_cons (by show List.length _ + List.length _ + 1 ≤ 200; simp only [List.length_append, List.length_cons, List.length_nil]; omega) (allOb_cons (by show List.length _ + List.length _ + 1 ≤ 200; simp only [List.length_append, List.length_cons, List.length_nil]; omega) (allOb_nil)))))))
theorem v51b (x : Nat) (t : List UInt8) : endR (coLA 1000 40 60 0 V.nil V.nil 0 (q51b x t) (ld1 (pgR (rows51.map (rPut x))) ts0 4)) = some ((⟨3, V.nil, 9⟩, 0, u51b t, 0, 1), [], o51b x t) := by kernel_rfl
theorem ob51b {x : Nat} {t : List UInt8} (hx : x < 9218868437227405312) (hf : formatM x = some t) (hg : formatM (negM x) = some ([45] ++ t)) (hl : t.length ≤ 22) (hp : parseM t = some (x, 0)) : allOb (o51b x t) := by
  unfold o51b
  exact allOb_cons (txt_str _) (allOb_cons (txt_num (Nat.lt_trans hx (by decide)) hf) (allOb_cons (by show List.length _ + List.length _ ≤ 40 ∧ _ = _ ++ _; refine ⟨?_, ?_⟩; (simp only [List.length_append, List.length_cons, List.length_nil]; omega); (simp)) (allOb_cons (txt_str _) (allOb_cons (by show List.length _ + List.length _ + 1 ≤ 200; simp only [List.length_append, List.length_cons, List.length_nil]; omega) (allOb_cons (by show List.length _ + List.length _ + 1 ≤ 200; simp only [List.length_append, List.length_cons, List.length_nil]; omega) (allOb_nil))))))
theorem op51 {x : Nat} {t : List UInt8} (hx : x < 9218868437227405312) (hf : formatM x = some t) (hL : newX [4607182418800017408] x) (c : CSt) (m : VM) (hJ : JJ c m) : Two say51 (say51 t).m (say51 t).ms t c m := by
  obtain ⟨t', f1, hn, hl, hp, hg⟩ := fmt_all hx
  rw [hf] at f1
  injection f1 with f1
  subst f1
  have ua : u51a t = (say51 t).out := by simp [u51a, say51]
  have ub : u51b t = (say51 t).short := by simp [u51b, say51]
  exact two_mk (run_mk (fr51 hx hn hl hp hL) (v51a x t) (ob51a hx hf hg hl hp) (by decide) (.inl ⟨rfl, by rw [ua]⟩)) (run_mk (fr51 hx hn hl hp hL) (v51b x t) (ob51b hx hf hg hl hp) (by decide) (.inr ⟨rfl, by rw [ub]⟩)) c m hJ
def nsC51x0 : List Nd := [⟨0, 0, 0, 0, 0, 0, [], 0⟩, ⟨17, 0, 0, 0, 0, 0, [112, 114, 105, 110, 116], 0⟩, ⟨16, 0, 0, 0, 0, 0, [97], 0⟩, ⟨16, 0, 0, 0, 0, 0, [98], 0⟩, ⟨22, 2, 3, 0, 0, 13, [], 0⟩, ⟨19, 1, 4, 0, 0, 0, [], 0⟩, ⟨5, 5, 0, 0, 12, 0, [], 0⟩, ⟨17, 0, 0, 0, 0, 0, [112, 114, 105, 110, 116], 0⟩, ⟨16, 0, 0, 0, 0, 0, [98], 0⟩, ⟨16, 0, 0, 0, 0, 0, [97], 0⟩, ⟨22, 8, 9, 0, 0, 13, [], 0⟩, ⟨19, 7, 10, 0, 0, 0, [], 0⟩, ⟨5, 11, 0, 0, 18, 0, [], 0⟩, ⟨17, 0, 0, 0, 0, 0, [112, 114, 105, 110, 116], 0⟩, ⟨16, 0, 0, 0, 0, 0, [97], 0⟩, ⟨15, 0, 0, 0, 0, 4607182418800017408, [], 0⟩, ⟨22, 14, 15, 0, 0, 20, [], 0⟩, ⟨19, 13, 16, 0, 0, 0, [], 0⟩, ⟨5, 17, 0, 0, 23, 0, [], 0⟩, ⟨17, 0, 0, 0, 0, 0, [112, 114, 105, 110, 116], 0⟩, ⟨16, 0, 0, 0, 0, 0, [97, 98], 0⟩, ⟨23, 20, 0, 0, 0, 3, [], 0⟩, ⟨19, 19, 21, 0, 0, 0, [], 0⟩, ⟨5, 22, 0, 0, 29, 0, [], 0⟩, ⟨17, 0, 0, 0, 0, 0, [112, 114, 105, 110, 116], 0⟩, ⟨16, 0, 0, 0, 0, 0, [97, 98], 0⟩, ⟨16, 0, 0, 0, 0, 0, [98], 0⟩, ⟨22, 25, 26, 0, 0, 13, [], 0⟩, ⟨19, 24, 27, 0, 0, 0, [], 0⟩, ⟨5, 28, 0, 0, 0, 0, [], 0⟩]
def rootC51x0 : Int := 6
def rowsC51x0 : List Rw := [⟨0, 0, [], [⟨3, 0, [112, 114, 105, 110, 116]⟩, ⟨3, 0, [97]⟩, ⟨3, 0, [98]⟩, ⟨2, 4607182418800017408, []⟩, ⟨3, 0, [97, 98]⟩], [(9, 0), (1, 1), (1, 2), (16, 3), (26, 1), (25, 0), (25, 0), (9, 0), (1, 2), (1, 1), (16, 3), (26, 1), (25, 0), (25, 0), (9, 0), (1, 1), (1, 3), (17, 0), (26, 1), (25, 0), (25, 0), (9, 0), (1, 4), (20, 0), (26, 1), (25, 0), (25, 0), (9, 0), (1, 4), (1, 2), (16, 3), (26, 1), (25, 0), (25, 0), (2, 0), (2, 0), (27, 0)]⟩]
def srcC51x0 : List UInt8 := [112, 114, 105, 110, 116, 40, 34, 97, 34, 32, 60, 32, 34, 98, 34, 41, 32, 112, 114, 105, 110, 116, 40, 34, 98, 34, 32, 60, 32, 34, 97, 34, 41, 32, 112, 114, 105, 110, 116, 40, 34, 97, 34, 32, 46, 46, 32, 49, 41, 32, 112, 114, 105, 110, 116, 40, 35, 34, 97, 98, 34, 41, 32, 112, 114, 105, 110, 116, 40, 34, 97, 98, 34, 32, 60, 32, 34, 98, 34, 41]
def qC51x0a : HQ := List.replicate 6 none
def oC51x0a : List Ob := []
def uC51x0a : List UInt8 := [116, 114, 117, 101, 10, 102, 97, 108, 115, 101, 10, 97, 49, 10, 50, 10, 116, 114, 117, 101, 10]
def qC51x0b : HQ := List.replicate 6 none
def oC51x0b : List Ob := []
def uC51x0b : List UInt8 := [116, 114, 117, 101, 10, 102, 97, 108, 115, 101, 10, 97, 49, 10, 50, 10]
theorem cpC51x0 : CompK nsC51x0 rootC51x0 1 rowsC51x0 := by
  intro n r0 r1 r2 r3 r4 r5 r6 r7 r8 r9 r10 r11 r12
  kernel_rfl
theorem prC51x0 (src : List UInt8) (nodes0 : List Nd) : bind1 (bind1 (scanS 400 srcC51x0 0 0 []) (parT 400 src nodes0)) erP = some (nsC51x0, rootC51x0) := by kernel_rfl
theorem frC51x0 : Front srcC51x0 1 rowsC51x0 := by
  have e : rowsC51x0.map (rPut ((0 : Nat) : Int)) = rowsC51x0 := by kernel_rfl
  refine front_mk (ns := nsC51x0) (root := rootC51x0) (of_decide_eq_true (by kernel_rfl)) (e ▸ Rows.put (x := 0) (by decide) (by decide) (by decide) (by kernel_rfl) (by kernel_rfl) (of_decide_eq_true (by kernel_rfl))) (fun nodes0 => ?_) cpC51x0.all
  obtain ⟨z, hz, h⟩ := bnd1 (prC51x0 srcC51x0 nodes0)
  obtain ⟨r, hr, hz⟩ := bnd1 hz
  exact parse_of (ascii_of (by kernel_rfl)) hr nodes0 (by rw [hz]; exact h)
theorem vC51x0a : endR (coLA 1000 40 60 0 V.nil V.nil 0 qC51x0a (ld1 (pgR rowsC51x0) ts0 5)) = some ((⟨1, V.nil, 0⟩, 0, uC51x0a, 0, 1), [], oC51x0a) := by kernel_rfl
theorem obC51x0a : allOb oC51x0a := by
  unfold oC51x0a
  exact allOb_nil
theorem vC51x0b : endR (coLA 1000 40 60 0 V.nil V.nil 0 qC51x0b (ld1 (pgR rowsC51x0) ts0 4)) = some ((⟨3, V.nil, 9⟩, 0, uC51x0b, 0, 1), [], oC51x0b) := by kernel_rfl
theorem obC51x0b : allOb oC51x0b := by
  unfold oC51x0b
  exact allOb_nil
theorem opC51x0 (c : CSt) (m : VM) (hJ : JJ c m) : Two say51 (say51 [49]).m (say51 [49]).ms [49] c m := by
  exact two_mk (src := srcC51x0) (run_mk frC51x0 vC51x0a obC51x0a (by decide) (.inl ⟨rfl, rfl⟩)) (run_mk frC51x0 vC51x0b obC51x0b (by decide) (.inr ⟨rfl, rfl⟩)) c m hJ
theorem one51 {x : Nat} {t : List UInt8} (hx : x < 9218868437227405312) (hf : formatM x = some t) (c : CSt) (m : VM) (hJ : JJ c m) : Two say51 (say51 t).m (say51 t).ms t c m := by
  by_cases h0 : x = 4607182418800017408
  · subst h0
    have e : formatM 4607182418800017408 = some [49] := by kernel_rfl
    rw [e] at hf
    injection hf with hf
    subst hf
    exact opC51x0 c m hJ
  refine op51 hx hf ?_ c m hJ
  intro z hz
  simp only [List.mem_cons, List.not_mem_nil, or_false] at hz
  rcases hz with rfl <;> omega
end Go.Wl
