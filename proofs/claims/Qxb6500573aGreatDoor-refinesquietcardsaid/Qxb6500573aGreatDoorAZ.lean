/- Plain: package vm, one store at a thread; events; return and unwind. -/
import Derived.Test.Qxb6500573aGreatDoorAY
namespace Go.Wl
open Go Go.Sl Go.Proofs
set_option linter.unusedVariables false
section
variable {b : VB} {ph : PH} {hh : List TH} {m : VM} {seg : Seg}
theorem isVM.cutS (hM : isVM b ph hh m seg) {th : Nat} {t : Th} {g : TH} (ht : m.vs.threads[th]? = some t) (hg : hh[th]? = some g) {j : Nat} (hj : j ≤ t.stack.length) :
    ∃ (pre post : List Value) (na : Option Addr) (nc : Nat) (seg' : Seg), pre.length = 0 + th * 5 ∧ (∀ H : Hp, Upd (seg :: H) b.thb 263 (pre ++ trow t g na nc ++ post) (pre ++ (trow t g na nc).set 2 (.slice g.sa j g.sc) ++ post) (seg' :: H)) ∧ isVM b ph hh (setTh m th { t with stack := t.stack.take j }) seg' := by
  obtain ⟨na, nc, r, ss, sf, sn, s0, s2, c0, c2, rfl, hpre, hss, hsf, hsn, hput⟩ := hM.opnT ht hg
  have hA := hss.cut hj
  rw [flat_take valV_len hj] at hA
  have hl : (t.stack.take j).length = j := by rw [List.length_take]; omega
  have hM2 := hput { t with stack := t.stack.take j } g na nc ss sf sn (by dsimp only; rw [hl]; exact hA) hsf hsn
  rw [set_same hg] at hM2
  dsimp only at hM2
  rw [hl] at hM2
  exact ⟨c0, c2, na, nc, _, hpre, fun H => Upd.flat (by exact U1), hM2⟩
theorem isVM.cutF (hM : isVM b ph hh m seg) {th : Nat} {t : Th} {g : TH} (ht : m.vs.threads[th]? = some t) (hg : hh[th]? = some g) {j : Nat} (hj : j ≤ t.frames.length) :
    ∃ (pre post : List Value) (na : Option Addr) (nc : Nat) (seg' : Seg), pre.length = 0 + th * 5 ∧ (∀ H : Hp, Upd (seg :: H) b.thb 263 (pre ++ trow t g na nc ++ post) (pre ++ (trow t g na nc).set 3 (.slice g.fa j g.fc) ++ post) (seg' :: H)) ∧ isVM b ph hh (setTh m th { t with frames := t.frames.take j }) seg' := by
  obtain ⟨na, nc, r, ss, sf, sn, s0, s2, c0, c2, rfl, hpre, hss, hsf, hsn, hput⟩ := hM.opnT ht hg
  have hA := hsf.cut hj
  rw [flat_take frV_len hj] at hA
  have hl : (t.frames.take j).length = j := by rw [List.length_take]; omega
  have hM2 := hput { t with frames := t.frames.take j } g na nc ss sf sn hss (by dsimp only; rw [hl]; exact hA) hsn
  rw [set_same hg] at hM2
  dsimp only at hM2
  rw [hl] at hM2
  exact ⟨c0, c2, na, nc, _, hpre, fun H => Upd.flat (by exact U1), hM2⟩
theorem isVM.setSt (hM : isVM b ph hh m seg) {th : Nat} {t : Th} {g : TH} (ht : m.vs.threads[th]? = some t) (hg : hh[th]? = some g) (s : Int) :
    ∃ (pre post : List Value) (na : Option Addr) (nc : Nat) (seg' : Seg), pre.length = 0 + th * 5 ∧ (∀ H : Hp, Upd (seg :: H) b.thb 263 (pre ++ trow t g na nc ++ post) (pre ++ (trow t g na nc).set 0 (I s) ++ post) (seg' :: H)) ∧ isVM b ph hh (setTh m th { t with st := s }) seg' := by
  obtain ⟨na, nc, r, ss, sf, sn, s0, s2, c0, c2, rfl, hpre, hss, hsf, hsn, hput⟩ := hM.opnT ht hg
  have hM2 := hput { t with st := s } g na nc ss sf sn hss hsf hsn
  rw [set_same hg] at hM2
  exact ⟨c0, c2, na, nc, _, hpre, fun H => Upd.flat (by exact U1), hM2⟩
theorem flat_mid {α : Type} {f : α → List Value} {k : Nat} (hf : ∀ x, (f x).length = k) {l : List α} {i : Nat} (hi : i < l.length) (sp : List Value) (y : α) : ∃ pre post, pre.length = 0 + i * k ∧ l.flatMap f ++ sp = pre ++ f l[i] ++ post ∧ (l.set i y).flatMap f ++ sp = pre ++ f y ++ post := by
  refine ⟨(l.take i).flatMap f, (l.drop (i + 1)).flatMap f ++ sp, by rw [flat_len hf, List.length_take]; rw [Nat.min_eq_left (by omega)]; omega, ?_, ?_⟩
  · have e : l = l.take i ++ l[i] :: l.drop (i + 1) := by rw [← List.drop_eq_getElem_cons hi, List.take_append_drop]
    have e2 : l.flatMap f = (l.take i).flatMap f ++ (f l[i] ++ (l.drop (i + 1)).flatMap f) := by
      conv => lhs; rw [e]
      rw [List.flatMap_append, List.flatMap_cons]
    rw [e2]
    simp only [List.append_assoc]
  · rw [List.set_eq_take_append_cons_drop, if_pos hi]
    simp
theorem isVM.setPc (hM : isVM b ph hh m seg) {th i : Nat} {f : Fr} {m' : VM} {pc : Int} (hf : getF m th i = some f) (hp : pcM th i pc m = some m') {g : TH} {q : Nat} (hg : hh[th]? = some g) (hq : g.fa = some ⟨q, 0, none⟩) :
    ∃ (pre post : List Value) (seg' : Seg), pre.length = 0 + i * 5 ∧ (∀ H : Hp, Upd (seg :: H) q 331 (pre ++ frV f ++ post) (pre ++ (frV f).set 1 (I pc) ++ post) (seg' :: H)) ∧ isVM b ph hh m' seg' := by
  unfold pcM at hp
  rw [hf] at hp
  dsimp only [bind1] at hp
  unfold setF getT at hp
  obtain ⟨t, ht, hi, he⟩ := getF_some hf
  rw [ht] at hp
  dsimp only [bind1] at hp
  rw [if_pos hi] at hp
  injection hp with hp
  subst hp
  obtain ⟨na, nc, r, ss, sf, sn, s0, s2, c0, c2, rfl, hpre, hss, hsf, hsn, hput⟩ := hM.opnT ht hg
  obtain ⟨q', sp, hq', hc1, hc2, rfl⟩ := hsf.row (by omega)
  rw [hq] at hq'
  injection hq' with hq'
  injection hq' with hq'
  subst hq'
  obtain ⟨pre, post, h1, h2, h3⟩ := flat_mid frV_len hi sp { f with pc := pc }
  have hA1 : Arr 331 5 g.fa (t.frames.set i { f with pc := pc }).length g.fc ((t.frames.set i { f with pc := pc }).flatMap frV) (blk q 331 ((t.frames.set i { f with pc := pc }).flatMap frV ++ sp)) := by
    rw [hq]; exact Arr.mk (by rw [flat_len frV_len]) (by simpa using hc1) (by simpa using hc2)
  have hM2 := hput { t with frames := t.frames.set i { f with pc := pc } } g na nc ss _ sn hss hA1 hsn
  rw [set_same hg] at hM2
  dsimp only at hM2
  rw [List.length_set, h3] at hM2
  rw [h2, he]
  exact ⟨pre, post, _, h1, fun H => Upd.flat (by exact U4), hM2⟩
end
theorem getF_cut {m : VM} {th i : Nat} {f : Fr} {t : Th} {st : List V} (hf : getF m th i = some f) (ht : m.vs.threads[th]? = some t) : getF (setTh m th { t with stack := st }) th i = some f := by
  unfold getF getT at hf ⊢
  rw [ht] at hf
  have hl := (List.getElem?_eq_some_iff.1 ht).1
  rw [show (setTh m th { t with stack := st }).vs.threads[th]? = some { t with stack := st } from by unfold setTh; dsimp only; rw [List.getElem?_set_self hl]]
  exact hf
/-- What a run of a thread ends with. -/
structure Ev where
  k : Int
  co : Int
  e : Int
  a : V
  c : V
def evV (x : Ev) : List Value := [I x.k, I x.co, I x.e] ++ valV x.a ++ valV x.c
def ev0 : Ev := ⟨0, 0, 0, V.nil, V.nil⟩
def vb1 : V := ⟨1, 1, []⟩
def retM (th i : Nat) (m : VM) : Option (Ev × VM) := bind2 (popM th m) fun v m => bind2 (popM th m) fun w m => bind1 (getT m th) fun t => if (t.frames.length : Int) = 1 then bind1 (killM th m) fun m => some (⟨1, 0, 0, w, v⟩, m) else
  bind1 (getF m th i) fun f => bind1 (closeM th f.base m) fun m => bind1 (getF m th i) fun f => bind1 (getT m th) fun t => if 0 ≤ f.ret ∧ f.ret ≤ t.stack.length then
    bind1 (pushM th (if f.prot = true then [vb1, w] else [w, v]) (setTh m th { t with stack := t.stack.take f.ret.toNat })) fun m => bind1 (getT m th) fun t => if 1 ≤ t.frames.length ∧ t.frames.length ≤ 1000000 then some (ev0, setTh m th { t with frames := t.frames.take (t.frames.length - 1) }) else none
  else none
def v1 : V := ⟨1, 0, []⟩
def unwindL (th : Nat) (v : V) (m : VM) : Nat → Option (Ev × Bool × VM)
  | 0 => bind1 (killM th m) fun m => some (⟨2, 0, 0, v, V.nil⟩, true, m)
  | n + 1 => bind1 (getF m th (n + 1)) fun f => if f.prot = true then
      bind1 (closeM th f.base m) fun m => bind1 (getF m th (n + 1)) fun f => bind1 (getT m th) fun t => if 0 ≤ f.ret ∧ f.ret ≤ t.stack.length ∧ n + 1 ≤ t.frames.length then
        bind1 (pushM th [v1, v] (setTh m th { t with stack := t.stack.take f.ret.toNat, frames := t.frames.take (n + 1) })) fun m => some (ev0, false, m)
      else none
    else unwindL th v m n
def unwindM (th : Nat) (v : V) (m : VM) : Option (Ev × Bool × VM) := bind1 (getT m th) fun t => if 1 ≤ t.frames.length ∧ t.frames.length ≤ 1000000 then unwindL th v m (t.frames.length - 1) else none
end Go.Wl
