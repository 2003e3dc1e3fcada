/- Plain: the interpreter and the machine go on together: breaks, conditions, scopes. -/
import Derived.Test.Qxb6500573aGreatDoorSim12
namespace Go.Sm
open Go Go.Sl Go.Wl Go.Nm Go.Proofs
set_option linter.unusedVariables false
section
variable {ns : List Nd} {P : List Fs} {x : Nat} {E : Sco} {HB : Nat} {VO : List Nm8 → Option Nat → Prop} {hs : Nat} {prot : Int}
theorem WhD.le {L L1 : List Nm8} {d : Nd} {top p1 p2 p3 lo m1 m2 : Nat} (D : WhD ns P x E L d top p1 p2 p3 lo m1 m2 L1) : top ≤ p1 ∧ p1 + 1 ≤ p3 := by
  have h1 := D.h1.reg
  have h2 := D.h2.reg
  have h3 := D.v2.le
  omega
theorem FoD.le {L L1 : List Nm8} {d : Nd} {p3 p4 p5 m3 m4 : Nat} (D : FoD ns P x E L d p3 p4 p5 m3 m4 L1) : p3 + 6 ≤ p4 := by
  have h2 := D.hb.reg
  have h3 := D.hv.le
  omega
theorem InD.le {L L1 : List Nm8} {d dk dv : Nd} {p1 p4 p5 m2 m3 : Nat} (D : InD ns P x E L d dk dv p1 p4 p5 m2 m3 L1) : p1 + 5 ≤ p4 := by
  have h2 := D.hb.reg
  have h3 := D.hv.le
  omega
theorem Kt.le {iv : List Nat} {br : Brk} {L : List Nm8} {pc no : Nat} {tb : List Nat} {T : List TkM} {w : Nat} (h : Kt ns P x E HB VO hs prot iv br L pc no tb T w) : ∀ b o, br = some (b, o) → pc ≤ o := by
  induction h with
  | ret => intro b o q; cases q
  | eval h ve hb ht k ih => intro b o q; have := ih b o q; have := h.reg; omega
  | log hd hk i h ve hb ht k ih => intro b o q; have := ih b o q; have := h.reg; omega
  | item hd i h ve hb ht h0 hsb k ih => intro b o q; have := ih b o q; have := h.reg; omega
  | bind hd hs' i h lb hz v ve hb k ih => intro b o q; have := ih b o q; have := h.reg; have := v.le; omega
  | bind2 hd ha hb' hs' i0 i1 h lb hz v ve hb k ih => intro b o q; have := ih b o q; have := h.reg; have := v.le; omega
  | cond hd i1 h2 v2 i2 h3 v3 ve hb k ih => intro b o q; have := ih b o q; have := h2.reg; have := v2.le; have := h3.reg; have := v3.le; omega
  | block h lb hz v ve hb k ih => intro b o q; have := ih b o q; have := h.reg; have := v.le; omega
  | loopW hh hb hiv k ih => intro b o q; injection q with q; injection q with q1 q2; omega
  | whl hd D ve hb hl' k ih => intro b o q; injection q with q; injection q with q1 q2; have := D.le; omega
  | whlT hd D ve hb hl' k ih => intro b o q; injection q with q; injection q with q1 q2; have := D.le; omega
  | whlB hd D ve hb hl' k ih => intro b o q; injection q with q; injection q with q1 q2; have := D.le; omega
  | forI hd D ve hb hiv k ih => intro b o q; injection q with q; injection q with q1 q2; have := D.le; omega
  | forT hd D ve hb hiv k ih => intro b o q; injection q with q; injection q with q1 q2; have := D.le; omega
  | forB hd D ve hb hiv k ih => intro b o q; injection q with q; injection q with q1 q2; have := D.le; omega
  | inI hd D ve hb hiv k ih => intro b o q; injection q with q; injection q with q1 q2; have := D.le; omega
  | inT hd D ve hb hiv k ih => intro b o q; injection q with q; injection q with q1 q2; have := D.le; omega
  | inB hd D ve hb hiv k ih => intro b o q; injection q with q; injection q with q1 q2; have := D.le; omega
  | hid i hb k ih => intro b o q; have := ih b o q; omega
  | jmp i hq k ih => intro b o q; have := ih b o q; omega
  | one i hc hb ht k ih => intro b o q; have := ih b o q; omega
  | pop i hb ht k ih => intro b o q; have := ih b o q; omega
  | idx i hb ht k ih => intro b o q; have := ih b o q; omega
  | bin hd ho i hb ht k ih => intro b o q; have := ih b o q; omega
  | una hd ho i hb ht k ih => intro b o q; have := ih b o q; omega
  | call hd hj i hb ht k ih => intro b o q; have := ih b o q; omega
  | stN hd hn v ve hb ht k ih => intro b o q; have := ih b o q; omega
  | stI i hb ht k ih => intro b o q; have := ih b o q; omega
  | cls i k ih => intro b o q; have := ih b o q; omega
  | rtn i hb ht k ih => intro b o q; have := ih b o q; omega
end
theorem brkP_app {q : TkM} {T' : List TkM} (Tk : List TkM) : ∀ {T : List TkM}, brkP T = some (q, T') → brkP (T ++ Tk) = some (q, T' ++ Tk)
  | [], h => by cases h
  | a :: T, h => by
    unfold brkP at h
    rw [List.cons_append]
    unfold brkP
    by_cases c : a.k = 4
    · rw [if_pos c] at h ⊢
      injection h with h
      injection h with h1 h2
      subst h1 h2
      rfl
    · rw [if_neg c] at h ⊢
      exact brkP_app Tk h
section
variable {K : Cn} {s : RnM} {m : VM} {S : List Nat} {cn : Int} {ρ : Nat → Option Plc} {fi : Nat → List FI} {c : Cx} {t : Th} {l : List FI} {F : FI} {Tk : List TkM} {W low ops : List V}
theorem hid_take {L L0 : List Nm8} (h : L0 <+: L) (W low : List V) (B : Nat) : (W ++ (hidV low B L ++ [])).take (W.length + hidN L0) = W ++ (hidV low B L0 ++ []) := by
  obtain ⟨R, rfl⟩ := h
  rw [hidV_app, List.append_nil, List.append_nil, ← List.append_assoc, List.take_left' (by rw [List.length_append, hidV_len])]
theorem sim_brk (Y : Vw K s m S cn ρ fi c t l F Tk W low ops) {mi lo hi p p1 p2 w base out : Nat} {d : Nd} {e : Option Nat} {T : List TkM} {L1 Lb : List Nm8} (hT : F.T = ⟨1, (mi : Int), 0, e⟩ :: T) (hn0 : F.no = 0) (h0 : 0 < mi) (hd : K.ns[mi]? = some d) (hk : d.k = 11) (hbr : F.br = some (base, out)) (hv : levS K.P F.x base F.L F.pc p) (i : insP K.P F.x p = some (21, (out : Int))) (h2 : Sp K.ns K.P (.sts F.br L1) mi hi F.x F.E F.L (p + 1) d.next p1)
    (lb : Lb <+: F.L) (lv : levS K.P F.x Lb.length L1 p1 p2) (ve : VOf K s m ρ c F F.L e) (k : KtV K s m ρ c F F.br Lb p2 0 [] T w) : Prog K F.w s (.run S c.th cn m) := by
  have hops := ops0 Y.toVs hn0
  have htl := Y.tlen hT
  have hcur := Y.cur
  have hbase := Y.base
  have hll := Y.fr.ll
  obtain ⟨q, T', L0, iv0, br', pc', w', b1', b2', b3, b4, b5, b6, b7⟩ := k.brk base out hbr
  subst b6
  have hle := k.le base pc' hbr
  have r2 := h2.reg
  have hl2 := lv.le
  have b4' := b4.trans lb
  have h4l := b4'.length_le
  have hiv0 : ∀ q, q ∈ iv0 → q + 2 ≤ hidN L0 ∧ NxAt m.vs.tabs (hidV low F.B L0) q := fun q hq => by
    obtain ⟨y1, y2⟩ := b7 q hq
    have y3 := (Y.ivs q y1).2
    obtain ⟨R, hR⟩ := b4'
    rw [← hR, hidV_app] at y3
    exact ⟨y2, y3.pre (by rw [hidV_len]; exact y2)⟩
  have hm : MS s (Go.Sm.ms s (T' ++ Tk) (W ++ (hidV low F.B L0 ++ []))) := by
    refine Y.stm hT h0 hd ve.rg (by omega) ?_
    unfold stC
    rw [if_neg (by omega), if_neg (by omega), if_neg (by omega), if_neg (by omega), if_neg (by omega), if_neg (by omega), if_neg (by omega), if_pos hk]
    unfold rbrk
    rw [if_neg (fun w => w ⟨ms_cur hcur _ _, by rw [ms_th hcur]; simp only [List.length_reverse, List.cons_append, List.length_cons]; omega, by rw [ms_th hcur]; simp only [List.length_append]; omega⟩), ms_th hcur]
    dsimp only
    have hb : brkP ((⟨1, d.next, 0, e⟩ :: T) ++ Tk) = some (q, T' ++ Tk) := brkP_app Tk (by unfold brkP; rw [if_neg (by intro q; cases q)]; exact b1')
    rw [List.reverse_reverse, hb]
    dsimp only
    have hx : q.x.toNat = W.length + hidN L0 := by have := Y.h; omega
    have hX : (W ++ (hidV low F.B F.L ++ ops)).length = W.length + hidN F.L := by rw [hops]; simp [hidV_len]
    have hN : hidN L0 ≤ hidN F.L := by
      obtain ⟨R, hR⟩ := b4'
      rw [← hR, hidN_app]
      omega
    have hh := Y.h
    rw [if_pos (by omega), ms_set hcur, hx, hops, hid_take b4']
    rfl
  unfold levS at hv
  by_cases c1 : base < F.L.length
  · rw [if_pos c1] at hv
    obtain ⟨hv1, rfl⟩ := hv
    obtain ⟨o, cs, g1, g2⟩ := Y.N.xclose (Y.ins hv1)
    rw [Y.hB] at g2
    have N1 := Y.N.after g1 (setTh_at (m := { m with vs := { m.vs with cells := cs } }) Y.ht) rfl (fun _ _ h => h)
    have k1 := N1.xjmp (q := pc') (Y.ins i) (by omega)
    rw [upd_upd] at k1
    have N2 := N1.on (X := t.stack) (q := pc') (by rw [upd_upd]; exact k1)
    rw [upd_upd] at N2
    have R' := Y.closeTo (b := base) (low' := low) (o := o) (L' := L0) hops (fun k nm h1 h2 h3 => by
      obtain ⟨r, hr⟩ := b4'
      rw [← hr, List.getElem?_append_left (by omega)] at h2
      exact h2) (by omega) (by omega) rfl rfl (fun _ _ _ _ => rfl) g2 b5 hiv0
    have hsk : t.stack = low := by rw [Y.sk, hops, List.append_nil]
    rw [hsk] at g1 k1 N2
    exact Y.stepN (n := 2) hm (.step (gstep_ok g1) (.one (gstep_ok k1))) (by decide) N2.go ⟨rfl, rfl, rfl⟩ R' (fiUp_at _ _ _)
  · rw [if_neg c1] at hv
    subst hv
    have e1 : L0 = F.L := b4'.eq_of_length_le (by omega)
    subst e1
    have R' := Y.loc (ops' := []) (low' := low) rfl rfl (fun k nm h _ => ⟨h, rfl⟩) hll b5 rfl tb_nil hiv0
    refine Y.step1 hm ?_ (upd_at c m Y.ht _ _) rfl (fun _ _ h => h) R' (fiUp_at _ _ _)
    rw [Y.N.xjmp (Y.ins i) (by omega), Y.sk, hops]
end
end Go.Sm
