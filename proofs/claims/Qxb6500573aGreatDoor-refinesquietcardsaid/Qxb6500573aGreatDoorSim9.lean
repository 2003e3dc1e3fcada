/- Plain: the interpreter and the machine go on together: new locals; scopes end. -/
import Derived.Test.Qxb6500573aGreatDoorSim8
namespace Go.Wl
open Go Go.Sl Go.Proofs
set_option linter.unusedVariables false
section
variable {c : Cx} {m : VM} {t : Th} {pc : Nat} {x : Int}
theorem Now.on (N : Now c m t pc) {X : List V} {q : Nat} (h : vstepL c.th m = some (.ok ev0 (upd c m t X q))) : Now (c.pc q) (upd c m t X q) { t with stack := X, frames := c.fs ++ [{ c.f with pc := (q : Nat) }] } q := N.after h (setTh_at N.ht) rfl (fun _ _ h => h)
theorem upd_upd (c : Cx) (m : VM) (t : Th) (X Y : List V) (q q2 : Nat) : upd (c.pc q) (upd c m t X q) { t with stack := X, frames := c.fs ++ [{ c.f with pc := (q : Nat) }] } Y q2 = upd c m t Y q2 := by
  unfold upd
  exact setTh_2
/-- Variables end, exactly. -/
theorem Now.xclose (N : Now c m t pc) {b : Nat} (hi : InsAt c pc 29 (b : Int)) : ∃ (o : List Int) (cs : List Ce), vstepL c.th m = some (.ok ev0 (upd c { m with vs := { m.vs with cells := cs } } { t with opn := o } t.stack (pc + 1))) ∧ Clsd m c.th t ((c.B + b : Nat) : Int) cs := by
  obtain ⟨o, cs, g1, g2⟩ := RunX.closeX N.run N.ht ((c.B + b : Nat) : Int)
  refine ⟨o, cs, ?_, g2⟩
  have e : c.f.base + (b : Int) = ((c.B + b : Nat) : Int) := by have := N.thr.b; omega
  have hp : plainM c.th c.fs.length c.p 29 (b : Int) m = some (.ok () (setTh { m with vs := { m.vs with cells := cs } } c.th { t with opn := o })) := by
    rw [(N.in79 hi).2.2.2.2.2.2.2.2 rfl, e, g1]
    rfl
  rw [N.plainO hi (by decide) hp (t1 := { t with opn := o }) (setTh_at (m := { m with vs := { m.vs with cells := cs } }) N.ht) N.fr, setTh_2]
  rfl
end
end Go.Wl
namespace Go.Sm
open Go Go.Sl Go.Wl Go.Nm Go.Proofs
set_option linter.unusedVariables false
theorem hidV_pre {S : List V} {B : Nat} {L L' : List Nm8} (h : L' <+: L) (hz : hidN L = hidN L') : hidV S B L = hidV S B L' := by
  obtain ⟨R, rfl⟩ := h
  rw [hidN_app] at hz
  rw [hidV_app]
  have : hidV S (B + L'.length) R = [] := by
    have h1 := hidV_len S R (B + L'.length)
    exact List.length_eq_zero_iff.1 (by omega)
  rw [this, List.append_nil]
section
variable {K : Cn} {s : RnM} {m : VM} {S : List Nat} {cn : Int} {ρ : Nat → Option Plc} {fi : Nat → List FI} {c : Cx} {t : Th} {l : List FI} {F : FI} {Tk : List TkM} {W low ops : List V}
/-- Several steps of the machine. -/
theorem Vw.stepN (Y : Vw K s m S cn ρ fi c t l F Tk W low ops) {s' : RnM} {m' : VM} {n : Nat} {c' : Cx} {ρ' : Nat → Option Plc} {fi' : Nat → List FI} {l' : List FI} {F' : FI} (hm : MS s s') (hg : GS n (.run S c.th cn m) (.run S c.th cn m')) (hn : 1 ≤ n) (hr : Run c' m') (hc : c'.g = c.g ∧ c'.PT = c.PT ∧ c'.th = c.th) (R' : Rl K s' m' c.th S cn ρ' fi') (hfi : fi' c.th = l' ++ [F']) : Prog K F.w s (.run S c.th cn m) := by
  refine ⟨n, s', _, F'.w, hm, hg, ?_, .inl hn⟩
  obtain ⟨h1, h2, h3⟩ := hc
  rw [← h3] at R' hfi ⊢
  exact .run (h1.trans Y.kg) (h2.trans Y.kp) hr R' hfi
/-- The call's variables from the local L'.length on end. -/
theorem Vs.closeTo (Y : Vs K s m S cn ρ fi c t l F Tk W low ops) {iv' : List Nat} {L' : List Nm8} {br' : Brk} {pc' w' b : Nat} {T' : List TkM} {low' : List V} {cs : List Ce} {o : List Int} (hops : ops = []) (hL : ∀ (k : Nat) nm, k < b → F.L[k]? = some nm → nm ≠ [] → L'[k]? = some nm) (hLb : L'.length ≤ b) (hLn : L'.length ≤ F.nsl) (h1 : low'.length = low.length) (h2 : low'.take F.B = low.take F.B) (h3 : ∀ (k : Nat) nm, F.L[k]? = some nm → nm ≠ [] → low'[F.B + k]? = low[F.B + k]?) (hC : Clsd m c.th t ((F.B + b : Nat) : Int) cs)
    (hk : Kt K.ns K.P F.x F.E K.HB (VOk K.P s.envs ρ m c.th F.B F.x F.E F.up) F.h (if c.f.prot = true then 1 else 0) iv' br' L' pc' 0 [] T' w') (hiv : ∀ q, q ∈ iv' → q + 2 ≤ hidN L' ∧ NxAt m.vs.tabs (hidV low' F.B L') q) :
    Rl K (Go.Sm.ms s (T' ++ Tk) (W ++ (hidV low' F.B L' ++ []))) (upd c { m with vs := { m.vs with cells := cs } } { t with opn := o } low' pc') c.th S cn (rhoC ρ m c.th ((F.B + b : Nat) : Int)) (fiUp fi c.th (l ++ [{ F with L := L', br := br', pc := pc', T := T', w := w', no := 0, tb := [], iv := iv' }])) := by
  subst hops
  have R := Y.R
  have hlo := Y.lo
  have hfr := Y.fr
  have hll := hfr.ll
  have hrr := hfr.r
  have hth := R.thg Y.ht
  have hsk := Y.sk
  rw [List.append_nil] at hsk
  have hc := Chg.close (ρ := ρ) (es := s.envs) (m' := setTh { m with vs := { m.vs with cells := cs } } c.th { t with opn := o, stack := low', frames := c.fs ++ [{ c.f with pc := (pc' : Nat) }] }) hC rfl rfl R.celOk
  have R' := R.closed (t1 := t) (t' := { t with opn := o, stack := low', frames := c.fs ++ [{ c.f with pc := (pc' : Nat) }] }) (q' := { thG s with tasks := (T' ++ Tk).reverse, vals := W ++ (hidV low' F.B L' ++ []) }) (l' := l ++ [{ F with L := L', br := br', pc := pc', T := T', w := w', no := 0, tb := [], iv := iv' }]) Y.ht hC (fun _ _ => rfl) (fun a ha hl => ?_) ⟨hth.st, hth.fn, ?_, ?_, ?_⟩
  · exact R'
  · rw [Y.hfi] at hl
    obtain ⟨G, hG, s', nm, y1, y2, y3⟩ := hl
    have hs' := lt_of y1
    rcases List.mem_append.1 hG with hG | hG
    · have := Y.trs.lens.2.2.2 G hG
      refine ⟨⟨G, List.mem_append_left _ hG, s', nm, y1, y2, y3⟩, ?_⟩
      dsimp only
      rw [hsk]
      exact at_take h2 (by omega)
    · rw [List.mem_singleton] at hG
      subst hG
      refine ⟨⟨_, List.mem_append_right _ (List.mem_singleton.2 rfl), s', nm, hL s' nm (by omega) y1 y2, y2, y3⟩, ?_⟩
      dsimp only
      rw [hsk, y3]
      exact h3 s' nm y1 y2
  · have := hth.dp
    rw [Y.hfi] at this
    simpa using this
  · exact Bot.pc (by rw [← Y.hfr]; exact hth.bt) _
  · dsimp only
    rw [List.reverse_reverse, show awOf t.st = 0 from if_pos Y.st4]
    have hlow : low.take c.f.ret.toNat = low'.take c.f.ret.toNat := by
      have := congrArg (List.take c.f.ret.toNat) h2
      rw [List.take_take, List.take_take, Nat.min_eq_left (by omega)] at this
      exact this.symm
    have htr := Y.trs
    rw [hsk] at htr
    refine .snoc (F := { F with L := L', br := br', pc := pc', T := T', w := w', no := 0, tb := [], iv := iv' }) (f := { c.f with pc := (pc' : Int) }) ((htr.congr hlow (by omega)).chg hc (fun _ _ h => h) fun a ha => .inr (by omega)) ⟨hfr.b, hfr.r, rfl, hfr.cl, hLn, ⟨by dsimp only; omega, Nat.le_refl _⟩, ?_, ?_, by dsimp only; show _ = _ + 0; omega, (by intro p hp; cases hp), fun q hq => ⟨(hiv q hq).1, (hiv q hq).2.app _⟩⟩ Y.h
    · dsimp only
      rw [List.take_of_length_le (Nat.le_refl _), List.append_nil, show F.B + F.nsl = low'.length from by omega, List.drop_length, List.append_nil]
    · exact hk.mono (b := b) (fun L e hl hv => hv.chg hc fun s' nm h1 h2 => .inr (by have := hl s' nm h1 h2; dsimp only; omega)) (fun s' nm h1 h2 => by have := lt_of h1; omega)
theorem ops0 (Y : Vs K s m S cn ρ fi c t l F Tk W low ops) (h : F.no = 0) : ops = [] := by
  have := Y.nops
  exact List.length_eq_zero_iff.1 (by omega)
theorem ops1 (Y : Vs K s m S cn ρ fi c t l F Tk W low ops) (h : F.no = 1) : ∃ v, ops = [v] := by
  have hn := Y.nops
  match ops, hn with
  | [v], _ => exact ⟨v, rfl⟩
  | [], hn => rw [h] at hn; cases hn
  | _ :: _ :: _, hn => rw [h] at hn; simp at hn
theorem ops2 (Y : Vs K s m S cn ρ fi c t l F Tk W low ops) (h : F.no = 2) : ∃ a b, ops = [a, b] := by
  have hn := Y.nops
  match ops, hn with
  | [a, b], _ => exact ⟨a, b, rfl⟩
  | [], hn => rw [h] at hn; cases hn
  | [_], hn => rw [h] at hn; simp at hn
  | _ :: _ :: _ :: _, hn => rw [h] at hn; simp at hn
theorem wf_snoc {es : List EvM} (h : EnvWf es) {nm : Nm8} {v : V} {e : Option Nat} (he : ∀ i, e = some i → i < es.length) : EnvWf (es ++ [⟨nm, v, e⟩]) := fun i w hw j hj => by
  by_cases hi : i < es.length
  · rw [List.getElem?_append_left hi] at hw
    exact h i w hw j hj
  · have := lt_of hw
    rw [List.length_append, List.length_singleton] at this
    rw [List.getElem?_append_right (by omega), show i - es.length = 0 from by omega] at hw
    injection hw with hw
    subst hw
    have := he j hj
    omega
/-- One new local; what follows is the rest of its block. -/
theorem Vw.bind1 (Y : Vw K s m S cn ρ fi c t l F Tk W low ops) {nm : Nm8} {v : V} {e : Option Nat} {n : Int} {T : List TkM} {lo hi p0 p1 p2 w : Nat} {L1 Lb : List Nm8} {low' : List V} (hnm : nm ≠ []) (hl1 : low'.length = low.length) (hl2 : low'.take F.B = low.take F.B) (hl3 : ∀ (k : Nat) nm, F.L[k]? = some nm → nm ≠ [] → low'[F.B + k]? = low[F.B + k]?) (hl4 : low'[F.B + F.L.length]? = some v) (hl5 : hidV low' F.B F.L = hidV low F.B F.L) (hn : F.L.length + 1 ≤ F.nsl) (h : Sp K.ns K.P (.sts F.br L1) lo hi F.x F.E (F.L ++ [nm]) p0 n p1) (lb : Lb <+: F.L) (hz : hidN F.L = hidN Lb) (lv : levS K.P F.x Lb.length L1 p1 p2) (ve : VOf K s m ρ c F F.L e) (hb : T.length + 7 * (hi - lo) ≤ K.HB) (k : KtV K s m ρ c F F.br Lb p2 0 [] T w) :
    Rl K (Go.Sm.ms { s with envs := s.envs ++ [⟨nm, v, e⟩] } ((⟨1, n, 0, some s.envs.length⟩ :: T) ++ Tk) (W ++ (hidV low' F.B F.L ++ []))) (upd c m t (low' ++ []) p0) c.th S cn (rhoN ρ s.envs.length c.th (F.B + F.L.length) 1) (fiUp fi c.th (l ++ [{ F with L := F.L ++ [nm], br := F.br, pc := p0, T := ⟨1, n, 0, some s.envs.length⟩ :: T, w := w + (6 * (hi - lo) + 1), no := 0, tb := [] }])) := by
  refine Y.binds (nms := [nm]) (news := [⟨nm, v, e⟩]) hl1 hl2 hl3 (by simpa using hn) rfl (fun j nm' hj => ?_) (fun j ev hj => ?_) (wf_snoc Y.R.wf ve.rg) ?_ rfl tb_nil (fun q hq => by rw [hl5]; exact Y.ivs q hq)
  · cases j with
    | zero => injection hj with hj; subst hj; exact hnm
    | succ j => simp at hj
  · cases j with
    | zero => injection hj with hj; subst hj; exact hl4
    | succ j => simp at hj
  · have hc : Chg AllK s.envs ρ m (s.envs ++ [⟨nm, v, e⟩]) (rhoN ρ s.envs.length c.th (F.B + F.L.length) 1) m := Chg.new rfl rfl
    refine .block h (lb.trans (List.prefix_append _ _)) ?_ lv (VOk.snoc ve (by have := rhoN_new (ρ := ρ) (n0 := s.envs.length) (th := c.th) (o := F.B + F.L.length) (n := 1) (j := 0) (by omega); rw [Nat.add_zero, Nat.add_zero] at this; exact this) (fun i hi => rhoN_old hi)) hb (k.mono (b := Lb.length) (fun L e hl hv => hv.chg hc fun _ _ _ _ => trivial) (Nl.self _))
    rw [hidN_app, hz]
    simp [hidN, hnm]
theorem sim_bind (Y : Vw K s m S cn ρ fi c t l F Tk W low ops) {n : Int} {d : Nd} {e : Option Nat} {T : List TkM} {lo hi p1 p2 w : Nat} {L1 Lb : List Nm8} (hT : F.T = ⟨6, n, 0, e⟩ :: T) (hn1 : F.no = 1) (hd : nd K.ns n = some d) (hs : d.s ≠ []) (i : insP K.P F.x F.pc = some (6, (F.L.length : Int))) (h : Sp K.ns K.P (.sts F.br L1) lo hi F.x F.E (F.L ++ [d.s]) (F.pc + 1) d.next p1) (lb : Lb <+: F.L) (hz : hidN F.L = hidN Lb) (lv : levS K.P F.x Lb.length L1 p1 p2) (ve : VOf K s m ρ c F F.L e) (hb : T.length + 7 * (hi - lo) ≤ K.HB) (k : KtV K s m ρ c F F.br Lb p2 0 [] T w) : Prog K F.w s (.run S c.th cn m) := by
  obtain ⟨v, ho⟩ := ops1 Y.toVs hn1
  have htl := Y.tlen hT
  have hsk : t.stack = low ++ [v] := by rw [Y.sk, ho]
  obtain ⟨g1, g2, g3, g4⟩ := Y.N.xsetL (Y.ins i) hsk
  have hlo := Y.lo
  have hn := Y.hn
  rw [Int.toNat_natCast, Y.hB] at g1
  have ehid : hidV (low.set (F.B + F.L.length) v) F.B F.L = hidV low F.B F.L := hidV_congr _ _ fun k hk => by rw [List.getElem?_set_ne (by have := lt_of hk; omega)]
  have R' := Y.bind1 (nm := d.s) (v := v) (e := e) (low' := low.set (F.B + F.L.length) v) hs (by simp) (by rw [List.take_set_of_le (by omega)]) (fun k nm h1 h2 => by rw [List.getElem?_set_ne (by have := lt_of h1; omega)]) (by rw [List.getElem?_set_self (by omega)]) ehid (by omega) h lb hz lv ve hb k
  rw [ehid] at R'
  rw [← List.append_nil (low.set (F.B + F.L.length) v)] at g1
  refine Y.step1 (Y.task hT (by intro q; cases q) (Y.nd hd) ?_) g1 (upd_at c m Y.ht _ _) rfl (fun _ _ h => h) R' (fiUp_at _ _ _)
  rw [rt6]
  unfold k6
  have hp := Y.pop (T := T ++ Tk) (ops' := []) v (by rw [ho]; simp)
  rw [List.nil_append, ← ho] at hp
  rw [hp, b2]
  unfold newE
  rw [if_pos (show ∀ i, e = some i → i < (Go.Sm.ms s (T ++ Tk) (W ++ (hidV low F.B F.L ++ []))).envs.length from ve.rg), b2]
  show rdo 1 d.next 0 (some s.envs.length) (Go.Sm.ms { s with envs := s.envs ++ [⟨d.s, v, e⟩] } (T ++ Tk) (W ++ (hidV low F.B F.L ++ []))) = _
  rw [ms_do (s := { s with envs := s.envs ++ [⟨d.s, v, e⟩] }) Y.cur _ _ _ (by omega) (fun i hi => by injection hi with hi; subst hi; show _ < (s.envs ++ [_]).length; simp)]
  rfl
end
end Go.Sm
