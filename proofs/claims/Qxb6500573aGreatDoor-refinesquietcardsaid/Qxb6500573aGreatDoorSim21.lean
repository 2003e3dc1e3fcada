/- Plain: the interpreter and the machine go on together: returns. -/
import Derived.Test.Qxb6500573aGreatDoorSim20
namespace Go.Sm
open Go Go.Sl Go.Wl Go.Nm Go.Proofs
set_option linter.unusedVariables false
section
variable {K : Cn} {s : RnM} {m : VM} {S : List Nat} {cn : Int} {ρ : Nat → Option Plc} {fi : Nat → List FI} {c : Cx} {t : Th} {l : List FI} {F : FI} {Tk : List TkM} {W low ops : List V}
theorem Vw.nowC (Y : Vw K s m S cn ρ fi c t l F Tk W low ops) : Now (c.pc ((F.pc : Nat) : Int)) (setTh m c.th t) t F.pc := by
  have e : c.pc ((F.pc : Nat) : Int) = c := by
    have h := Y.N.hpc.1
    unfold Cx.pc
    rw [← h]
  rw [e, setTh_same Y.ht]
  exact Y.N
theorem sim_rtn (Y : Vw K s m S cn ρ fi c t l F Tk W low ops) {T : List TkM} {no w : Nat} {br' : Brk} {L' : List Nm8} {pc' no' : Nat} {tb' : List Nat} (hT : F.T = ⟨21, 0, 0, none⟩ :: T) (i : insP K.P F.x F.pc = some (27, 0)) (k : KtV K s m ρ c F br' L' pc' no' tb' T w) : Prog K F.w s (.run S c.th cn m) := by
  obtain ⟨ops', a, b, ho⟩ := Y.top2 (Y.need (Y.ins i) (n := 2) rfl)
  have htl := Y.tlen hT
  have hb := Y.base
  have hl : ops.length = ops'.length + 2 := by rw [ho]; simp
  obtain ⟨cfg, s', w', y1, y2, y3⟩ := returned Y.kok Y.toVs (t1 := t) (fun _ _ => rfl) ⟨rfl, rfl⟩ Y.nowC Y.kg Y.kp Y.hO (Y.ins i) (S0 := low ++ ops') (a := a) (b := b) (by rw [Y.sk, ho]; simp only [List.append_assoc]) (T := T) (X := W ++ (hidV low F.B F.L ++ ops')) k.len (List.prefix_append _ _) (by simp only [List.length_append]; omega) (by omega)
  rw [setTh_same Y.ht] at y2
  refine ⟨1, s', cfg, w', Y.task hT (by intro q; cases q) Y.nd0 ?_, .one y2, y3, .inl (Nat.le_refl _)⟩
  have hp1 := Y.pop (T := T ++ Tk) (ops' := ops' ++ [a]) b (by rw [hl]; simp)
  have hp2 := Y.pop (T := T ++ Tk) (ops' := ops') a (by omega)
  rw [← ho] at hp1
  rw [rt21, hp1, b2, hp2, b2]
  exact y1
theorem sim_ret (Y : Vw K s m S cn ρ fi c t l F Tk W low ops) (hT : F.T = [⟨3, if c.f.prot = true then 1 else 0, (F.h : Int), none⟩]) (hn0 : F.no = 0) (i0 : insP K.P F.x F.pc = some (2, 0)) (i1 : insP K.P F.x (F.pc + 1) = some (2, 0)) (i2 : insP K.P F.x (F.pc + 2) = some (27, 0)) : Prog K F.w s (.run S c.th cn m) := by
  have hops := ops0 Y.toVs hn0
  have hsk : t.stack = low := by rw [Y.sk, hops, List.append_nil]
  have hb := Y.base
  have htl := Y.tl
  have g1 := Y.N.xlit (.inl ⟨rfl, rfl⟩) (Y.ins i0)
  have N1 := Y.N.on g1
  have g2 := N1.xlit (op := 2) (x := 0) (.inl ⟨rfl, rfl⟩) (Y.ins i1)
  rw [upd_upd] at g2
  have N2 := N1.on2 g2
  obtain ⟨cfg, s', w', y1, y2, y3⟩ := returned Y.kok Y.toVs (t1 := { t with stack := t.stack ++ [V.nil] ++ [V.nil], frames := c.fs ++ [{ c.f with pc := ((F.pc + 1 + 1 : Nat) : Int) }] }) (fun a ha => by dsimp only; rw [hsk, List.append_assoc, List.getElem?_append_left ha]) ⟨rfl, rfl⟩ N2 Y.kg Y.kp Y.hO (x := 0) (Y.ins i2) (S0 := t.stack) (a := V.nil) (b := V.nil) rfl (T := F.T) (X := W ++ (hidV low F.B F.L ++ ops)) ⟨[], by rw [hT]; rfl, fun q hq => by cases hq⟩ (List.prefix_append _ _) (by simp only [List.length_append]; omega) (by omega)
  refine ⟨3, s', cfg, w', .one Y.R.dn ?_, .step (gstep_ok g1) (.step (gstep_ok g2) (.one y2)), y3, .inl (by omega)⟩
  rw [Y.ms] at y1
  have e := Y.ms
  rw [hT] at e htl
  rw [← e, List.singleton_append, ms_step3 Y.cur (by rw [List.singleton_append, List.length_cons] at htl; omega) rfl]
  show (if curOk (Go.Sm.ms s Tk _) ∧ (thG (Go.Sm.ms s Tk _)).tasks.length ≤ 1000000 then _ else none) = _
  rw [if_pos ⟨ms_cur Y.cur _ _, by rw [ms_th Y.cur]; simp only [List.length_reverse]; rw [List.singleton_append, List.length_cons] at htl; omega⟩, ms_set Y.cur, ms_th Y.cur]
  dsimp only
  rw [← List.reverse_cons]
  rw [← y1]
  congr 1
end
end Go.Sm
