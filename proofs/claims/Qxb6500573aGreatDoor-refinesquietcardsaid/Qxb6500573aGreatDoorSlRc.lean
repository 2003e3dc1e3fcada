/- A range over a function: rounds that go on. -/
import Derived.Test.Qxb6500573aGreatDoorSlRh
namespace Go.Sl
open Go
set_option linter.unusedSimpArgs false
set_option linter.unusedSectionVars false
set_option linter.unusedVariables false
def noDefer : Op → Bool
  | .defer _ => false
  | _ => true
section
variable {P : Program} {n k : Nat}
/-- In a round an operation does what it does elsewhere. -/
theorem wp_in {o : Oper} (l : Nat) (hnd : noDefer o.op = true) {a : Act} {w : World} {next : Act → World → Prop} {Q : Exit → Act → World → Prop} (hw : o.wp P a w next Q) : o.wpIn (Fence.wide.inRound l) k P a w next Q := by
  refine ⟨fun f _ => trivial, ?_⟩
  rw [Oper.semAt_eq _ _ _ (fun c e => by rw [e] at hnd; cases hnd)]
  unfold Oper.wp at hw
  cases hr : (execOp a.eval o).run P w with
  | ok r w' =>
    rw [hr] at hw
    cases r with
    | value v => exact hw
    | skip => exact hw
    | defer d => exact hw
    | enter f args => exact ⟨fun h => by simp [Fence.wide, Fence.inRound] at h, callsIn_wide (n := k - 1).2 hw⟩
    | row r args =>
      refine ⟨fun h => by simp [Fence.wide, Fence.inRound] at h, fun c cs hroom => ?_⟩
      obtain ⟨v, w2, h1, h2⟩ := hw c cs
      exact ⟨v, w2, h1, stepsIn_wide.2 h2⟩
    | _ => exact hw.elim
  | halt x w' =>
    rw [hr] at hw
    cases x <;> exact hw
theorem list_inR {l : Nat} {ops : Array Oper} {Q : Exit → Act → World → Prop} (hQ : ¬ LetsOut Q) : ∀ (ol : List Oper) (a : Act) (w : World), (∀ o, o ∈ ol → noDefer o.op = true) → wpList P ops Q ol a w → wpListIn (Fence.wide.inRound l) k P ops Q ol a w
  | [], _, _, _, h => h
  | o :: ol, a, w, ht, h => by
    unfold wpList at h
    unfold wpListIn
    split
    · rename_i hw
      rw [if_pos hw] at h
      rcases h with h | h
      · refine wp_in l (ht o List.mem_cons_self) (Oper.wp_mono (fun a w hk => list_inR hQ ol a w (fun p hp => ht p (List.mem_cons_of_mem _ hp)) hk) h)
      · exact absurd h.2 hQ
    · rename_i hw
      rw [if_neg hw] at h
      exact ⟨fun f _ => trivial, list_inR hQ ol _ w (fun p hp => ht p (List.mem_cons_of_mem _ hp)) h⟩
end
section
variable {P : Program} {l k n : Nat} {Q : Post} {D : Defs} {ρ : Env} {H : Hp}
theorem SPq_region {id : Nat} {ol : List Oper} (hs : Shut Q) (ht : ol.all (fun o => noDefer o.op) = true) (h : SPL P n ol.toArray ol Q D ρ H) : SPr (Fence.wide.inRound l) k P n (.region id ol.toArray false) Q D ρ H :=
  fun A Fr a w hf ho => wpIn_region_lit (list_inR (shut_sem hs) ol a w (fun o hm => List.all_eq_true.1 ht o hm) (h A Fr a w hf ho))
theorem SPq_skip (h : Q .normal D ρ H) : SPr (Fence.wide.inRound l) k P n .skip Q D ρ H :=
  fun _ _ a _ hf ho => wpIn_skip ⟨ρ, H, by rw [hf.defers]; exact hf, ho, by rw [hf.defers]; exact h⟩
theorem SPq_cond_t {c : Operand} {x y : Code} (hc : ev ρ c = some (.bool true)) (h : SPr (Fence.wide.inRound l) k P n x Q D ρ H) : SPr (Fence.wide.inRound l) k P n (.cond c x y) Q D ρ H :=
  fun A F a w hf ho => wpIn_cond_true (hf.ev hc) (h A F a w hf ho)
theorem SPq_cond_f {c : Operand} {x y : Code} (hc : ev ρ c = some (.bool false)) (h : SPr (Fence.wide.inRound l) k P n y Q D ρ H) : SPr (Fence.wide.inRound l) k P n (.cond c x y) Q D ρ H :=
  fun A F a w hf ho => wpIn_cond_false (hf.ev hc) (h A F a w hf ho)
theorem SPq_cond_b {c : Operand} {x y : Code} {b : Bool} (hc : ev ρ c = some (.bool b)) (h : b = true → SPr (Fence.wide.inRound l) k P n x Q D ρ H) (h2 : b = false → SPr (Fence.wide.inRound l) k P n y Q D ρ H) : SPr (Fence.wide.inRound l) k P n (.cond c x y) Q D ρ H := by
  cases b
  · exact SPq_cond_f hc (h2 rfl)
  · exact SPq_cond_t hc (h rfl)
theorem SPq_seq {x y : Code} (h : SPr (Fence.wide.inRound l) k P n x (thenP (fun D ρ H => SPr (Fence.wide.inRound l) k P n y Q D ρ H) Q) D ρ H) : SPr (Fence.wide.inRound l) k P n (.seq x y) Q D ρ H := SPr_seq h
/-- A block that is left at its end. -/
theorem SPq_block {id : Nat} {c : Code} (h : SPr (Fence.wide.inRound l) k P n c (fun e D ρ H => e = .normal ∧ Q .normal D ρ H) D ρ H) : SPr (Fence.wide.inRound l) k P n (.block id c) Q D ρ H :=
  fun A Fr a w hf ho => wpIn_block (wpIn_mono (h A Fr a w hf ho) fun e a w hq => by
    obtain ⟨ρ1, H1, h1, h2, rfl, h4⟩ := hq
    exact ⟨ρ1, H1, h1, h2, h4⟩)
/-- A round that goes on. -/
theorem round_specC {fn : Nat} {tmps : Array Value} {as body : Code} {r0 : Loop} {Kb : Hp → Prop} (hst : r0.state = .ready) (hpd : r0.pending = none) (hfit : Fits n [] ρ ⟨tmps, []⟩)
    (h : SPr (Fence.wide.inRound l) k P n as (fun e D ρ1 H1 => e = .normal ∧ SPr (Fence.wide.inRound l) k P n body (fun e D ρ2 H2 => e = .normal ∧ ∃ H3 rest, Part H2 H3 rest ∧ Kb H3) D ρ1 H1) [] ρ H)
    {A w : World} {Fr : Seg} (ho : Own A w (lpSeg l r0 ++ (H.flatten ++ Fr))) :
    RoundIn Fence.wide k P l fn tmps as body w (fun e w' => ∃ H2, e = .returned (.bool true) ∧ Kb H2 ∧ Own A w' (lpSeg l r0 ++ (H2.flatten ++ Fr))) := by
  refine roundIn_of_wpIn trivial ?_
  have hperm : ∀ {x : Nat × Obj} {a b : Seg}, (x :: (a ++ b)).Perm (a ++ (x :: b)) := fun {x a b} => List.perm_middle.symm
  have ho0 : Own A w ((l, .loop r0) :: (H.flatten ++ Fr)) := ho
  have ho1 : Own A w (H.flatten ++ ((l, .loop r0) :: Fr)) := ho0.perm hperm
  refine wpIn_mono (h A ((l, .loop r0) :: Fr) ⟨tmps, []⟩ w hfit ho1) ?_
  rintro e a1 w1 ⟨ρ1, H1, f1, o1, rfl, hb⟩
  have o1' : Own A w1 ((l, .loop r0) :: (H1.flatten ++ Fr)) := o1.perm hperm.symm
  have hl := o1'.has _ List.mem_cons_self
  refine ⟨w1.putObj l (.loop { r0 with state := .busy }), run_beginRound hl hst, ?_⟩
  have o2 := own_putLoop (r := r0) o1' (.loop { r0 with state := .busy })
  refine wpIn_mono (hb A ((l, .loop { r0 with state := .busy }) :: Fr) a1 _ f1 (o2.perm hperm)) ?_
  rintro e a2 w2 ⟨ρ2, H4, f2, o4, rfl, H2, rest, hpt, hk⟩
  have o3 := hpt.drop o4
  have o3' : Own A w2 ((l, .loop { r0 with state := .busy }) :: (H2.flatten ++ Fr)) := o3.perm hperm.symm
  have hl2 := o3'.has _ List.mem_cons_self
  have e0 : ({ { r0 with state := .busy } with state := if (none : Option Code).isNone then .ready else .done, pending := none } : Loop) = r0 := by
    obtain ⟨a1, a2, a3, a4, a5, a6, a7, a8⟩ := r0
    dsimp only at hst hpd
    subst hst hpd
    rfl
  refine ⟨_, _, run_endRound none hl2, H2, rfl, hk, ?_⟩
  rw [e0]
  exact own_putLoop (r := r0) o3' _
end
section
variable {P : Program} {n : Nat} {Q : Post} {D : Defs} {ρ : Env} {H : Hp} {ops : Array Oper}
/-- A call of yield whose round goes on. -/
theorem SPLi_yieldC {x : Operand} {xs : List Operand} {at_ : Array TypeId} {args : List Value} {l d : Nat} {ty : TypeId} {pos : String} {af : Array Edge} {rest : List Oper} {r0 : Loop} {H' : Hp} {Kb : Hp → Prop}
    (hx : ev ρ x = some (.func (.yield l) #[] #[])) (ha : evs ρ xs = some args) (hsz : args.length = r0.params.size) (hd : Nat.ble (d + 1) n = true) (hp : Pick (lpSeg l r0) H H')
    (hr : ∀ {A w : World} {Fr : Seg}, Own A w (lpSeg l r0 ++ (H'.flatten ++ Fr)) → RoundIn Fence.wide (0 - 1) P l r0.fn ((r0.params.zip args.toArray).foldl (fun t (p, v) => t.setIfInBounds p v) r0.tmps) r0.assign r0.body w (fun e w' => ∃ H2, e = .returned (.bool true) ∧ Kb H2 ∧ Own A w' (lpSeg l r0 ++ (H2.flatten ++ Fr))))
    (kk : ∀ H2, Kb H2 → SPLi P n ops rest Q D ((d, .bool true) :: ρ) (lpSeg l r0 :: H2)) :
    SPLi P n ops ({ dst := some d, op := .call { callee := .value x, args := xs.toArray, argTypes := at_ }, type := ty, pos := pos, after := af, guard := none } :: rest) Q D ρ H :=
  fun A F a w hf ho => by
    unfold wpListIn
    rw [if_pos (by simp [Region.wanted])]
    have ho2 : Own A w (lpSeg l r0 ++ (H'.flatten ++ F)) := by
      rw [← List.append_assoc]; exact ho.perm (List.Perm.append_right F hp)
    have hl := ho2.has (l, .loop r0) (List.mem_append_left _ (by simp [lpSeg]))
    refine ⟨fun _ _ => trivial, ?_⟩
    rw [Oper.semAt_eq _ _ _ (fun c e => by cases e)]
    have hev := hf.evs ha
    have hrun : (execOp a.eval { dst := some d, op := .call { callee := .value x, args := xs.toArray, argTypes := at_ }, type := ty, pos := pos, after := af, guard := none }).run P w = .ok (.round l r0.fn ((r0.params.zip args.toArray).foldl (fun t (p, v) => t.setIfInBounds p v) r0.tmps) r0.assign r0.body) w := by
      have hy := run_yield (P := P) (args := args.toArray) hl (by simpa using hsz)
      simp [execOp, resolve, hf.ev hx, Deferred.ofValue, hev, invoke, hy]
    rw [hrun, Oper.uponIn_round]
    refine ⟨fun h => by simp [Fence.wide] at h, (hr ho2).mono ?_⟩
    rintro e w' ⟨H2, rfl, hk, ho3⟩
    refine kk H2 hk A F _ w' ?_ ?_
    · exact hf.put hd _
    · simpa [List.append_assoc] using ho3
end
end Go.Sl
