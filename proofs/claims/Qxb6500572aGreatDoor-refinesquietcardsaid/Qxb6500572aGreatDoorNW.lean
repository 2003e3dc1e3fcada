/- The plain side of the first two laws, whole. -/
import Derived.Test.Qxb6500572aGreatDoorNV
import Derived.Test.Qxb6500572aGreatDoorWLawH
import Derived.Test.Qxb6500572aGreatDoorPlainV
namespace Go.Wl
open Go Go.Sl
set_option linter.unusedVariables false
def GdR (P : Prog) (mem : Mem) (o : Op1) (args : List Val) (m : VM) : Prop := Gd P mem o args m ∧ Reach o.b (startVM P 0 mem (host0 o) o.a args) m
theorem callP_mono {G G' : VM → Prop} (hG : ∀ m, G m → G' m) {b : Int} {P : Prog} {n : Int} {mem : Mem} {h : Host} {f : Int} {args : List Val} {r : CallR} (hc : CallP G b P n mem h f args r) : CallP G' b P n mem h f args r := by
  rcases hc with hc | ⟨h1, m, m', h2, h3⟩ | ⟨h1, m, m', e, h2, h3⟩
  · exact .inl hc
  · exact .inr (.inl ⟨h1, m, m', hG m h2, h3⟩)
  · exact .inr (.inr ⟨h1, m, m', e, hG m h2, h3⟩)
def plainR : Plain where
  TOk := TOk
  Gd := GdR
  mu := fun _ _ o _ m => mu o m
  load := load_ok
  pb := plain_pb
  sg := plain_sg
  pre := fun _ _ _ _ _ hT hO h => h.1.pre hT hO
  step := fun _ _ _ _ _ _ hT hO h hs => ⟨⟨(Gd.step hT hO h.1 hs).1, h.2.trans (.one hs)⟩, (Gd.step hT hO h.1 hs).2⟩
  start := fun _ _ _ _ hT hO hA h0 => ⟨Gd.start hT hO hA h0, .refl _⟩
  fin := fun _ _ _ _ _ hT hO _ hc => Gd.fin hT hO (callP_mono (fun _ h => h.1) hc)
theorem call_sim {m : Mod} {P : Prog} {o : Op1} {mem : Mem} {args : List Val} {E : RE} (env : EnvOk E m P o mem) (hA : ∀ y, y ∈ args → i64ok y.v) (h0 : owed P o.a args = 0) :
    ∃ (N : Nat) (q : Int × RS), invP E (runM E N) (RS.begin args mem) o.a 1 = some q ∧ ∃ x1 x2, Reach o.b (startVM P 0 mem (host0 o) o.a args) x1 ∧ x1.step o.b = (x2, some q.1) ∧ Ends x2 q.2 ∧ (q.1 = 0 → q.2.st = x2.i.st) := by
  obtain ⟨u, a0, a1, a2, a3, a4, a5⟩ := owed_parts env.T.p h0
  obtain ⟨b1, b2, b3, b4, b5, b6⟩ := env.T.p.f u (List.mem_of_getElem? a2)
  obtain ⟨k, hk⟩ : ∃ k : Nat, o.a = k := ⟨_, (Int.toNat_of_nonneg a0).symm⟩
  have hg := Gd.start env.T env.O hA h0
  obtain ⟨w1, w2⟩ := fits_word a5 b4
  have hW : (RS.begin args mem).st = argsW args := by
    show args.map toW = args.map fun a => word a.t a.v
    exact w1.symm
  have hn := env.L.nimp
  rw [hk, Int.toNat_natCast] at a2
  have hsim : Sim P (startVM P 0 mem (host0 o) o.a args) (RS.begin args mem) := by
    refine ⟨⟨rfl, rfl, rfl, ?_⟩, rfl, rfl, ?_⟩
    · show traceOf (host0 o) = []
      unfold traceOf host0
      exact ite_self _
    · show (host0 o).k ≤ 6
      unfold host0
      simp
  obtain ⟨N, q, h1, h2⟩ := inv_sim (B := []) (BM := []) (FB := []) env (seq_allM env _) a2 (by omega) ⟨Nat.le_refl _, fun y hy => hy⟩ (show (argsW args).map W.t = u.params from w2) (by rw [hW]; rfl) hsim
    (by show (startI P o.a args).fr = _; unfold startI; rw [a3]; simp [hk]) (by show (startI P o.a args).st = _; unfold startI; rw [a3]; simp) hg (Nat.lt_succ_self _)
  refine ⟨N, q, by rw [hk]; exact h1, ?_⟩
  cases h2 with
  | err e x1 x2 R' h hs he hE => exact ⟨x1, x2, h, hs, hE, fun q => absurd q he⟩
  | done x1 x2 R' vals h hu hs fr st rs vt sm => exact ⟨x1, x2, h, hs, sm.e, fun _ => by rw [st, rs]⟩
theorem refP : RefP plainR := by
  have hTk : ∀ {P : Prog} {mem : Mem}, TOk P mem → ∀ g, ((P.sig g).1.length ≤ 50 ∧ (P.sig g).2.1.length ≤ 1 ∧ (P.sig g).2.2.1.length ≤ 50) ∧ (∀ t, t ∈ (P.sig g).2.1 → t = 105 ∨ t = 108) ∧ (∀ t, t ∈ (P.sig g).2.2.1 → t = 105 ∨ t = 108) := fun {P mem} h g => by
    unfold Prog.sig
    split
    · exact ⟨⟨by simp, by simp, by simp⟩, fun t ht => by simp at ht, fun t ht => by simp at ht⟩
    · split
      · rename_i u hu
        have := h.p.f u (List.mem_of_getElem? hu)
        exact ⟨⟨by dsimp only; omega, by dsimp only; omega, by dsimp only; omega⟩, this.2.2.2.2.1, this.2.2.2.2.2⟩
      · exact ⟨⟨by simp, by simp, by simp⟩, fun t ht => by simp at ht, fun t ht => by simp at ht⟩
  refine ⟨fun m ok fs f u hs hu h1 h2 _ _ _ => ref_run ok fs f u hs hu h1 h2, fun m ok _ => (loadMM_flat ok).2.1, fun m ok hi he => ⟨(loadMM_flat ok).1, load_check (load_pic m ok hi he), (loadMM_flat ok).2.2⟩, fun m ok hi he => ?_, fun m ok hi he g => (hTk (load_ok m ok hi he) g).1, fun m ok hi he g => (hTk (load_ok m ok hi he) g).2.1, fun m ok hi he g => (hTk (load_ok m ok hi he) g).2.2, ?_⟩
  · have := (load_ok m ok hi he).p.nimp
    omega
  · intro m o args mem r ok hi he hT hO hA h0 hc
    obtain ⟨N, q, hq, x1, x2, g1, g2, g3, g4⟩ := call_sim (E := envM m o) (m := m) ⟨rfl, rfl, rfl, rfl, rfl, load_pic m ok hi he, hT, hO⟩ hA h0
    refine ⟨N, q, hq, ?_⟩
    obtain ⟨k1, k2, k3, k4⟩ := callP_kind (fun m (h : GdR _ mem o args m) => h.1.pre hT hO) (by unfold host0; simp) hc
    have key : q.1 = r.e ∧ q.2.used = r.used ∧ (resW q).map W.val = r.res ∧ q.2.trace = traceOf r.host ∧ q.2.mem = r.mem ∧ q.2.n = r.steps := by
      rcases hc with ⟨h, _⟩ | ⟨_, m1, m', hG, hs, rfl⟩ | ⟨_, m1, m', e, hG, hs, hne, rfl⟩
      · exact absurd h0 h
      · obtain ⟨rfl, e2⟩ := Reach.det g1 g2 hG.2 hs
        exact ⟨e2, g3.used.symm, by unfold resW; rw [if_pos e2, g4 e2], g3.tr.symm, g3.mem.symm, g3.n.symm⟩
      · obtain ⟨rfl, e2⟩ := Reach.det g1 g2 hG.2 hs
        exact ⟨e2, g3.used.symm, by unfold resW; rw [if_neg (by rw [e2]; exact hne)]; rfl, g3.tr.symm, g3.mem.symm, g3.n.symm⟩
    obtain ⟨q1, q2, q3, q4, q5, q6⟩ := key
    refine ⟨q1, q2, q3, q4, q5, q6, ?_, fun y hy => ?_, ?_⟩
    · have := congrArg List.length q3
      rw [List.length_map] at this
      omega
    · exact k3 y.val (by rw [← q3]; exact List.mem_map_of_mem hy)
    · rw [q4]
      unfold traceOf
      split
      · rename_i h
        have := k2 (by rw [← k1]; exact h)
        omega
      · simp
end Go.Wl
namespace Go.Sl
open Go Go.Wl Go.Proofs
set_option linter.unusedVariables false
theorem refines_true (sa : Option Addr) (sc : Nat) (script : List Op1) (gs : Seg) (hso : ScriptAt sa script gs) (hop : ∀ o, o ∈ script → OpOk o) (hgs : isG gs) :
    Spec Tryz.prog 3 [.slice sa script.length sc] [gs] (Ret fun v H => v = .bool true ∧ H = [gs]) := law_Refines plainR refP sa sc script gs hso hop hgs
theorem refinesQuiet_true (sa : Option Addr) (sc : Nat) (script : List Op1) (gs : Seg) (hso : ScriptAt sa script gs) (hop : ∀ o, o ∈ script → OpOk o) (hgs : isG gs) :
    Spec Tryz.prog 4 [.slice sa script.length sc] [gs] (Ret fun v H => v = .bool true ∧ H = [gs]) := law_RefinesQuiet plainR refP sa sc script gs hso hop hgs
end Go.Sl
