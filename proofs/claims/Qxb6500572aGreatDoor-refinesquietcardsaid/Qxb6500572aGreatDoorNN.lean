/- The two machines: plain instructions. -/
import Derived.Test.Qxb6500572aGreatDoorNM
namespace Go.Wl
open Go Go.Sl
set_option linter.unusedVariables false
theorem i32_id {n : Int} (h1 : -2147483648 ≤ n) (h2 : n ≤ 2147483647) : IntKind.i32.wrap n = n := by rw [IntKind.wrap_i32]; omega
theorem i8_rng (n : Int) : -128 ≤ IntKind.i8.wrap n ∧ IntKind.i8.wrap n ≤ 127 := by
  simp [IntKind.wrap, IntKind.bits, IntKind.signed]
  split <;> omega
theorem i16_rng (n : Int) : -32768 ≤ IntKind.i16.wrap n ∧ IntKind.i16.wrap n ≤ 32767 := by
  simp [IntKind.wrap, IntKind.bits, IntKind.signed]
  split <;> omega
theorem w32i (a : Int) : IntKind.i32.wrap (IntKind.i32.wrap a) = IntKind.i32.wrap a := by simp only [IntKind.wrap_i32]; omega
theorem tr_w (b : Bool) : IntKind.i32.wrap (tr b) = tr b := by cases b <;> rfl
theorem alu_w {op a b : Int} (h : (29 ≤ op ∧ op ≤ 31) ∨ (40 ≤ op ∧ op < 56) ∨ (73 ≤ op ∧ op < 76)) : IntKind.i32.wrap (alu op a b).1 = (alu op a b).1 := by
  by_cases h40 : 40 ≤ op ∧ op < 56
  · rw [← malu_eq]
    unfold malu
    rw [if_neg (by omega), if_neg (by omega), if_neg (by omega), if_neg (by omega), if_pos h40]
    dsimp only
    rw [w32, w32i]
  · unfold alu
    by_cases h29 : op = 29
    · rw [if_pos h29]; exact tr_w _
    rw [if_neg h29]
    by_cases h30 : op = 30
    · rw [if_pos h30]; exact tr_w _
    rw [if_neg h30]
    by_cases h31 : op = 31
    · rw [if_pos (by omega)]; dsimp only; rw [w32, w32i]
    rw [if_neg (by omega), if_neg (by omega), if_neg (by omega), if_pos (by omega)]
    unfold unitF
    rw [if_neg (by omega)]
    by_cases h13 : op - 60 = 13
    · rw [if_pos h13]; exact tr_w _
    rw [if_neg h13]
    by_cases h14 : op - 60 = 14
    · rw [if_pos h14]; exact tr_w _
    rw [if_neg h14, if_pos (by omega)]; exact tr_w _
theorem le16_rng (b0 b1 : UInt8) : 0 ≤ le16 b0 b1 ∧ le16 b0 b1 ≤ 65535 := by
  unfold le16
  simp only [bitI]
  rw [IntKind.wrap_u16]
  omega
theorem load_w {m : Mem} {op a off : Int} (h : op ≠ 20) (h19 : 19 ≤ op ∧ op ≤ 24) : IntKind.i32.wrap (mload m op a off).1 = (mload m op a off).1 := by
  unfold mload
  split
  · rfl
  · dsimp only
    unfold load8
    split
    · rename_i b0 b1 b2 b3 b4 b5 b6 b7 _
      unfold loadV
      have hb := b0.toNat_lt
      by_cases h21 : op = 21
      · rw [if_pos h21]; have := i8_rng b0.toNat; apply i32_id <;> rw [IntKind.wrap_i64] <;> omega
      rw [if_neg h21]
      by_cases h22 : op = 22
      · rw [if_pos h22]; apply i32_id <;> rw [IntKind.wrap_i64] <;> omega
      rw [if_neg h22]
      by_cases h23 : op = 23
      · rw [if_pos h23]; have := i16_rng (le16 b0 b1); apply i32_id <;> rw [IntKind.wrap_i64] <;> omega
      rw [if_neg h23]
      have hl := le16_rng b0 b1
      by_cases h24 : op = 24
      · rw [if_pos h24]; apply i32_id <;> rw [IntKind.wrap_i64] <;> omega
      rw [if_neg h24, if_pos (by omega), w32, w32i]
    · rfl
structure Ends (x : VM) (R : RS) : Prop where
  n : x.steps = R.n
  mem : x.mem = R.mem
  used : x.i.used = R.used
  tr : traceOf x.host = R.trace
structure Sim (P : Prog) (x : VM) (R : RS) : Prop where
  e : Ends x R
  P : x.P = P
  ak : x.host.k = R.asked
  k6 : x.host.k ≤ 6
structure Frm (P : Prog) (k : Nat) (u : Fun) (T : Typ) (B BM : List W) (FB : List Fr) (x : VM) (R : RS) (loc ops : List W) (pc : Nat) : Prop where
  sim : Sim P x R
  fr : x.i.fr = FB ++ [⟨k, pc, B.length, B.length + loc.length, u.results⟩]
  st : x.i.st = B ++ loc ++ ops
  rs : R.st = BM ++ ops
  lt : loc.map W.t = u.params ++ u.locals
  tp : T pc = some (ops.map W.t)
variable {P : Prog} {k : Nat} {u : Fun} {T : Typ} {B BM : List W} {FB : List Fr} {x Z : VM} {R R' : RS} {loc ops loc' ops' : List W} {pc pc' : Nat} {c : Ins} {f : Flat}
theorem Frm.topv (h : Frm P k u T B BM FB x R loc ops pc) : x.i.top = ⟨k, pc, B.length, B.length + loc.length, u.results⟩ := by
  unfold Inst.top; rw [h.fr]
  rw [List.getD_eq_getElem?_getD, List.getElem?_append_right (by simp)]
  simp
theorem Frm.setf (h : Frm P k u T B BM FB x R loc ops pc) (hfr : Z.i.fr = x.i.fr) (v : Int) : (Z.setPc v).i.fr = FB ++ [⟨k, v, B.length, B.length + loc.length, u.results⟩] := by
  show (Z.i.setTop { Z.i.top with pc := v }).fr = _
  unfold Inst.setTop
  rw [top_of_fr hfr, h.topv, hfr, h.fr]
  simp only [List.length_append, List.length_cons, List.length_nil, Nat.add_sub_cancel]
  rw [List.set_append_right _ _ (Nat.le_refl _)]
  simp
theorem Sim.setPc (h : Sim P Z R) (v : Int) : Sim P (Z.setPc v) R := ⟨⟨h.e.n, h.e.mem, h.e.used, h.e.tr⟩, h.P, h.ak, h.k6⟩
theorem Frm.go (h : Frm P k u T B BM FB x R loc ops pc) (hfr : Z.i.fr = x.i.fr) (hst : Z.i.st = B ++ loc' ++ ops') (hl : loc'.map W.t = loc.map W.t) (hs : Sim P Z R') (hrs : R'.st = BM ++ ops') {v : Int} (hv : v = pc') (ht : T pc' = some (ops'.map W.t)) : Frm P k u T B BM FB (Z.setPc v) R' loc' ops' pc' := by
  refine ⟨hs.setPc v, ?_, hst, hrs, by rw [hl, h.lt], ht⟩
  rw [h.setf hfr, hv, show loc'.length = loc.length by simpa using congrArg List.length hl]
theorem Frm.nxt (h : Frm P k u T B BM FB x R loc ops pc) (hfr : Z.i.fr = x.i.fr) (hst : Z.i.st = B ++ loc' ++ ops') (hl : loc'.map W.t = loc.map W.t) (hs : Sim P Z R') (hrs : R'.st = BM ++ ops') (ht : T (pc + 1) = some (ops'.map W.t)) : Z.next = (Z.next.1, none) ∧ Frm P k u T B BM FB Z.next.1 R' loc' ops' (pc + 1) := by
  refine ⟨rfl, h.go hfr hst hl hs hrs ?_ ht⟩
  rw [top_of_fr hfr, h.topv]; rfl
theorem Frm.fetched (h : Frm P k u T B BM FB x R loc ops pc) : Frm P k u T B BM FB x.fetch R.tick loc ops pc := by
  refine ⟨⟨⟨?_, h.sim.e.mem, h.sim.e.used, h.sim.e.tr⟩, h.sim.P, h.sim.ak, h.sim.k6⟩, h.fr, h.st, h.rs, h.lt, h.tp⟩
  show IntKind.i64.wrap (x.steps + 1) = IntKind.i64.wrap (R.n + 1)
  rw [h.sim.e.n]
theorem Frm.paid (h : Frm P k u T B BM FB x R loc ops pc) : Frm P k u T B BM FB x.fetch.pay R.pay loc ops pc := by
  refine ⟨⟨⟨?_, h.sim.e.mem, ?_, h.sim.e.tr⟩, h.sim.P, h.sim.ak, h.sim.k6⟩, h.fr, h.st, h.rs, h.lt, h.tp⟩
  · show IntKind.i64.wrap (x.steps + 1) = IntKind.i64.wrap (R.n + 1)
    rw [h.sim.e.n]
  · show x.i.used + 1 = R.used + 1
    rw [h.sim.e.used]
theorem Frm.at_ (h : Frm P k u T B BM FB x R loc ops pc) (hu : P.funs[k]? = some u) (hf : u.code[pc]? = some f) : x.at = f := by
  unfold VM.at Prog.at
  have hk := (List.getElem?_eq_some_iff.1 hu).1
  have hpc := (List.getElem?_eq_some_iff.1 hf).1
  rw [h.topv, h.sim.P]
  dsimp only
  rw [if_neg (by omega), Int.toNat_natCast, hu]
  dsimp only
  rw [if_neg (by omega), Int.toNat_natCast, List.getD_eq_getElem?_getD, hf]; rfl
theorem Frm.iok (h : Frm P k u T B BM FB x R loc ops pc) (hF : Flow P u T) (hf : u.code[pc]? = some f) : IOk P u T pc f (ops.map W.t) := by
  obtain ⟨c, h1, h2, _⟩ := hF.ok pc _ h.tp
  rw [hf] at h1
  cases h1
  exact h2
theorem map_app {l : List W} {a b : List UInt8} (h : l.map W.t = a ++ b) : ∃ l1 l2, l = l1 ++ l2 ∧ l1.map W.t = a ∧ l2.map W.t = b := by
  obtain ⟨l1, l2, e, h1, h2⟩ := List.map_eq_append_iff.1 h
  exact ⟨l1, l2, e, h1, h2⟩
/-- What the flat machine makes of a plain instruction. -/
theorem plain_exec {y : VM} {A args : List W} {i o : List UInt8} (hst : y.i.st = A ++ args) (hat : args.map W.t = i) (hsg : sigs f.op = some (i, o)) (hm : MemOk y.mem) (h17 : f.op = 17 → -2147483648 ≤ f.imm ∧ f.imm ≤ 2147483647) :
    ((unitP y.mem f.op f.imm (args.getD 0 ⟨false, 0⟩).n (args.getD 1 ⟨false, 0⟩).n).2.2 = 0 → y.exec f = (({ y with mem := (unitP y.mem f.op f.imm (args.getD 0 ⟨false, 0⟩).n (args.getD 1 ⟨false, 0⟩).n).1 } : VM).setSt (A ++ o.map (fun t => ⟨tw t, (unitP y.mem f.op f.imm (args.getD 0 ⟨false, 0⟩).n (args.getD 1 ⟨false, 0⟩).n).2.1⟩))).next) ∧
    ((unitP y.mem f.op f.imm (args.getD 0 ⟨false, 0⟩).n (args.getD 1 ⟨false, 0⟩).n).2.2 ≠ 0 → y.exec f = ({ y with mem := (unitP y.mem f.op f.imm (args.getD 0 ⟨false, 0⟩).n (args.getD 1 ⟨false, 0⟩).n).1 }, some (unitP y.mem f.op f.imm (args.getD 0 ⟨false, 0⟩).n (args.getD 1 ⟨false, 0⟩).n).2.2)) := by
  have hrg := sg_some hsg
  have hlen := hm.len
  have hmax := hm.max
  have key1 : ∀ {a : UInt8}, i = [a] → ∃ p, args = [p] ∧ lst y.i.st = p ∧ y.pop.i.st = A := fun {a} e => by
    rw [e] at hat
    match args, hat with
    | [p], _ => exact ⟨p, rfl, by rw [hst, lst_app], by show y.i.st.dropLast = A; rw [hst, drop_app]⟩
  have key2 : ∀ {a b : UInt8}, i = [a, b] → ∃ p q, args = [p, q] ∧ lst y.i.st = q ∧ lst y.pop.i.st = p ∧ y.pop.pop.i.st = A := fun {a b} e => by
    rw [e] at hat
    match args, hat with
    | [p, q], _ =>
      have e2 : y.i.st = (A ++ [p]) ++ [q] := by rw [hst]; simp
      have e3 : y.pop.i.st = A ++ [p] := by show y.i.st.dropLast = _; rw [e2, drop_app]
      exact ⟨p, q, rfl, by rw [e2, lst_app], by rw [e3, lst_app], by show y.pop.i.st.dropLast = A; rw [e3, drop_app]⟩
  by_cases h15 : f.op = 15
  · rw [sg15 (.inl h15)] at hsg
    obtain ⟨rfl, rfl⟩ : i = [] ∧ o = [105] := by simpa [Prod.ext_iff, eq_comm] using hsg
    obtain rfl : args = [] := by simpa using hat
    unfold unitP
    rw [if_pos h15]
    refine ⟨fun _ => ?_, fun h => absurd rfl h⟩
    rw [exec_x15 h15]
    unfold VM.x15 VM.push
    rw [hst, i32_id (by omega) (by omega)]
    simp [tw]
  by_cases h16 : f.op = 16
  · rw [sg16 (.inl h16)] at hsg
    obtain ⟨rfl, rfl⟩ : i = [105] ∧ o = [105] := by simpa [Prod.ext_iff, eq_comm] using hsg
    obtain ⟨p, rfl, hl, hpop⟩ := key1 rfl
    unfold unitP
    rw [if_neg h15, if_pos h16]
    refine ⟨fun _ => ?_, fun h => absurd rfl h⟩
    rw [exec_x16 h16]
    unfold VM.x16 VM.push VM.pop
    rw [hl]
    have : IntKind.i32.wrap (grow y.mem p.n).2 = (grow y.mem p.n).2 := by
      unfold grow; split
      · rfl
      · exact i32_id (by dsimp only; omega) (by dsimp only; omega)
    rw [this]
    show (VM.setSt _ (y.i.st.dropLast ++ _)).next = _
    rw [hst, drop_app]
    rfl
  by_cases h17' : f.op = 17
  · rw [sg15 (.inr h17')] at hsg
    obtain ⟨rfl, rfl⟩ : i = [] ∧ o = [105] := by simpa [Prod.ext_iff, eq_comm] using hsg
    obtain rfl : args = [] := by simpa using hat
    unfold unitP
    rw [if_neg h15, if_neg h16, if_pos (.inl h17')]
    refine ⟨fun _ => ?_, fun h => absurd rfl h⟩
    rw [exec_x17 h17']
    unfold VM.x17 VM.push
    have := h17 h17'
    rw [hst, i32_id this.1 this.2]
    simp [tw]
  by_cases h18 : f.op = 18
  · rw [sg18 h18] at hsg
    obtain ⟨rfl, rfl⟩ : i = [] ∧ o = [108] := by simpa [Prod.ext_iff, eq_comm] using hsg
    obtain rfl : args = [] := by simpa using hat
    unfold unitP
    rw [if_neg h15, if_neg h16, if_pos (.inr h18)]
    refine ⟨fun _ => ?_, fun h => absurd rfl h⟩
    rw [exec_x18 h18]
    unfold VM.x18 VM.push
    rw [hst]
    simp [tw]
  by_cases h19 : 19 ≤ f.op ∧ f.op ≤ 24
  · have hu : unitP y.mem f.op f.imm (args.getD 0 ⟨false, 0⟩).n (args.getD 1 ⟨false, 0⟩).n = (y.mem, (mload y.mem f.op (args.getD 0 ⟨false, 0⟩).n f.imm).1, (mload y.mem f.op (args.getD 0 ⟨false, 0⟩).n f.imm).2) := by
      unfold unitP
      rw [if_neg h15, if_neg h16, if_neg (by omega), if_pos h19]
    rw [hu]
    rw [exec_x19 h19]
    by_cases h20 : f.op = 20
    · rw [sg20 (.inl h20)] at hsg
      obtain ⟨rfl, rfl⟩ : i = [105] ∧ o = [108] := by simpa [Prod.ext_iff, eq_comm] using hsg
      obtain ⟨p, rfl, hl, hpop⟩ := key1 rfl
      unfold VM.x19
      rw [hl]
      refine ⟨fun (h : (mload y.mem f.op p.n f.imm).2 = 0) => ?_, fun (h : (mload y.mem f.op p.n f.imm).2 ≠ 0) => ?_⟩
      · rw [if_pos h, if_pos h20]
        unfold VM.push
        rw [hpop]
        rfl
      · rw [if_neg h]; rfl
    · rw [sg16 (by omega)] at hsg
      obtain ⟨rfl, rfl⟩ : i = [105] ∧ o = [105] := by simpa [Prod.ext_iff, eq_comm] using hsg
      obtain ⟨p, rfl, hl, hpop⟩ := key1 rfl
      unfold VM.x19
      rw [hl]
      refine ⟨fun (h : (mload y.mem f.op p.n f.imm).2 = 0) => ?_, fun (h : (mload y.mem f.op p.n f.imm).2 ≠ 0) => ?_⟩
      · rw [if_pos h, if_neg h20, load_w h20 h19]
        unfold VM.push
        rw [hpop]
        rfl
      · rw [if_neg h]; rfl
  by_cases h25 : 25 ≤ f.op ∧ f.op ≤ 28
  · have hu : unitP y.mem f.op f.imm (args.getD 0 ⟨false, 0⟩).n (args.getD 1 ⟨false, 0⟩).n = ((mstore y.mem f.op (args.getD 0 ⟨false, 0⟩).n f.imm (args.getD 1 ⟨false, 0⟩).n).1, 0, (mstore y.mem f.op (args.getD 0 ⟨false, 0⟩).n f.imm (args.getD 1 ⟨false, 0⟩).n).2) := by
      unfold unitP
      rw [if_neg h15, if_neg h16, if_neg (by omega), if_neg h19, if_pos h25]
    rw [hu]
    rw [exec_x25 h25]
    have hio : (∃ a b, i = [a, b]) ∧ o = [] := by
      by_cases h26 : f.op = 26
      · rw [sg26 h26] at hsg
        obtain ⟨rfl, rfl⟩ : i = [105, 108] ∧ o = [] := by simpa [Prod.ext_iff, eq_comm] using hsg
        exact ⟨⟨_, _, rfl⟩, rfl⟩
      · rw [sg25 (by omega)] at hsg
        obtain ⟨rfl, rfl⟩ : i = [105, 105] ∧ o = [] := by simpa [Prod.ext_iff, eq_comm] using hsg
        exact ⟨⟨_, _, rfl⟩, rfl⟩
    obtain ⟨⟨a, b, e⟩, rfl⟩ := hio
    obtain ⟨p, q, rfl, hl, hl2, hpop⟩ := key2 e
    unfold VM.x25
    rw [hl, hl2]
    refine ⟨fun (h : (mstore y.mem f.op p.n f.imm q.n).2 = 0) => ?_, fun (h : (mstore y.mem f.op p.n f.imm q.n).2 ≠ 0) => ?_⟩
    · rw [if_pos h]
      show (VM.setSt _ y.pop.pop.i.st).next = _
      rw [hpop]
      simp only [List.map_nil, List.append_nil]
      rfl
    · rw [if_neg h]; rfl
  have h28 : ¬ (0 ≤ f.op ∧ f.op ≤ 28) := by omega
  have hu : unitP y.mem f.op f.imm (args.getD 0 ⟨false, 0⟩).n (args.getD 1 ⟨false, 0⟩).n = (y.mem, (alu f.op (args.getD 0 ⟨false, 0⟩).n (args.getD 1 ⟨false, 0⟩).n).1, (alu f.op (args.getD 0 ⟨false, 0⟩).n (args.getD 1 ⟨false, 0⟩).n).2) := by
    unfold unitP
    rw [if_neg h15, if_neg h16, if_neg (by omega), if_neg h19, if_neg h25]
  rw [hu]
  have hword : ∀ (v : Int) (t : UInt8), o = [t] → t = aluTo f.op → (t = 105 → IntKind.i32.wrap v = v) → (t = 105 ∨ t = 108) → [word (aluTo f.op) v] = o.map (fun t => (⟨tw t, v⟩ : W)) := fun v t e1 e2 e3 e4 => by
    rw [← e2, e1]
    rcases e4 with e4 | e4
    · have := e3 e4
      subst e4
      simp [word, tw, this]
    · subst e4
      simp [word, tw]
  by_cases hb : (40 ≤ f.op ∧ f.op < 56) ∨ (60 ≤ f.op ∧ f.op < 76)
  · have hab : aluBin f.op = true := by unfold aluBin; exact decide_eq_true hb
    rw [exec_xb h28 hab]
    obtain ⟨⟨a, b, e⟩, t, ho, ht, h105, h2⟩ : (∃ a b, i = [a, b]) ∧ ∃ t, o = [t] ∧ t = aluTo f.op ∧ (t = 105 → ∀ a b, IntKind.i32.wrap (alu f.op a b).1 = (alu f.op a b).1) ∧ (t = 105 ∨ t = 108) := by
      by_cases h40 : 40 ≤ f.op ∧ f.op < 56
      · rw [sg40 h40] at hsg
        obtain ⟨rfl, rfl⟩ : i = [105, 105] ∧ o = [105] := by simpa [Prod.ext_iff, eq_comm] using hsg
        exact ⟨⟨_, _, rfl⟩, 105, rfl, by unfold aluTo; rw [if_neg (by omega)], fun _ a b => alu_w (by omega), .inl rfl⟩
      · by_cases h73 : f.op < 73
        · rw [sg60 (by omega)] at hsg
          obtain ⟨rfl, rfl⟩ : i = [108, 108] ∧ o = [108] := by simpa [Prod.ext_iff, eq_comm] using hsg
          exact ⟨⟨_, _, rfl⟩, 108, rfl, by unfold aluTo; rw [if_pos (by omega)], fun q => absurd q (by decide), .inr rfl⟩
        · rw [sg73 (by omega)] at hsg
          obtain ⟨rfl, rfl⟩ : i = [108, 108] ∧ o = [105] := by simpa [Prod.ext_iff, eq_comm] using hsg
          exact ⟨⟨_, _, rfl⟩, 105, rfl, by unfold aluTo; rw [if_neg (by omega)], fun _ a b => alu_w (by omega), .inl rfl⟩
    obtain ⟨p, q, rfl, hl, hl2, hpop⟩ := key2 e
    unfold VM.xb
    rw [hl, hl2]
    refine ⟨fun (h : (alu f.op p.n q.n).2 = 0) => ?_, fun (h : (alu f.op p.n q.n).2 ≠ 0) => ?_⟩
    · rw [if_pos h]
      unfold VM.push
      rw [hpop, hword _ t ho ht (fun q => h105 q _ _) h2]
      rfl
    · rw [if_neg h]; rfl
  · have hab : aluBin f.op = false := by unfold aluBin; exact decide_eq_false hb
    rw [exec_xu h28 hab]
    obtain ⟨⟨a, e⟩, t, ho, ht, h105, h2⟩ : (∃ a, i = [a]) ∧ ∃ t, o = [t] ∧ t = aluTo f.op ∧ (t = 105 → ∀ a b, IntKind.i32.wrap (alu f.op a b).1 = (alu f.op a b).1) ∧ (t = 105 ∨ t = 108) := by
      by_cases h29 : f.op = 29
      · rw [sg16 (by omega)] at hsg
        obtain ⟨rfl, rfl⟩ : i = [105] ∧ o = [105] := by simpa [Prod.ext_iff, eq_comm] using hsg
        exact ⟨⟨_, rfl⟩, 105, rfl, by unfold aluTo; rw [if_neg (by omega)], fun _ a b => alu_w (by omega), .inl rfl⟩
      · by_cases h30 : f.op = 30 ∨ f.op = 31
        · rw [sg30 h30] at hsg
          obtain ⟨rfl, rfl⟩ : i = [108] ∧ o = [105] := by simpa [Prod.ext_iff, eq_comm] using hsg
          exact ⟨⟨_, rfl⟩, 105, rfl, by unfold aluTo; rw [if_neg (by omega)], fun _ a b => alu_w (by omega), .inl rfl⟩
        · rw [sg20 (by omega)] at hsg
          obtain ⟨rfl, rfl⟩ : i = [105] ∧ o = [108] := by simpa [Prod.ext_iff, eq_comm] using hsg
          exact ⟨⟨_, rfl⟩, 108, rfl, by unfold aluTo; rw [if_pos (by omega)], fun q => absurd q (by decide), .inr rfl⟩
    obtain ⟨p, rfl, hl, hpop⟩ := key1 e
    unfold VM.xu
    rw [hl]
    refine ⟨fun (h : (alu f.op p.n 0).2 = 0) => ?_, fun (h : (alu f.op p.n 0).2 ≠ 0) => ?_⟩
    · rw [if_pos h]
      unfold VM.push
      rw [hpop, hword _ t ho ht (fun q => h105 q _ _) h2]
      rfl
    · rw [if_neg h]; rfl
end Go.Wl
