/- Plain: the compiler: constants and variables. -/
import Derived.Test.Qxb6500573aGreatDoorSB
namespace Go.Wl
open Go Go.Sl Go.Proofs
set_option linter.unusedVariables false
variable {ns : List Nd}
theorem u16_id {x : Int} (h : 0 ≤ x ∧ x < 65536) : u16 x = x := by
  unfold u16
  simp [IntKind.wrap, IntKind.bits, IntKind.signed]
  omega
theorem u8_id {x : Int} (h : 0 ≤ x ∧ x < 256) : u8 x = x := by rw [u8_eq]; omega
section
variable {k : Nat} {ch : List Nat} {L : List Fs} {f : Fs} {n B : Nat} (hI : Inv ns k ch L f n B)
include hI
/-- A constant comes to, or is there. -/
theorem cnum_go {b : Int} (hb : numOk b) (hks : KS ns ⟨2, b, []⟩) (hB : B ≤ 100000) : ∃ (L' : List Fs) (f' : Fs) (i : Int), RunV (cnumM k b) L i L' ∧ Inv ns k ch L' f' n (B + 9) ∧ Stp k ch L f L' f' ∧ f'.locals = f.locals ∧ f'.loops = f.loops ∧ f'.code = f.code ∧ (0 ≤ i ∧ i ≤ 65535) ∧ f'.consts[i.toNat]? = some ⟨2, b, []⟩ := by
  have hc := hI.code
  cases hm : mfind f.nums b with
  | some i =>
    have h1 := hI.ko.nu b i hm
    have := lt_of h1.2
    refine ⟨L, f, i, fun s hs => ⟨s, ?_, hs⟩, ⟨hI.ln, hI.at_, hI.ch, hI.ko, hI.al, hI.kq, by have := hI.ms; omega⟩, .refl hI, rfl, rfl, rfl, by omega, h1.2⟩
    unfold cnumM
    rw [hs.get hI.at_]
    show (match mfind f.nums b with | some i => _ | none => _) = _
    rw [hm]
  | none =>
    have e1 : u16 (f.consts.length : Int) = f.consts.length := u16_id (by omega)
    have hko : KOk { f with nums := f.nums ++ [(b, (f.consts.length : Int))], consts := f.consts ++ [⟨2, b, []⟩] } := by
      refine ⟨fun b i h => ?_, fun t i h => ?_, fun v hv => ?_, fun i v hv => ?_, by simp only [List.length_append, List.length_singleton]; have := hI.ko.kl; omega⟩
      · rcases mfind_app h with h | ⟨rfl, rfl⟩
        · obtain ⟨h1, h2⟩ := hI.ko.nu b i h
          exact ⟨h1, pfx_at (List.prefix_append _ _) h2⟩
        · exact ⟨by omega, by simp⟩
      · obtain ⟨h1, h2⟩ := hI.ko.st t i h
        exact ⟨h1, pfx_at (List.prefix_append _ _) h2⟩
      · rcases List.mem_append.1 hv with hv | hv
        · exact hI.ko.cs v hv
        · rw [List.mem_singleton] at hv
          subst hv
          exact .inl ⟨rfl, rfl, hb⟩
      · by_cases hi : i < f.consts.length
        · dsimp only at hv
          rw [List.getElem?_append_left hi] at hv
          obtain ⟨h1, h2⟩ := hI.ko.kn i v hv
          exact ⟨fun q => mfind_old (h1 q), h2⟩
        · have hil := lt_of hv
          dsimp only at hv hil
          rw [List.length_append, List.length_singleton] at hil
          have : i = f.consts.length := by omega
          subst this
          rw [List.getElem?_append_right (Nat.le_refl _), Nat.sub_self] at hv
          injection hv with hv
          subst hv
          exact ⟨fun _ => mfind_new hm, fun q => absurd rfl q⟩
    obtain ⟨L', r1, r2, r3⟩ := own_goV (F := cnumM k b) (v := (f.consts.length : Int)) (e := 9) (f' := { f with nums := f.nums ++ [(b, (f.consts.length : Int))], consts := f.consts ++ [⟨2, b, []⟩] }) hI (fun s hs => by
      unfold cnumM
      rw [hs]
      show (match mfind f.nums b with | some i => _ | none => _) = _
      rw [hm]
      show (if _ then _ else _) = _
      rw [if_pos (by omega), e1]) rfl ⟨rfl, rfl, List.prefix_refl _, List.prefix_append _ _, Int.le_refl _⟩ rfl hko hI.al (by unfold cost; simp only [cbs_app, cbs, cb]; rw [if_pos trivial]; omega) (fun v hv => by
      rcases List.mem_append.1 hv with hv | hv
      · exact hI.kq v hv
      · rw [List.mem_singleton] at hv; subst hv; exact hks)
    refine ⟨L', _, _, r1, r2, r3, rfl, rfl, rfl, by omega, by simp⟩
theorem ctext_go {t : List UInt8} (ht : t.length ≤ 40) (hks : KS ns ⟨3, 0, t⟩) (hB : B ≤ 100000) : ∃ (L' : List Fs) (f' : Fs) (i : Int), RunV (ctextM k t) L i L' ∧ Inv ns k ch L' f' n (B + 42) ∧ Stp k ch L f L' f' ∧ f'.locals = f.locals ∧ f'.loops = f.loops ∧ f'.code = f.code ∧ (0 ≤ i ∧ i ≤ 65535) ∧ f'.consts[i.toNat]? = some ⟨3, 0, t⟩ := by
  have hc := hI.code
  cases hm : mfind f.strs t with
  | some i =>
    obtain ⟨h1, h2⟩ := hI.ko.st t i hm
    have := lt_of h2
    refine ⟨L, f, i, fun s hs => ⟨s, ?_, hs⟩, ⟨hI.ln, hI.at_, hI.ch, hI.ko, hI.al, hI.kq, by have := hI.ms; omega⟩, .refl hI, rfl, rfl, rfl, by omega, h2⟩
    unfold ctextM
    rw [hs.get hI.at_]
    show (match mfind f.strs t with | some i => _ | none => _) = _
    rw [hm]
  | none =>
    have e1 : u16 (f.consts.length : Int) = f.consts.length := u16_id (by omega)
    have hko : KOk { f with strs := f.strs ++ [(t, (f.consts.length : Int))], consts := f.consts ++ [⟨3, 0, t⟩] } := by
      refine ⟨fun b i h => ?_, fun t2 i h => ?_, fun v hv => ?_, fun i v hv => ?_, by simp only [List.length_append, List.length_singleton]; have := hI.ko.kl; omega⟩
      · obtain ⟨h1, h2⟩ := hI.ko.nu b i h
        exact ⟨h1, pfx_at (List.prefix_append _ _) h2⟩
      · rcases mfind_app h with h | ⟨rfl, rfl⟩
        · obtain ⟨h1, h2⟩ := hI.ko.st t2 i h
          exact ⟨h1, pfx_at (List.prefix_append _ _) h2⟩
        · exact ⟨by omega, by simp⟩
      · rcases List.mem_append.1 hv with hv | hv
        · exact hI.ko.cs v hv
        · rw [List.mem_singleton] at hv
          subst hv
          exact .inr ⟨rfl, rfl, ht⟩
      · by_cases hi : i < f.consts.length
        · dsimp only at hv
          rw [List.getElem?_append_left hi] at hv
          obtain ⟨h1, h2⟩ := hI.ko.kn i v hv
          exact ⟨h1, fun q => mfind_old (h2 q)⟩
        · have hil := lt_of hv
          dsimp only at hv hil
          rw [List.length_append, List.length_singleton] at hil
          have : i = f.consts.length := by omega
          subst this
          rw [List.getElem?_append_right (Nat.le_refl _), Nat.sub_self] at hv
          injection hv with hv
          subst hv
          exact ⟨fun q => by dsimp only at q; omega, fun _ => mfind_new hm⟩
    obtain ⟨L', r1, r2, r3⟩ := own_goV (F := ctextM k t) (v := (f.consts.length : Int)) (e := 42) (f' := { f with strs := f.strs ++ [(t, (f.consts.length : Int))], consts := f.consts ++ [⟨3, 0, t⟩] }) hI (fun s hs => by
      unfold ctextM
      rw [hs]
      show (match mfind f.strs t with | some i => _ | none => _) = _
      rw [hm]
      show (if _ then _ else _) = _
      rw [if_pos (by omega), e1]) rfl ⟨rfl, rfl, List.prefix_refl _, List.prefix_append _ _, Int.le_refl _⟩ rfl hko hI.al (by unfold cost; simp only [cbs_app, cbs, cb]; rw [if_neg (by decide)]; omega) (fun v hv => by
      rcases List.mem_append.1 hv with hv | hv
      · exact hI.kq v hv
      · rw [List.mem_singleton] at hv; subst hv; exact hks)
    refine ⟨L', _, _, r1, r2, r3, rfl, rfl, rfl, by omega, by simp⟩
end
theorem slotAt_ok (l : List (List UInt8)) (name : List UInt8) : ∀ i, i ≤ l.length → (slotAt l name i = -1) ∨ ∃ j : Nat, slotAt l name i = j ∧ l[j]? = some name
  | 0, h => .inl rfl
  | i + 1, h => by
    unfold slotAt
    by_cases e : l.getD i [] = name
    · rw [if_pos e]
      refine .inr ⟨i, rfl, ?_⟩
      rw [List.getD_eq_getElem?_getD, List.getElem?_eq_getElem (by omega)] at e
      rw [List.getElem?_eq_getElem (by omega)]
      exact congrArg some e
    · rw [if_neg e]; exact slotAt_ok l name i (by omega)
theorem upFind_ok (d : Int × Int) : ∀ (l : List (Int × Int)) (i : Nat), (upFind l d i = none ∧ d ∉ l) ∨ ∃ j, upFind l d i = some j ∧ i ≤ j ∧ l[j - i]? = some d
  | [], i => .inl ⟨rfl, by simp⟩
  | e :: l, i => by
    unfold upFind
    by_cases h : e = d
    · rw [if_pos h]; exact .inr ⟨i, rfl, Nat.le_refl _, by simp [h]⟩
    · rw [if_neg h]
      rcases upFind_ok d l (i + 1) with ⟨h1, h2⟩ | ⟨j, h1, h2, h3⟩
      · exact .inl ⟨h1, by simp [h2]; exact fun q => h q.symm⟩
      · exact .inr ⟨j, h1, by omega, by rw [show j - i = (j - (i + 1)) + 1 by omega]; exact h3⟩
/-- The upvalues of the chain's functions may grow; all else stands. -/
structure UpR (ch : List Nat) (L L' : List Fs) : Prop where
  ln : L'.length = L.length
  ag : ∀ y, y ∉ ch → L'[y]? = L[y]?
  up : ∀ y g, y ∈ ch → L[y]? = some g → ∃ u, L'[y]? = some { g with ups := g.ups ++ u }
  cn : Chn L' ch
  ms : Mz L' ≤ Mz L + 2 * ch.length
theorem slot_run {L : List Fs} {k : Nat} {f : Fs} (hk : L[k]? = some f) (name : List UInt8) (hl : f.locals.length ≤ 12) {s : CS} (hs : Rep s L) : slotM k name s = some (slotAt f.locals name f.locals.length) := by
  unfold slotM
  rw [hs.get hk]
  show (if _ then _ else _) = _
  rw [if_pos (by omega)]
theorem upput_go {L : List Fs} {k p : Nat} {r : List Nat} {d : Int × Int} (h : Chn L (k :: p :: r)) (hd : ∀ g, L[p]? = some g → (d.1 = 1 ∧ 0 ≤ d.2 ∧ ∃ nm, g.locals[d.2.toNat]? = some nm ∧ nm ≠ []) ∨ (d.1 = 0 ∧ 0 ≤ d.2 ∧ d.2 < g.ups.length)) (hk12 : k ≤ 12) :
    ∃ (L' : List Fs) (u : Nat), RunV (upPut k d) L (u : Int) L' ∧ L'.length = L.length ∧ (∀ y, y ≠ k → L'[y]? = L[y]?) ∧ (∀ g, L[k]? = some g → ∃ u, L'[k]? = some { g with ups := g.ups ++ u }) ∧ Chn L' (k :: p :: r) ∧ Mz L' ≤ Mz L + 2 ∧ ∀ g, L'[k]? = some g → g.ups[u]? = some d := by
  obtain ⟨f, hk⟩ := h.at_
  have hul := h.ups hk
  have hcl := h.len
  have hlt := lt_of hk
  have hrun : ∀ s, Rep s L → upPut k d s = some (upAdd k d f s (upFind f.ups d 0)) := fun s hs => by
    unfold upPut
    rw [hs.get hk]
    show (if _ then _ else _) = _
    rw [if_pos (by omega)]
  rcases upFind_ok d f.ups 0 with ⟨h1, h2⟩ | ⟨j, h1, h2, h3⟩
  · refine ⟨L.set k { f with ups := f.ups ++ [d] }, f.ups.length, fun s hs => ⟨s.put k { f with ups := f.ups ++ [d] }, by rw [hrun s hs, h1]; rfl, hs.put hk (hs.lv f (List.mem_of_getElem? hk))⟩, by simp, fun y hy => List.getElem?_set_ne (by omega), fun g hg => ⟨[d], ?_⟩, ?_, ?_, fun g hg => ?_⟩
    · rw [hk] at hg
      injection hg with hg
      subst hg
      exact List.getElem?_set_self hlt
    · obtain ⟨⟨f0, g, a1, a2, a3, a4, a5, a6, a7⟩, a8⟩ := h
      rw [hk] at a1
      injection a1 with a1
      subst a1
      have hne : ∀ y, y ∈ p :: r → (L.set k { f with ups := f.ups ++ [d] })[y]? = L[y]? := fun y hy => by
        refine List.getElem?_set_ne ?_
        rcases List.mem_cons.1 hy with rfl | hy
        · omega
        · have := a8.lt y hy; omega
      refine ⟨⟨_, g, List.getElem?_set_self hlt, by rw [hne p List.mem_cons_self]; exact a2, a3, a4, fun e he => ?_, ?_, a7⟩, a8.own a2 (by rw [hne p List.mem_cons_self]; exact a2) rfl rfl fun y hy => hne y (List.mem_cons_of_mem _ hy)⟩
      · rcases List.mem_append.1 he with he | he
        · exact a5 e he
        · rw [List.mem_singleton] at he
          subst he
          exact hd g a2
      · rw [List.nodup_append]
        refine ⟨a6, by simp, fun a ha b hb => ?_⟩
        rw [List.mem_singleton] at hb
        subst hb
        exact fun q => h2 (q ▸ ha)
    · have := Mz_set { f with ups := f.ups ++ [d] } hk
      unfold cost at this
      simp only [List.length_append, List.length_singleton] at this
      omega
    · rw [List.getElem?_set_self hlt] at hg
      injection hg with hg
      subst hg
      simp
  · refine ⟨L, j, fun s hs => ⟨s, by rw [hrun s hs, h1]; rfl, hs⟩, rfl, fun _ _ => rfl, fun g hg => ⟨[], by rw [hg]; simp⟩, h, by omega, fun g hg => ?_⟩
    rw [hk] at hg
    injection hg with hg
    subst hg
    exact h3
/-- P holds at least what L' holds. -/
def ExtP (P L' : List Fs) : Prop := ∀ (y : Nat) (g : Fs), L'[y]? = some g → ∃ h : Fs, P[y]? = some h ∧ g.consts <+: h.consts ∧ g.ups <+: h.ups
theorem ExtP.back {P L L' : List Fs} {ch : List Nat} (h : ExtP P L') (ha : ∀ y, y ∉ ch → L'[y]? = L[y]?) (hu : ∀ y g, y ∈ ch → L[y]? = some g → ∃ u, L'[y]? = some { g with ups := g.ups ++ u }) : ExtP P L := fun y g hg => by
  by_cases c : y ∈ ch
  · obtain ⟨u, e⟩ := hu y g c hg
    obtain ⟨h', q1, q2, q3⟩ := h y _ e
    exact ⟨h', q1, q2, (List.prefix_append _ _).trans q3⟩
  · exact h y g (by rw [ha y c]; exact hg)
theorem upvalue_go {name : List UInt8} (hnm : name ≠ []) : ∀ (ch : List Nat) (k m : Nat) (L : List Fs), Chn L (k :: ch) → ch.length < m → k ≤ 12 →
    ∃ (L' : List Fs) (u : Int), RunV (upvalueM m k name) L u L' ∧ UpR (k :: ch) L L' ∧ (0 ≤ u → ∀ g, L'[k]? = some g → u < g.ups.length) ∧ -1 ≤ u ∧ ∀ E, ScoL L ch E → (u < 0 → noUp E name) ∧ (0 ≤ u → ∀ P, ExtP P L' → upRel P E k name u)
  | ch, k, 0, L, h, hm, hk => by omega
  | [], k, m + 1, L, h, hm, hk => by
    obtain ⟨f, h1, h2, h3⟩ := h
    refine ⟨L, -1, fun s hs => ⟨s, ?_, hs⟩, ⟨rfl, fun _ _ => rfl, fun y g _ hg => ⟨[], by rw [hg]; simp⟩, ⟨f, h1, h2, h3⟩, by omega⟩, fun q => by omega, by omega, fun E hE => ⟨(fun _ q hq => by rw [show E = [] from hE] at hq; cases hq), fun q => by omega⟩⟩
    unfold upvalueM
    rw [hs.get h1]
    show (match f.parent with | none => _ | some p => _) = _
    rw [h2]
  | p :: r, k, m + 1, L, h, hm, hk => by
    obtain ⟨⟨f, g, a1, a2, a3, a4, a5, a6, a7⟩, a8⟩ := id h
    simp only [List.length_cons] at hm
    have hpk := a8.lt
    have hu : ∀ s, Rep s L → upvalueM (m + 1) k name s = (if slotAt g.locals name g.locals.length < 0 then bind2 (upvalueM m p name s) fun u s => (if u < 0 then some (-1, s) else upPut k (0, u8 u) s) else upPut k (1, u8 (slotAt g.locals name g.locals.length)) s) := fun s hs => by
      conv => lhs; unfold upvalueM
      rw [hs.get a1]
      show (match f.parent with | none => _ | some p => _) = _
      rw [a3]
      show bind1 (slotM p name s) _ = _
      rw [slot_run a2 name a7 hs]
      rfl
    rcases slotAt_ok g.locals name g.locals.length (Nat.le_refl _) with e | ⟨j, e, hj⟩
    · obtain ⟨L1, u, r1, r2, r3, r4, r5⟩ := upvalue_go hnm r p m L a8 (by omega) (by omega)
      have hkn : k ∉ p :: r := fun q => by
        rcases List.mem_cons.1 q with rfl | q
        · omega
        · have := hpk k q; omega
      have hk1 : L1[k]? = some f := by rw [r2.ag k hkn]; exact a1
      obtain ⟨uu, hp1⟩ := r2.up p g List.mem_cons_self a2
      have hch1 : Chn L1 (k :: p :: r) := ⟨⟨f, _, hk1, hp1, a3, a4, a5.mono rfl (by simp), a6, a7⟩, r2.cn⟩
      by_cases hu0 : u < 0
      · refine ⟨L1, -1, fun s hs => ?_, ⟨r2.ln, fun y hy => r2.ag y fun q => hy (List.mem_cons_of_mem _ q), fun y g hy hg => ?_, hch1, by have := r2.ms; simp only [List.length_cons] at this ⊢; omega⟩, fun q => by omega, by omega, fun E hE => ⟨fun _ q hq => ?_, fun q => by omega⟩⟩
        · obtain ⟨s1, e1, q1⟩ := r1 s hs
          refine ⟨s1, ?_, q1⟩
          rw [hu s hs, if_pos (by omega), e1]
          show (if u < 0 then _ else _) = _
          rw [if_pos hu0]
        · rcases List.mem_cons.1 hy with rfl | hy
          · rw [a1] at hg
            injection hg with hg
            subst hg
            exact ⟨[], by rw [hk1]; simp⟩
          · exact r2.up y g hy hg
        · obtain ⟨g', E', w1, rfl, w3⟩ := hE
          rw [a2] at w1
          injection w1 with w1
          subst w1
          rcases List.mem_cons.1 hq with rfl | hq
          · show slotAt g.locals name g.locals.length < 0
            omega
          · exact (r5 E' w3).1 hu0 q hq
      · have hub := r3 (by omega) _ hp1
        have hul := r2.cn.ups hp1
        have hcl := r2.cn.len
        have e8 : u8 u = u := u8_id (by omega)
        obtain ⟨L2, v, q1, q2, q3, q4, q5, q6, q7⟩ := upput_go (d := (0, u8 u)) hch1 (fun g' hg' => by
          rw [hp1] at hg'
          injection hg' with hg'
          subst hg'
          exact .inr ⟨rfl, by dsimp only; omega, by dsimp only; rw [e8]; exact hub⟩) hk
        refine ⟨L2, v, fun s hs => ?_, ⟨by rw [q2, r2.ln], fun y hy => ?_, fun y g hy hg => ?_, q5, by have := r2.ms; simp only [List.length_cons] at this ⊢; omega⟩, fun _ g hg => by have := lt_of (q7 g hg); omega, by omega, fun E hE => ⟨fun q => by omega, fun _ P hP => ?_⟩⟩
        · obtain ⟨s1, e1, w1⟩ := r1 s hs
          obtain ⟨s2, e2, w2⟩ := q1 s1 w1
          refine ⟨s2, ?_, w2⟩
          rw [hu s hs, if_pos (by omega), e1]
          show (if u < 0 then _ else _) = _
          rw [if_neg hu0]
          exact e2
        · rw [q3 y (fun q => hy (by rw [q]; exact List.mem_cons_self)), r2.ag y fun q => hy (List.mem_cons_of_mem _ q)]
        · rcases List.mem_cons.1 hy with rfl | hy
          · rw [a1] at hg
            injection hg with hg
            subst hg
            exact q4 _ hk1
          · obtain ⟨w, hw⟩ := r2.up y g hy hg
            exact ⟨w, by rw [q3 y (fun q => hkn (q ▸ hy)), hw]⟩
        · obtain ⟨g', E', w1, rfl, w3⟩ := hE
          rw [a2] at w1
          injection w1 with w1
          subst w1
          obtain ⟨g2, hg2⟩ := q5.at_
          obtain ⟨h', p1, p2, p3⟩ := hP k g2 hg2
          refine ⟨by omega, h', (0, u8 u), p1, by rw [Int.toNat_natCast]; exact pfx_at p3 (q7 g2 hg2), .inr ⟨?_, rfl, ?_⟩⟩
          · show slotAt g.locals name g.locals.length < 0
            omega
          · dsimp only
            rw [e8]
            exact (r5 E' w3).2 (by omega) P (hP.back (ch := [k]) (fun y hy => q3 y (fun q => hy (by rw [q]; exact List.mem_singleton.2 rfl))) (fun y g hy hg => by rw [List.mem_singleton] at hy; subst hy; exact q4 g hg))
    · have hjl := lt_of hj
      have e8 : u8 (slotAt g.locals name g.locals.length) = j := by rw [e]; exact u8_id (by omega)
      obtain ⟨L2, v, q1, q2, q3, q4, q5, q6, q7⟩ := upput_go (d := (1, u8 (slotAt g.locals name g.locals.length))) h (fun g' hg' => by
          rw [a2] at hg'
          injection hg' with hg'
          subst hg'
          refine .inl ⟨rfl, by dsimp only; omega, name, ?_, hnm⟩
          dsimp only
          rw [e8]
          exact hj) hk
      refine ⟨L2, v, fun s hs => ?_, ⟨q2, fun y hy => q3 y fun q => hy (by rw [q]; exact List.mem_cons_self), fun y g hy hg => ?_, q5, by simp only [List.length_cons]; omega⟩, fun _ g hg => by have := lt_of (q7 g hg); omega, by omega, fun E hE => ⟨fun q => by omega, fun _ P hP => ?_⟩⟩
      · obtain ⟨s2, e2, w2⟩ := q1 s hs
        refine ⟨s2, ?_, w2⟩
        rw [hu s hs, if_neg (by omega)]
        exact e2
      · rcases List.mem_cons.1 hy with rfl | hy
        · exact q4 g hg
        · refine ⟨[], ?_⟩
          rw [q3 y (fun q => by
            rcases List.mem_cons.1 hy with h1 | h1
            · omega
            · have := hpk y h1; omega), hg]
          simp
      · obtain ⟨g', E', w1, rfl, w3⟩ := hE
        rw [a2] at w1
        injection w1 with w1
        subst w1
        obtain ⟨g2, hg2⟩ := q5.at_
        obtain ⟨h', p1, p2, p3⟩ := hP k g2 hg2
        refine ⟨by omega, h', _, p1, by rw [Int.toNat_natCast]; exact pfx_at p3 (q7 g2 hg2), .inl ⟨?_, ?_⟩⟩
        · show 0 ≤ slotAt g.locals name g.locals.length
          omega
        · rw [e8]
          show _ = ((1 : Int), slotAt g.locals name g.locals.length)
          rw [e]
end Go.Wl
