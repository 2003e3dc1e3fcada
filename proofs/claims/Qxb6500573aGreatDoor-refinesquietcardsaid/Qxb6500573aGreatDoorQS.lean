/- Plain: the image of what is compiled: the front end answers. -/
import Derived.Test.Qxb6500573aGreatDoorQR
import Derived.Test.Qxb6500573aGreatDoorCN
namespace Go.Wl
open Go Go.Sl Go.Proofs
set_option linter.unusedVariables false
theorem pg_fold : ∀ (L : List Fs) (g : Pg), ∃ ps : List Pr, L.foldl pgAdd g = ⟨g.protos ++ ps, g.descs ++ L.flatMap (·.ups), g.consts ++ L.flatMap (·.consts), g.code ++ L.flatMap (·.code)⟩ ∧ ps.length = L.length ∧
    ∀ (j : Nat) f, L[j]? = some f → ps[j]? = some ⟨f.nparams, f.nslots, ((g.descs.length + ((L.take j).flatMap (·.ups)).length : Nat) : Int), (f.ups.length : Int), ((g.consts.length + ((L.take j).flatMap (·.consts)).length : Nat) : Int), (f.consts.length : Int), ((g.code.length + ((L.take j).flatMap (·.code)).length : Nat) : Int), (f.code.length : Int)⟩
  | [], g => ⟨[], by simp, rfl, fun j f h => by cases h⟩
  | f0 :: L, g => by
    obtain ⟨ps, h1, h2, h3⟩ := pg_fold L (pgAdd g f0)
    refine ⟨⟨f0.nparams, f0.nslots, g.descs.length, f0.ups.length, g.consts.length, f0.consts.length, g.code.length, f0.code.length⟩ :: ps, ?_, by simp [h2], fun j f hf => ?_⟩
    · rw [List.foldl_cons, h1]
      simp [pgAdd]
    · cases j with
      | zero =>
        injection hf with hf
        subst hf
        simp
      | succ j =>
        have := h3 j f hf
        rw [List.getElem?_cons_succ, this]
        simp [pgAdd]
        omega
theorem flatm_at {α : Type} {L : List Fs} {j : Nat} {f : Fs} (F : Fs → List α) (h : L[j]? = some f) : L.flatMap F = (L.take j).flatMap F ++ (F f ++ (L.drop (j + 1)).flatMap F) := by
  obtain ⟨h1, h2⟩ := List.getElem?_eq_some_iff.1 h
  have e : L = L.take j ++ (f :: L.drop (j + 1)) := by
    conv => lhs; rw [← List.take_append_drop j L]
    rw [List.drop_eq_getElem_cons h1, h2]
  conv => lhs; rw [e]
  rw [List.flatMap_append, List.flatMap_cons]
theorem cbs_lay : ∀ l : List V, (∀ v, v ∈ l → okC v) → (l.flatMap layC).length = cbs l
  | [], h => rfl
  | v :: l, h => by
    rw [List.flatMap_cons, List.length_append, cbs_lay l fun u hu => h u (List.mem_cons_of_mem _ hu)]
    show (layC v).length + cbs l = cb v + cbs l
    congr 1
    unfold layC cb
    split
    · simp
    · simp
      omega
theorem lay_len {f : Fs} (h : ∀ v, v ∈ f.consts → okC v) : (layFn f).length = cost f := by
  have e1 : ∀ l : List (Int × Int), (l.flatMap layU).length = 2 * l.length := fun l => by
    induction l with
    | nil => rfl
    | cons a l ih => rw [List.flatMap_cons, List.length_append, ih]; simp [layU]; omega
  have e2 : ∀ l : List In, (l.flatMap layI).length = 3 * l.length := fun l => by
    induction l with
    | nil => rfl
    | cons a l ih => rw [List.flatMap_cons, List.length_append, ih]; simp [layI]; omega
  unfold layFn cost
  simp only [List.length_append, e1, e2, cbs_lay _ h, List.length_cons, List.length_nil, p16]
  omega
theorem lays_len : ∀ {L : List Fs}, (∀ f, f ∈ L → ∀ v, v ∈ f.consts → okC v) → (L.flatMap layFn).length = Mz L
  | [], h => rfl
  | f :: L, h => by
    rw [List.flatMap_cons, List.length_append, lay_len (h f List.mem_cons_self), lays_len fun g hg => h g (List.mem_cons_of_mem _ hg)]
    rfl
theorem ins_op {g : Pg} {p : Pr} {T : Nat → Ty} {pc : Nat} {op x : Int} (h : InsOk g p T pc op x) : 0 ≤ op ∧ op < 256 := by cases h <;> omega
theorem okC_vv {v : V} (h : okC v) : VV 0 0 0 v := by
  obtain ⟨t, n, s⟩ := v
  rcases h with ⟨h1, h2, h3⟩ | ⟨h1, h2, h3⟩
  · dsimp only at h1 h2 h3
    subst h1 h2
    exact VV.numb h3
  · dsimp only at h1 h2 h3
    subst h1 h2
    exact VV.str h3
theorem sum_le (F : Fs → Nat) (hF : ∀ f, F f ≤ cost f) {α : Type} (G : Fs → List α) (hG : ∀ f, (G f).length = F f) : ∀ L : List Fs, (L.flatMap G).length ≤ Mz L
  | [] => Nat.le_refl _
  | f :: L => by
    have := sum_le F hF G hG L
    have := hF f
    rw [List.flatMap_cons, List.length_append, hG]
    unfold Mz
    omega
/-- Functions in form make a program in form. -/
theorem pg_ok {L : List Fs} (hl : 1 ≤ L.length ∧ L.length ≤ 13) (hd : DN L 0 L.length) (hM : Mz L ≤ 31000) (hm : ∀ f, L[0]? = some f → f.nparams = 0 ∧ f.ups = []) : (∃ PT, PgOk (pgOf L) PT) ∧ Rows (L.length : Int) (L.map rw) := by
  obtain ⟨ps, e1, e2, e3⟩ := pg_fold L ⟨[], [], [], []⟩
  have hg : pgOf L = ⟨ps, L.flatMap (·.ups), L.flatMap (·.consts), L.flatMap (·.code)⟩ := by
    unfold pgOf
    rw [e1]
    simp
  simp only [List.length_nil, Nat.zero_add] at e3
  have hcost : ∀ (x : Nat) f, L[x]? = some f → 2 * f.ups.length + cbs f.consts + 3 * f.code.length + 7 ≤ 31000 := fun x f hf => by
    have := Mz_ge hf
    unfold cost at this
    omega
  have hfn : ∀ (x : Nat) f, L[x]? = some f → FnOk L x L.length f := fun x f hf => hd x f (Nat.zero_le _) (lt_of hf) hf
  have hmem : ∀ f, f ∈ L → ∃ x : Nat, L[x]? = some f := fun f hf => by
    obtain ⟨i, hi, e⟩ := List.mem_iff_getElem.1 hf
    exact ⟨i, by rw [List.getElem?_eq_getElem hi, e]⟩
  -- the environment of each
  have hdesc : ∀ (y : Nat) (h : Fs), L[y]? = some h → ∃ q : Pr, (pgOf L).protos[y]? = some q ∧ ((pgOf L).descs.drop q.up.toNat).take q.nup.toNat = h.ups := fun y h hy => by
    rw [hg]
    refine ⟨_, e3 y h hy, ?_⟩
    dsimp only
    rw [Int.toNat_natCast, Int.toNat_natCast, flatm_at (·.ups) hy, List.drop_left, List.take_left]
  have henv : ∀ (j : Nat) (f : Fs) (p : Pr), L[j]? = some f → (pgOf L).protos[j]? = some p → EnvF (pgOf L) p f ∧ p.ncode = f.code.length := fun j f p hf hp => by
    rw [hg] at hp
    dsimp only at hp
    rw [e3 j f hf] at hp
    injection hp with hp
    subst hp
    refine ⟨⟨Int.le_refl _, Int.le_refl _, fun x c hc => ⟨by have := lt_of hc; dsimp only; omega, ?_⟩⟩, rfl⟩
    rw [hg]
    dsimp only
    rw [flatm_at (·.consts) hf, show (((L.take j).flatMap (·.consts)).length + (x : Int)).toNat = ((L.take j).flatMap (·.consts)).length + x from by omega, List.getElem?_append_right (by omega), Nat.add_sub_cancel_left, List.getElem?_append_left (lt_of hc)]
    exact hc
  have hT : ∀ j, ∃ T : Nat → Ty, ∀ p, (pgOf L).protos[j]? = some p → PrOk (pgOf L) p T := fun j => by
    by_cases hj : j < L.length
    · obtain ⟨f, hf⟩ : ∃ f, L[j]? = some f := ⟨_, List.getElem?_eq_getElem hj⟩
      have hok := hfn j f hf
      have hc := hcost j f hf
      obtain ⟨p, hp⟩ : ∃ p, (pgOf L).protos[j]? = some p := by
        obtain ⟨q, h1, _⟩ := hdesc j f hf
        exact ⟨q, h1⟩
      obtain ⟨hE, hN⟩ := henv j f p hf hp
      obtain ⟨T, t1, t2⟩ := hok.ty (pgOf L) p hE (fun y h _ _ hy => hdesc y h hy) hN
      refine ⟨T, fun p' hp' => ?_⟩
      rw [hp] at hp'
      injection hp' with hp'
      subst hp'
      have hcn := hok.cn
      have hpe : p = ⟨f.nparams, f.nslots, (((L.take j).flatMap (·.ups)).length : Int), (f.ups.length : Int), (((L.take j).flatMap (·.consts)).length : Int), (f.consts.length : Int), (((L.take j).flatMap (·.code)).length : Int), (f.code.length : Int)⟩ := by
        rw [hg] at hp
        dsimp only at hp
        rw [e3 j f hf] at hp
        injection hp with hp
        exact hp.symm
      have hcodeat : ∀ pc i, f.code[pc]? = some i → (pgOf L).code[p.code.toNat + pc]? = some i := fun pc i hi => by
        rw [hg, hpe]
        dsimp only
        rw [Int.toNat_natCast, flatm_at (·.code) hf, List.getElem?_append_right (by omega), Nat.add_sub_cancel_left, List.getElem?_append_left (lt_of hi)]
        exact hi
      have l1 : ((L.take j).flatMap (·.ups)).length + f.ups.length ≤ (L.flatMap (·.ups)).length := by rw [flatm_at (·.ups) hf]; simp only [List.length_append]; omega
      have l2 : ((L.take j).flatMap (·.consts)).length + f.consts.length ≤ (L.flatMap (·.consts)).length := by rw [flatm_at (·.consts) hf]; simp only [List.length_append]; omega
      have l3 : ((L.take j).flatMap (·.code)).length + f.code.length ≤ (L.flatMap (·.code)).length := by rw [flatm_at (·.code) hf]; simp only [List.length_append]; omega
      have hnp := hok.np
      have hul := hok.ul
      refine ⟨by rw [hpe]; dsimp only; omega, by rw [hpe, hg]; dsimp only; omega, by rw [hpe, hg]; dsimp only; omega, by rw [hpe, hg]; dsimp only; omega, fun pc hpc => ?_, t1, fun pc hpc => ?_⟩
      · obtain ⟨i, hi⟩ : ∃ i, f.code[pc]? = some i := ⟨_, List.getElem?_eq_getElem (by omega)⟩
        obtain ⟨_, h2, h3⟩ := t2 pc i hi
        exact ⟨i, hcodeat pc i hi, h2, h3⟩
      · obtain ⟨i, hi⟩ : ∃ i, f.code[pc]? = some i := ⟨_, List.getElem?_eq_getElem (by omega)⟩
        exact (t2 pc i hi).1
    · refine ⟨fun _ => ⟨[], []⟩, fun p hp => ?_⟩
      rw [hg] at hp
      have := lt_of hp
      dsimp only at this
      omega
  obtain ⟨PT, hPT⟩ := Classical.axiomOfChoice hT
  refine ⟨⟨PT, ?_, fun j p hp => hPT j p hp, fun p hp => ?_, fun v hv => ?_, ?_, fun d hd2 => ?_⟩, ?_, by simp, fun r hr => ?_, ?_, ?_⟩
  · rw [hg]; dsimp only; omega
  · obtain ⟨f, hf⟩ : ∃ f, L[0]? = some f := ⟨_, List.getElem?_eq_getElem (by omega)⟩
    rw [hg] at hp
    dsimp only at hp
    rw [e3 0 f hf] at hp
    injection hp with hp
    subst hp
    dsimp only
    rw [(hm f hf).2]
    rfl
  · rw [hg] at hv
    obtain ⟨f, h1, h2⟩ := List.mem_flatMap.1 hv
    obtain ⟨x, hx⟩ := hmem f h1
    exact okC_vv ((hfn x f hx).ko.cs v h2)
  · rw [hg]
    dsimp only
    have s1 := sum_le (fun f => f.consts.length) (fun f => by have := cbs_ge f.consts; unfold cost; omega) (·.consts) (fun _ => rfl) L
    have s2 := sum_le (fun f => f.code.length) (fun f => by unfold cost; omega) (·.code) (fun _ => rfl) L
    have s3 := sum_le (fun f => f.ups.length) (fun f => by unfold cost; omega) (·.ups) (fun _ => rfl) L
    omega
  · rw [hg] at hd2
    obtain ⟨f, h1, h2⟩ := List.mem_flatMap.1 hd2
    obtain ⟨x, hx⟩ := hmem f h1
    have := (hfn x f hx).us d h2
    omega
  · omega
  · obtain ⟨f, h1, rfl⟩ := List.mem_map.1 hr
    obtain ⟨x, hx⟩ := hmem f h1
    have hok := hfn x f hx
    have hc := hcost x f hx
    have hk := cbs_ge f.consts
    refine ⟨hok.np, hok.ul, hok.us, by show f.consts.length < 65536; omega, hok.ko.cs, by show f.code.length < 65536; omega, fun i hi => ?_⟩
    obtain ⟨p, hp⟩ : ∃ p, (pgOf L).protos[x]? = some p := by
      obtain ⟨q, h1, _⟩ := hdesc x f hx
      exact ⟨q, h1⟩
    obtain ⟨hE, hN⟩ := henv x f p hx hp
    obtain ⟨T, t1, t2⟩ := hok.ty (pgOf L) p hE (fun y h _ _ hy => hdesc y h hy) hN
    obtain ⟨pc, hpc, e⟩ := List.mem_iff_getElem.1 hi
    obtain ⟨_, h2, h3⟩ := t2 pc i (by show f.code[pc]? = some i; rw [← e]; exact List.getElem?_eq_getElem hpc)
    have := ins_op h3
    omega
  · rw [← pgOf_R, hg]
    obtain ⟨f, hf⟩ : ∃ f, L[0]? = some f := ⟨_, List.getElem?_eq_getElem (by omega)⟩
    have hp := e3 0 f hf
    cases hps : ps with
    | nil => rw [hps] at hp; cases hp
    | cons p0 ps' =>
      rw [hps] at hp
      injection hp with hp
      subst hp
      unfold okPg
      dsimp only
      rw [(hm f hf).1, (hm f hf).2]
      rfl
  · rw [List.flatMap_map]
    have : (L.flatMap fun a => layFnR (rw a)).length = Mz L := lays_len (L := L) fun f hf v hv => by
      obtain ⟨x, hx⟩ := hmem f hf
      exact (hfn x f hx).ko.cs v hv
    rw [this]
    omega
/-- What the front end makes of any text. -/
theorem front_all (src : List UInt8) : FrontK src := by
  rcases front_nodes src with ⟨e, a, h1, h2, h3, h4⟩ | ⟨hl, ns, root, n, al, hi, h1, h2, h3, h4, h5, h6⟩
  · refine .inl ⟨e, a, ?_, h2, h3, fun c hc => ?_⟩
    · unfold isSynE
      exact decide_eq_true h1
    · obtain ⟨toks, ns, hp⟩ := h4 c.toks c.nodes
      refine ⟨{ c with toks := toks, nodes := ns }, ?_, hc⟩
      unfold imgM
      rw [hp]
      rfl
  · obtain ⟨L, g1, g2, g3, g4, g5, g6⟩ := comp_all h4 h2 h3 h1 h5
    obtain ⟨⟨PT, hP⟩, hR⟩ := pg_ok (L := L) (by omega) g3 g4 g5
    refine .inr ⟨hl, ?_⟩
    have him : ∀ s : CS, Rep s L → ∃ im, imageM s = some im ∧ im.length ≤ 32768 ∧ decM im ⟨[], [], [], []⟩ = some (pgR (L.map rw)) ∧ im = ([u8 (L.length : Int)] ++ L.flatMap layFn).map toB := fun s hs => by
      have htk : s.fs.take s.np.toNat = L := by
        rw [hs.np, Int.toNat_natCast]
        apply List.ext_getElem?
        intro i
        by_cases hi : i < L.length
        · rw [List.getElem?_take_of_lt hi]; exact hs.tk i hi
        · rw [List.getElem?_eq_none (by simp; omega), List.getElem?_eq_none (by omega)]
      obtain ⟨im, i1, i2, i3⟩ := image_rows hR hs.np (by rw [htk]) hs.len
      refine ⟨im, i1, i2, i3, ?_⟩
      unfold imageM at i1
      split at i1
      · injection i1 with i1
        rw [← i1]
        unfold layM
        rw [htk, hs.np]
      · cases i1
    obtain ⟨s0, _, hs0⟩ := g1 cst0.s (by rfl)
    obtain ⟨im, i1, i2, i3, i4⟩ := him s0 hs0
    refine ⟨im, pgR (L.map rw), PT, by rw [← pgOf_R]; exact hP, i2, i3, fun c hc => ?_⟩
    obtain ⟨toks, hp⟩ := h6 c.toks c.nodes
    obtain ⟨s1, w1, w2⟩ := g1 c.s hc
    obtain ⟨im2, k1, k2, k3, k4⟩ := him s1 w2
    have : im2 = im := by rw [k4, i4]
    subst this
    refine ⟨⟨toks, ns, s1, layM s1⟩, ?_, w2.len⟩
    unfold imgM
    rw [hp]
    show (if ns.length ≤ 1000000 then _ else _) = _
    rw [if_pos (by omega)]
    show bind1 (compM 100000 ns root c.s) _ = _
    rw [w1]
    show bind1 (imageM s1) _ = _
    rw [k1]
    rfl
end Go.Wl
