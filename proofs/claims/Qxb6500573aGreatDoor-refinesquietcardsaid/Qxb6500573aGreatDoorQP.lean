/- Plain: the compiler: functions. -/
import Derived.Test.Qxb6500573aGreatDoorQO
namespace Go.Wl
open Go Go.Sl Go.Proofs
set_option linter.unusedVariables false
def frs (p : Option Nat) : Fs := ⟨true, p, 0, [], 0, [], [], [], [], [], []⟩
theorem fresh_run {L : List Fs} {p : Option Nat} (h12 : L.length ≤ 12) : RunQ (freshM L.length p) L (L ++ [frs p]) := fun s hs => by
  refine ⟨⟨max s.np ((L.length : Int) + 1), s.fs.set L.length (frs p)⟩, ?_, ⟨?_, by simpa using hs.len, by simp; omega, fun x hx => ?_, fun f hf => ?_⟩⟩
  · unfold freshM
    rw [List.getElem?_eq_getElem (by have := hs.len; omega)]
    rfl
  · rw [hs.np]
    simp only [List.length_append, List.length_singleton]
    omega
  · rw [List.length_append, List.length_singleton] at hx
    dsimp only
    by_cases e : L.length = x
    · subst e
      rw [List.getElem?_set_self (by have := hs.len; omega), List.getElem?_append_right (Nat.le_refl _), Nat.sub_self]
      rfl
    · rw [List.getElem?_set_ne e, List.getElem?_append_left (by omega)]
      exact hs.tk x (by omega)
  · rcases List.mem_append.1 hf with hf | hf
    · exact hs.lv f hf
    · rw [List.mem_singleton] at hf; subst hf; rfl
theorem put_run {L : List Fs} {k : Nat} {f f' : Fs} (hk : L[k]? = some f) (hl : f'.live = f.live) {F : CS → Option CS} (hF : ∀ s, s.get k = some f → F s = some (s.put k f')) : RunQ F L (L.set k f') := fun s hs =>
  ⟨_, hF s (hs.get hk), hs.put hk (by rw [hl]; exact hs.lv f (List.mem_of_getElem? hk))⟩
section
variable {ns : List Nd}
theorem ps_run : ∀ (len : Nat) {lo hi n n' : Nat} {r : Int} (L : List Fs) (k : Nat) (f : Fs) (e : Nat) (j : Int), Nn ns (.ps len) lo hi r n n' → L[k]? = some f → hi - lo + 1 ≤ e → f.locals.length + len ≤ 12 → ((f.locals.length : Int) ≤ f.nslots ∧ f.nslots ≤ 12) →
    ∃ (nw : List (List UInt8)) (sl : Int), RunV (eachM ns (aliveC k) (paramM ns k) e r j) L (j + len) (L.set k { f with locals := f.locals ++ nw, nslots := sl }) ∧ nw.length = len ∧ (∀ x, x ∈ nw → x ≠ []) ∧ (((f.locals ++ nw).length : Int) ≤ sl ∧ sl ≤ 12) ∧ ∃ e', parS ns e' r nw
  | 0, lo, hi, n, n', r, L, k, f, e, j, h, hk, he, hl, hs => by
    obtain ⟨e, rfl⟩ : ∃ i, e = i + 1 := ⟨e - 1, by omega⟩
    have hr : r = 0 := by cases h; rfl
    subst hr
    refine ⟨[], f.nslots, fun s h1 => ⟨s, ?_, ?_⟩, rfl, (fun x hx => by cases hx), by simp; omega, 1, by unfold parS; rw [if_pos rfl]⟩
    · unfold eachM
      rw [if_pos rfl]
      congr 2
      simp
    · have e1 : ({ f with locals := f.locals ++ [], nslots := f.nslots } : Fs) = f := by rw [List.append_nil]
      rw [e1, show L.set k f = L from by
        apply List.ext_getElem?
        intro i
        by_cases q : k = i
        · subst q; rw [List.getElem?_set_self (lt_of hk), hk]
        · rw [List.getElem?_set_ne q]]
      exact h1
  | len + 1, lo, hi, n, n', r, L, k, f, e, j, h, hk, he, hl, hs => by
    obtain ⟨e, rfl⟩ : ∃ i, e = i + 1 := ⟨e - 1, by omega⟩
    obtain ⟨m, d, rfl, h1, h2, h3, h4, h5⟩ := ps_inv h
    have hlt := lt_of hk
    obtain ⟨nw, sl, g1, g2, g3, g4, e', g5⟩ := ps_run len (L.set k { f with locals := f.locals ++ [d.s], nslots := max f.nslots ((f.locals.length : Int) + 1) }) k { f with locals := f.locals ++ [d.s], nslots := max f.nslots ((f.locals.length : Int) + 1) } e (j + 1) h5 (List.getElem?_set_self hlt) (by omega) (by simp; omega) (by simp; omega)
    dsimp only at g1 g4
    rw [List.set_set] at g1
    refine ⟨d.s :: nw, sl, fun s hr => ?_, by simp [g2], fun x hx => ?_, ?_, e' + 1, ?_⟩
    · have hp : paramM ns k m s = some (s.put k { f with locals := f.locals ++ [d.s], nslots := max f.nslots ((f.locals.length : Int) + 1) }) := by
        unfold paramM
        rw [hr.get hk, nd_nat, h1]
        show bind2 (declareM k d.s s) _ = _
        unfold declareM
        rw [hr.get hk]
        show bind2 (if _ then _ else _) _ = _
        rw [if_pos (by omega)]
        rfl
      have hr1 := hr.put hk (f' := { f with locals := f.locals ++ [d.s], nslots := max f.nslots ((f.locals.length : Int) + 1) }) (hr.lv f (List.mem_of_getElem? hk))
      obtain ⟨s2, w1, w2⟩ := g1 _ hr1
      refine ⟨s2, ?_, ?_⟩
      · unfold eachM
        rw [if_neg (by omega), hp]
        show (if aliveC k _ = true then _ else _) = _
        rw [if_pos (alive_ok hr1 (List.getElem?_set_self hlt)), nd_nat, h1]
        show eachM ns (aliveC k) (paramM ns k) e d.next (j + 1) _ = _
        rw [w1]
        congr 2
        omega
      · rw [List.append_assoc] at w2
        exact w2
    · rcases List.mem_cons.1 hx with rfl | hx
      · exact h2.1
      · exact g3 x hx
    · rw [List.append_assoc] at g4
      exact g4
    · unfold parS
      rw [if_neg (by omega)]
      exact ⟨d, nw, (nd_nat ns m).trans h1, rfl, g5⟩
theorem le_none {t : Ty} {n : Nat} (h : (⟨[], List.replicate n 0⟩ : Ty).le t) : t.st = [] ∧ ∀ s : Nat, t.z[s]? ≠ some 2 := by
  refine ⟨List.length_eq_zero_iff.1 h.1.1.symm, fun s q => ?_⟩
  have := h.2.2 s q
  rw [List.getElem?_replicate] at this
  split at this
  · cases this
  · cases this
/-- A function's body. -/
theorem body_go {len al' lo hi n n' : Nat} {r : Int} (h : BsL ns len false al' lo hi r n n') (hlh : lo ≤ hi) {m k B : Nat} {ch : List Nat} {L : List Fs} {f : Fs} (hm : hi + 1 ≤ m ∧ hi ≤ 1000) (hns : hi < ns.length) (hn : n' ≤ 12) (hB : B + 100 * (hi - lo) + 20 ≤ 40000) (hI : Inv ns k ch L f n B) (hnm : ∀ x, x ∈ f.locals → x ≠ []) (hal : f.locals.length = len) (hlo : f.loops = []) (hco : f.code = []) :
    ∃ (L' : List Fs) (f' : Fs), Go ns k ch (bodyM ns (recC ns m) k r) L f L' f' n' (B + 100 * (hi - lo) + 12) ∧ 0 < f'.code.length ∧
      (∀ g p, EnvF g p f' → EnvC g L' L.length L'.length → p.ncode = f'.code.length → ∃ T : Nat → Ty, ((T 0).st = [] ∧ ∀ s : Nat, (T 0).z[s]? ≠ some 2) ∧ ∀ pc i, f'.code[pc]? = some i → ((T pc).st.length ≤ 128 ∧ (T pc).z.length ≤ p.nslots.toNat) ∧ (0 ≤ i.2 ∧ i.2 ≤ 65535) ∧ InsOk g p T pc i.1 i.2) ∧
      ∀ P Es, FinE P L' L.length → ScoL L ch Es → LiesAt P k 0 f'.code → Evs fun m => ∃ p1, blkS ns P (recS ns P m) k Es f.locals none 0 r p1 ∧ insP P k p1 = some (2, 0) ∧ insP P k (p1 + 1) = some (2, 0) ∧ insP P k (p1 + 2) = some (27, 0) ∧ f'.code.length = p1 + 3 ∧ f'.locals.length = f.locals.length ∧ f'.loops = [] := by
  have hz : Zl (List.replicate len 0) f.locals := ⟨by simp [hal], fun s nm hs _ => by
    have := lt_of hs
    rw [List.getElem?_replicate, if_pos (by omega)]⟩
  obtain ⟨L1, f1, cb, b1, b2, b3, b4, b5, b6⟩ := block_go h hlh (m := m) (bt := ⟨[], []⟩) hm hns hn (by omega) hI hz hal (by rw [hlo]; simp) (fun q => by cases q)
  obtain ⟨L2, e1⟩ := emit_to b1.inv [((2 : Int), (0 : Int)), (2, 0), (27, 0)] rfl (by simp; omega)
  rw [hco, List.nil_append] at b3
  rw [hco] at b5
  have hgo := Go.trans b1 e1
  have hcode : f1.code ++ [((2 : Int), (0 : Int)), (2, 0), (27, 0)] = (fill 65535 cb ++ [((2 : Int), (0 : Int)), (2, 0)]) ++ [((27 : Int), (0 : Int))] := by rw [b3]; simp
  have hno : ∀ b, fill b cb = fill 65535 cb := fun b => by
    have := (b4.1 rfl).2
    unfold fill
    refine List.map_congr_left fun x hx => ?_
    have hx2 := this x hx
    cases x with
    | none => cases hx2
    | some y => rfl
  refine ⟨L2, _, (hgo.congr fun s hs => rfl).mono (by simp), by simp, fun g p hF hC hN => ?_, fun P Es hF hEs hA => ?_⟩
  rotate_left
  · dsimp only at hA
    rw [b3] at hA
    have t := b6 P Es 65535 none (hF.back e1.stp b1.inv.at_ e1.inv.at_ b1.stp.kl.1) hEs (fun q => by cases q) (hA.left.atE (by rw [hco]; rfl))
    rw [hco] at t
    refine t.of fun m h => ⟨_, h, hA.right.ins (j := 0) rfl ?_, hA.right.ins (j := 1) rfl ?_, hA.right.ins (j := 2) rfl ?_, ?_, ?_, ?_⟩
    · rw [fill_len]; rfl
    · rw [fill_len]; rfl
    · rw [fill_len]; rfl
    · show (f1.code ++ [((2 : Int), (0 : Int)), (2, 0), (27, 0)]).length = _
      rw [List.length_append, b3, fill_len]
      simp
    · show f1.locals.length = _
      rw [b2]
    · show f1.loops = _
      rw [(b4.1 rfl).1, hlo]
  have hzz := z_le hI hz hF hgo.stp.fx
  have k1 := (b5 65535 [] (fun q => by cases q)).up (a' := L.length) e1.stp b1.stp.kl.1 (Nat.le_refl _) g p hF hC
  have k2 : Ck g p [] 128 0 (fill 65535 cb ++ [((2 : Int), (0 : Int)), (2, 0)]) ⟨[], List.replicate len 0⟩ ⟨[false, false], List.replicate len 0⟩ :=
    Ck.app (t1 := ⟨[], List.replicate len 0⟩) k1 (Ck.app (l := [((2 : Int), (0 : Int))]) (t1 := ⟨[false], List.replicate len 0⟩) (ck_zero (by simp) hzz) (ck_zero (st := [false]) (by simp) hzz))
  obtain ⟨ts, t1, t2, t3, t4⟩ := k2
  dsimp only at hN ⊢
  rw [hcode] at hN ⊢
  generalize hC0 : fill 65535 cb ++ [((2 : Int), (0 : Int)), (2, 0)] = C0 at hN t1 t4
  rw [List.length_append, List.length_singleton] at hN
  obtain ⟨T, hT⟩ : ∃ T : Nat → Ty, T = fun pc => ((ts ++ [(⟨[false, false], List.replicate len 0⟩ : Ty)])[pc]?).getD ⟨[], []⟩ := ⟨_, rfl⟩
  have hTj : ∀ j t, (ts ++ [(⟨[false, false], List.replicate len 0⟩ : Ty)])[j]? = some t → T j = t := fun j t h => by rw [hT]; dsimp only; rw [h]; rfl
  have hTe : T C0.length = ⟨[false, false], List.replicate len 0⟩ := hTj _ _ (by rw [← t1]; simp)
  refine ⟨T, ?_, fun pc i hi => ?_⟩
  · obtain ⟨x, hx⟩ : ∃ x, (ts ++ [(⟨[false, false], List.replicate len 0⟩ : Ty)])[0]? = some x := ⟨_, List.getElem?_eq_getElem (by simp)⟩
    rw [hTj 0 x hx]
    exact le_none (t2 x hx)
  · by_cases hpc : pc < C0.length
    · rw [List.getElem?_append_left hpc] at hi
      have h1 := t4 T (fun j t hj => by rw [Nat.zero_add]; exact hTj j t (by rw [List.getElem?_append_left (lt_of hj)]; exact hj)) (by rw [Nat.zero_add, hTe]; exact Ty.le_refl _) (fun x hx => by cases hx) (by omega) pc i hi
      rw [Nat.zero_add] at h1
      obtain ⟨x, hx⟩ : ∃ x, ts[pc]? = some x := ⟨_, List.getElem?_eq_getElem (by omega)⟩
      have hTp := hTj pc x (by rw [List.getElem?_append_left (lt_of hx)]; exact hx)
      exact ⟨by rw [hTp]; exact t3 x (List.mem_of_getElem? hx), h1⟩
    · rw [List.getElem?_append_right (by omega)] at hi
      have hlt := lt_of hi
      rw [List.length_singleton] at hlt
      have hpe : pc = C0.length := by omega
      subst hpe
      rw [Nat.sub_self] at hi
      injection hi with hi
      subst hi
      exact ⟨by rw [hTe]; exact ⟨by simp, hzz⟩, in0, .ret (st := []) (a := false) (b := false) (by rw [hTe]; rfl)⟩
theorem ex_func {q lo m1 m2 hi n n' len al : Nat} {a nx rp rb : Int} (hd : ns[hi]? = some ⟨20, rp, rb, 0, nx, (n : Int) + 1, [], a⟩) (hp : Nn ns (.ps len) lo m1 rp n n) (hb : BsL ns len false al m1 m2 rb (n + 1) n') (hl1 : lo ≤ m1) (hl2 : m1 ≤ m2) (hl : m2 < hi) (hhi : hi ≤ 1000) (hq : 1 ≤ q) (hl3 : len ≤ 3) (hn : n < 12) : ExL ns q lo hi hi n n' := by
  intro m k B ch L f z hm hn' hB hI hz
  have hns := lt_of hd
  obtain ⟨m, rfl⟩ : ∃ j, m = j + 1 := ⟨m - 1, by omega⟩
  have hln := hI.ln
  have hkl := lt_of hI.at_
  have hal := hI.al
  obtain ⟨nw, sl, g1, g2, g3, g4, e', g5⟩ := ps_run len (L ++ [frs (some k)]) L.length (frs (some k)) (ns.length + 1) 0 hp (by simp) (by omega) (by simp [frs]; omega) (by simp [frs])
  rw [show (frs (some k)).locals ++ nw = nw from rfl] at g1 g4
  obtain ⟨f0, hf0⟩ : ∃ f0 : Fs, f0 = { frs (some k) with locals := nw, nslots := sl, nparams := (len : Int) } := ⟨_, rfl⟩
  have hset : ∀ x : Fs, (L ++ [frs (some k)]).set L.length x = L ++ [x] := fun x => by simp
  rw [hset] at g1
  have hat : ∀ y, y < L.length → (L ++ [f0])[y]? = L[y]? := fun y hy => List.getElem?_append_left hy
  have hnum : (L ++ [f0])[L.length]? = some f0 := by simp
  have hcl : ∀ y, y ∈ k :: ch → y < L.length := fun y hy => by
    rcases List.mem_cons.1 hy with rfl | hy
    · exact hkl
    · have := hI.ch.lt y hy; omega
  have hchn : Chn (L ++ [f0]) (k :: ch) := hI.ch.own hI.at_ (by rw [hat k hkl]; exact hI.at_) rfl rfl fun y hy => hat y (hcl y (List.mem_cons_of_mem _ hy))
  have hI0 : Inv ns L.length (k :: ch) (L ++ [f0]) f0 (n + 1) (B + 7) := by
    refine ⟨by simp; omega, hnum, ⟨⟨f0, f, hnum, by rw [hat k hkl]; exact hI.at_, by rw [hf0]; rfl, hkl, (by rw [hf0]; exact fun d hd => by cases hd), by rw [hf0]; exact List.nodup_nil, by omega⟩, hchn⟩, (by rw [hf0]; exact ⟨(fun b i h => by cases h), (fun t i h => by cases h), (fun v hv => by cases hv), (fun i v hv => by cases hv), rfl⟩), by rw [hf0]; exact g4, (by rw [hf0]; exact fun v hv => by cases hv), ?_⟩
    rw [Mz_app]
    have : Mz [f0] = 7 := by rw [hf0]; rfl
    rw [this]
    have := hI.ms
    omega
  obtain ⟨L2, f2, b1, b2, b3, b4⟩ := body_go hb hl2 (m := m) (by omega) (by omega) hn' (by omega) hI0 (by rw [hf0]; exact g3) (by rw [hf0]; exact g2) (by rw [hf0]; rfl) (by rw [hf0]; rfl)
  obtain ⟨u, hku⟩ := b1.stp.up k f List.mem_cons_self (by rw [hat k hkl]; exact hI.at_)
  have hchn2 := b1.inv.ch
  obtain ⟨⟨fc, fp, c1, c2, c3, c4, c5, c6, c7⟩, c8⟩ := hchn2
  have hf2 := b1.inv.at_
  rw [hf2] at c1
  injection c1 with c1
  subst c1
  rw [hku] at c2
  injection c2 with c2
  subst c2
  have hul := (show Chn L2 (L.length :: k :: ch) from b1.inv.ch).ups hf2
  have hcll := (show Chn L2 (L.length :: k :: ch) from b1.inv.ch).len
  have hpul := c8.ups hku
  have hpl := c8.len
  dsimp only at hpul
  have hI2 : Inv ns k ch L2 { f with ups := f.ups ++ u } n' (B + 7 + 100 * (m2 - m1) + 12) := ⟨b1.inv.ln, hku, c8, hI.ko.congr rfl rfl rfl, hI.al, hI.kq, b1.inv.ms⟩
  have hln2 := b1.stp.ln
  have hln2' : L.length + 1 ≤ L2.length := by simpa using hln2
  have hfn : FnOk L2 L.length L2.length f2 := by
    have hfx := b1.stp.fx
    have hal2 := b1.inv.al
    refine ⟨?_, by simp only [List.length_cons] at hul hcll; omega, fun d hd => ?_, b1.inv.ko, b2, fun g p hF hC hN => b3 g p hF (by simpa using hC) hN⟩
    · have e1 := hfx.np
      have e2 := hfx.sl
      rw [hf0] at e1 e2
      dsimp only at e1 e2
      rw [g2] at g4
      omega
    · rcases c5 d hd with ⟨x1, x2, nm, x3, _⟩ | ⟨x1, x2, x3⟩
      · have := lt_of x3
        dsimp only at this
        omega
      · dsimp only at x3
        omega
  have hS2 : Stp k ch L f L2 { f with ups := f.ups ++ u } := by
    refine ⟨by omega, ⟨hkl, fun y hy => hI.ch.lt y hy⟩, fun y q1 q2 q3 => ?_, fun y g q1 q2 => ?_, ⟨rfl, rfl, List.prefix_append _ _, List.prefix_refl _, Int.le_refl _⟩, fun x fx q1 q2 q3 => ?_⟩
    · rw [b1.stp.ag y (by omega) (fun q => by rcases List.mem_cons.1 q with q | q; exact q1 q; exact q2 q) (by simp; omega), hat y q3]
    · exact b1.stp.up y g (List.mem_cons_of_mem _ q1) (by rw [hat y (lt_of q2)]; exact q2)
    · by_cases e : x = L.length
      · subst e
        rw [hf2] at q3
        injection q3 with q3
        subst q3
        exact hfn
      · exact b1.stp.dn x fx (by simp; omega) q2 q3
  have e28 : u16 ((n : Int) + 1) = (L.length : Int) := by rw [u16_id (by omega)]; omega
  obtain ⟨L3, em⟩ := emit_to hI2 [((28 : Int), u16 ((n : Int) + 1))] (l2 := [((28 : Int), (L.length : Int))]) (by rw [e28]) (by simp; omega)
  refine ⟨L3, _, [((28 : Int), (L.length : Int))], ⟨fun s hs => ?_, (em.inv).mono (by simp; omega), hS2.trans em.stp⟩, rfl, rfl, rfl, fun st g p hF hC => ?_, fun P E hF hE hA => ?_⟩
  · have hw : IntKind.i64.wrap ((n : Int) + 1) = (n : Int) + 1 := wrap_i64 (by omega) (by omega)
    have hwn : ((n : Int) + 1).toNat = L.length := by omega
    obtain ⟨s1, w1, v1⟩ := fresh_run (p := some k) (show L.length ≤ 12 by omega) s hs
    obtain ⟨s2, w2, v2⟩ := g1 s1 v1
    have hp3 : RunQ (parsM L.length (0 + len)) (L ++ [{ frs (some k) with locals := nw, nslots := sl }]) (L ++ [f0]) := by
      have := put_run (F := parsM L.length (0 + len)) (L := L ++ [{ frs (some k) with locals := nw, nslots := sl }]) (k := L.length) (f' := f0) (f := { frs (some k) with locals := nw, nslots := sl }) (by simp) (by rw [hf0]) (fun s hs => by
        unfold parsM
        rw [hs, hf0, Int.zero_add]
        rfl)
      simpa using this
    obtain ⟨s3, w3, v3⟩ := hp3 s2 v2
    obtain ⟨s4, w4, v4⟩ := b1.run s3 v3
    obtain ⟨s5, w5, v5⟩ := em.run s4 v4
    refine ⟨s5, expr_node hd hI.at_ _ hs ?_, v5⟩
    show functionM ns (recC ns m) k _ s = _
    unfold functionM
    rw [hs.get hI.at_]
    dsimp only
    rw [hw, hwn]
    show (if _ then _ else _) = _
    rw [if_pos (by omega), w1]
    show bind2 (eachM ns _ _ _ _ _ s1) _ = _
    rw [w2]
    show bind1 (parsM L.length _ s2) _ = _
    rw [w3]
    show bind1 (bodyM ns (recC ns m) L.length rb s3) _ = _
    rw [w4]
    exact w5
  · have hzz := z_le hI hz hF (hS2.fx.trans em.stp.fx)
    have hup := hF.up
    dsimp only at hup
    have hf3 : L3[L.length]? = some f2 := by rw [em.stp.ag L.length (by omega) (fun q => by have := hI.ch.lt _ q; omega) (by omega)]; exact hf2
    have hln3 := em.stp.ln
    obtain ⟨qq, h1, h2⟩ := hC L.length f2 (Nat.le_refl _) (by omega) hf3
    refine Ck.one (bB (by omega) hzz) (by dsimp only; omega) fun T hT he hL hn => ?_
    refine .clo hT ⟨by omega, by have := lt_of h1; dsimp only; omega⟩ (by dsimp only; rw [Int.toNat_natCast]; exact h1) (fun d hd => ?_) ⟨by omega, he⟩
    rw [h2] at hd
    rcases c5 d hd with ⟨x1, x2, nm, x3, x4⟩ | ⟨x1, x2, x3⟩
    · exact .inl ⟨x1, x2, hz.2 _ nm x3 x4⟩
    · exact .inr ⟨x1, x2, by dsimp only at x3; omega⟩
  · have hf3 : L3[L.length]? = some f2 := by rw [em.stp.ag L.length (by omega) (fun q => by have := hI.ch.lt _ q; omega) (by omega)]; exact hf2
    have hPf : P[L.length]? = some f2 := by rw [hF.dn L.length (Nat.le_refl _) (lt_of hf3)]; exact hf3
    have F2 := hF.back em.stp hI2.at_ em.inv.at_ hkl
    have hEs : ScoL (L ++ [f0]) (k :: ch) ((k, f.locals) :: E) := ⟨f, E, by rw [hat k hkl]; exact hI.at_, rfl, ScoL.mono (fun y g hy hg => ⟨g, by rw [hat y (hcl y (List.mem_cons_of_mem _ hy))]; exact hg, rfl⟩) hE⟩
    have t := b4 P ((k, f.locals) :: E) (F2.lo (by simp)) hEs (fun j i hj => by
      unfold insP
      rw [hPf, Nat.zero_add]
      exact hj)
    refine t.up fun mf h => ?_
    obtain ⟨p1, h1, h2⟩ := h
    refine ⟨_, (nd_nat ns hi).trans hd, ?_⟩
    ((try dsimp only); (repeat rw [if_neg (by decide)]); rw [if_pos rfl])
    have hnl : (n : Int) + 1 = (L.length : Int) := by omega
    rw [hnl, Int.toNat_natCast]
    rw [hf0] at h1
    obtain ⟨h2, h3, h4, h5, h6, h7⟩ := h2
    have e1 := b1.stp.fx.np
    rw [hf0] at e1 h6
    dsimp only at e1 h6
    refine ⟨hA.one, by omega, ⟨f2, e', nw, p1, hPf, g5, by rw [e1, g2], h1, h2, h3, h4, ⟨h5, ⟨by rw [h6, e1, g2], h7⟩, ⟨c6, by simp only [List.length_cons] at hul hcll; omega⟩, b1.inv.kq, fun xL E' hE' => ?_, fun q => by cases q⟩⟩, rfl⟩
    injection hE' with hE1 hE2
    subst hE1
    obtain ⟨hh, w1, w2, w3⟩ := F2.ext k _ hku
    have w4 := F2.sl k _ hh hku w1
    have w5 := w3.length_le
    refine ⟨hkl, c3, hh, w1, fun d hd => ?_⟩
    rcases c5 d hd with ⟨x1, x2, nm, x3, _⟩ | ⟨x1, x2, x3⟩
    · have := lt_of x3
      dsimp only at this w4
      exact ⟨fun _ => by omega, fun q => by omega⟩
    · dsimp only at x3 w5
      exact ⟨fun q => by omega, fun _ => by omega⟩
end
end Go.Wl
