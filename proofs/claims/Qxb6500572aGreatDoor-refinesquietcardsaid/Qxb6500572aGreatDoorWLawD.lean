/- Walks: runlaw.Do (made by program out of short notes) -/
import Derived.Test.Qxb6500572aGreatDoorPCallB
namespace Go.Sl
open Go Go.Wl Go.Proofs
set_option maxRecDepth 100000
set_option linter.unusedVariables false
set_option linter.unusedSimpArgs false
theorem tellU (e : Int) (gs : Seg) (hgs : isG gs) : Spec Tryz.prog 58 [errV e] [gs] (Ret fun v H => v = I e ∧ H = [gs]) := by
  unfold errV
  by_cases he : e = 0
  · rw [if_pos he, he]
    intro A F w ho
    have := tell_nil A (gs ++ F) w (by simpa using ho)
    refine this.mono ?_
    rintro z w' ⟨H', h1, h2⟩
    cases z with
    | returned v => obtain ⟨rfl, rfl⟩ := h1; exact ⟨[gs], ⟨rfl, rfl⟩, by simpa using h2⟩
    | panicked c => exact h1.elim
    | outgrown => exact h1.elim
  · rw [if_neg he]; exact tell_51 e he gs hgs

theorem run_CallU (x pb kb hb : Nat) (pfa : Option Addr) (fuel : Int) (hfuel : fuel ≤ 9223372036854775807) (Good : VM → Prop) (mu : VM → Nat) (hG : ∀ m, Good m → Pre m) (hS : ∀ m m', Good m → m.step fuel = (m', none) → Good m' ∧ mu m' < mu m) (P : Prog) (steps : Int) (mem : Mem) (host : Host) (f : Int) (args : List Val) (va : Option Addr) (vc : Nat) (sargs : Seg) (hargs : Arr 110 2 va args.length vc (args.flatMap valV) sargs) (h0 : Int) (sp sk sh : Seg) (hp : isProg pb pfa P steps sp) (hk : isMach kb mem sk) (hh : isHost hb host sh) (hps : ∀ t, t ∈ (P.sig f).1 → t = 105 ∨ t = 108) (hlen : (P.sig f).2.2.1.length ≤ 100) (hal : args.length ≤ 100) (hg : owed P f args = 0 → Good (startVM P steps mem host f args)) : Spec Tryz.prog 59 [.pointer (some ⟨x, 0, none⟩), I f, .slice va args.length vc, I fuel, hostV hb host] [blk x 93 [(.pointer (some ⟨pb, 0, none⟩)), (.pointer (some ⟨kb, 0, none⟩)), .slice none 0 0, .slice none 0 0, I 0, I (h0)], sp, sk, sh, sargs] (Ret fun v H => ∃ r ra rc sr sp' sk' sh', CallP Good fuel P steps mem host f args r ∧ v = .tuple #[.slice ra r.res.length rc, I r.used, errV r.e] ∧ H = [blk x 93 [(.pointer (some ⟨pb, 0, none⟩)), (.pointer (some ⟨kb, 0, none⟩)), .slice none 0 0, .slice none 0 0, I 0, I (r.high)], sp', sk', sh', sargs, sr] ∧ isProg pb pfa r.P r.steps sp' ∧ isMach kb r.mem sk' ∧ isHost hb r.host sh' ∧ Arr 110 2 ra r.res.length rc (r.res.flatMap valV) sr) := by
  intro A F w ho
  refine (run_Call x pb kb hb pfa fuel hfuel Good mu hG hS P steps mem host f args va vc sargs hargs h0 sp sk sh hp hk hh hps hlen hal hg A F w ho).mono ?_
  rintro z w' ⟨H', h1, h2⟩
  cases z with
  | panicked c => exact h1.elim
  | outgrown => exact h1.elim
  | returned v =>
    have h1 : (owed P f args ≠ 0 → _) ∧ (owed P f args = 0 → _) := h1
    by_cases ho : owed P f args = 0
    · rcases h1.2 ho with ⟨m, m', rb, sp', sk', sh', g1, g2, rfl, rfl, h5, h6, h7⟩ | ⟨m, m', e, sp', sk', sh', g1, g2, h3, rfl, rfl, h5, h6, h7⟩
      · refine ⟨_, ⟨⟨m'.i.st.map W.val, m'.i.used, 0, m'.i.high, m'.P, m'.steps, m'.mem, m'.host⟩, some ⟨rb, 0, none⟩, m'.i.st.length, blk rb 110 ((m'.i.st.map W.val).flatMap valV), sp', sk', sh', .inr (.inl ⟨ho, m, m', g1, g2, rfl⟩), ?_, rfl, h5, h6, h7, ?_⟩, h2⟩
        · dsimp only; rw [List.length_map]; rfl
        · have := Arr.full (T := 110) (k := 2) (b := rb) (m := (m'.i.st.map W.val).length) (xs := (m'.i.st.map W.val).flatMap valV) (flat_len valV_len _)
          dsimp only
          rwa [List.length_map] at this ⊢
      · refine ⟨_, ⟨⟨[], m'.i.used, e, m'.i.high, m'.P, m'.steps, m'.mem, m'.host⟩, none, 0, [], sp', sk', sh', .inr (.inr ⟨ho, m, m', e, g1, g2, h3, rfl⟩), ?_, rfl, h5, h6, h7, ⟨rfl, .inl ⟨rfl, rfl, rfl, rfl⟩⟩⟩, by simpa using h2⟩
        dsimp only; unfold errV; rw [if_neg h3]; rfl
    · obtain ⟨rfl, rfl⟩ := h1.1 ho
      refine ⟨_, ⟨⟨[], 0, owed P f args, 0, P, steps, mem, host⟩, none, 0, [], sp, sk, sh, .inl ⟨ho, rfl⟩, ?_, rfl, hp, hk, hh, ⟨rfl, .inl ⟨rfl, rfl, rfl, rfl⟩⟩⟩, by simpa using h2⟩
      dsimp only; unfold errV; rw [if_neg ho]; rfl
def host0 (o : Op1) : Host := ⟨if o.c = 0 then 0 else if o.c = 1 then 1 else 2, o.t, [], 0, []⟩
def traceOf (h : Host) : List UInt8 := if h.kind = 0 then h.trace else []
def ansOf (r : CallR) : Ans := ⟨r.e, r.used, r.res.length, valsS r.res ++ [124] ++ traceOf r.host⟩
theorem callP_kind {Good : VM → Prop} {fuel : Int} {P : Prog} {steps : Int} {mem : Mem} {host : Host} {f : Int} {args : List Val} {r : CallR} (hG : ∀ m, Good m → Pre m ∧ m.host.kind = host.kind) (hk : host.trace.length ≤ 1000) (h : CallP Good fuel P steps mem host f args r) : r.host.kind = host.kind ∧ (host.kind = 0 → r.host.trace.length ≤ 200000) ∧ (∀ y, y ∈ r.res → -9223372036854775808 ≤ y.v ∧ y.v ≤ 9223372036854775807) ∧ r.res.length ≤ 2000 := by
  rcases h with ⟨_, rfl⟩ | ⟨_, m, m', h1, h2, rfl⟩ | ⟨_, m, m', e, h1, h2, _, rfl⟩
  · exact ⟨rfl, fun _ => by dsimp only; omega, fun y hy => by simp at hy, by simp⟩
  · have h3 := step_trace h2
    have h4 := hG m h1
    have h5 := step_done h4.1 h2
    refine ⟨h3.2.trans h4.2, fun h0 => ?_, fun y hy => ?_, by simpa using h5.2.2⟩
    · have := (h4.1.hb (h4.2.trans h0)).1; dsimp only; omega
    · obtain ⟨z, hz, rfl⟩ := List.mem_map.1 hy
      exact W.ok_rng (h5.2.1 z hz)
  · have h3 := step_trace h2
    have h4 := hG m h1
    refine ⟨h3.2.trans h4.2, fun h0 => ?_, fun y hy => by simp at hy, by simp⟩
    have := (h4.1.hb (h4.2.trans h0)).1; dsimp only; omega

theorem law_Do (x pb kb : Nat) (pfa : Option Addr) (o : Op1) (hk10 : o.kind = 10) (hfuel : o.b ≤ 9223372036854775807) (hot : o.t.length ≤ 140737488351232) (Good : VM → Prop) (mu : VM → Nat) (hG : ∀ m, Good m → Pre m ∧ m.host.kind = (host0 o).kind) (hS : ∀ m m', Good m → m.step o.b = (m', none) → Good m' ∧ mu m' < mu m) (P : Prog) (steps : Int) (mem : Mem) (args : List Val) (va : Option Addr) (vc : Nat) (sargs : Seg) (hargs : Arr 110 2 va args.length vc (args.flatMap valV) sargs) (high : Int) (sp sk : Seg) (hp : isProg pb pfa P steps sp) (hk : isMach kb mem sk) (hps : ∀ t, t ∈ (P.sig o.a).1 → t = 105 ∨ t = 108) (hlen : (P.sig o.a).2.2.1.length ≤ 100) (hal : args.length ≤ 100) (hg : owed P o.a args = 0 → Good (startVM P steps mem (host0 o) o.a args)) (gs : Seg) (hgs : isG gs) : Spec Tryz.prog 40 [.pointer (some ⟨x, 0, none⟩), .slice va args.length vc, .agg (opV o).toArray] [blk x 93 [(.pointer (some ⟨pb, 0, none⟩)), (.pointer (some ⟨kb, 0, none⟩)), .slice none 0 0, .slice none 0 0, I 0, I high], sp, sk, sargs, gs] (Ret fun v H => ∃ r sp' sk', CallP Good o.b P steps mem (host0 o) o.a args r ∧ v = .agg (ansV (ansOf r)).toArray ∧ H = [blk x 93 [(.pointer (some ⟨pb, 0, none⟩)), (.pointer (some ⟨kb, 0, none⟩)), .slice none 0 0, .slice none 0 0, I 0, I (r.high)], sp', sk', sargs, gs] ∧ isProg pb pfa r.P r.steps sp' ∧ isMach kb r.mem sk') := by
  obtain ⟨ok, oa, ob, oc, os, ot⟩ := o
  dsimp only at hk10 hfuel hot hS hps hlen hg
  subst hk10
  simp only [opV]
  refine Spec_enter Tryz.func40 rfl Tryz.ntmps40 rfl ?_
  show SP _ _ _ _ _ [(0, _), (1, _), (2, _)] _
  refine SP_seq ?_
  refine SP_region ?_
  refine SPL_one rfl (SP1_box rfl rfl rfl ?_)
  intro b5
  refine SPL_one rfl (SP1_alloc Tryz.zeroValue53 rfl rfl ?_)
  intro b6
  refine SPL_nil ?_
  refine thenP_n ?_
  refine SP_seq ?_
  refine SP_seq ?_
  refine SP_region ?_
  refine SPL_y (y_fa fld_43_0 rfl) rfl ?_
  refine SPL_y (y_load Tryz.isAgg3 rfl (by repeat (first | exact Cell.head rfl | apply Cell.tail))) rfl ?_
  refine SPL_nil ?_
  refine thenP_n ?_
  refine SP_block ?_
  refine SP_seq ?_
  refine SP_region ?_
  refine SPL_y (y_eqlT rfl rfl rfl) rfl ?_
  refine SPL_y (y_assign rfl) rfl ?_
  refine SPL_nil ?_
  refine thenP_n ?_
  refine SP_cond_t rfl ?_
  refine SP_seq ?_
  refine SP_region ?_
  refine SPL_y (y_assign rfl) rfl ?_
  refine SPL_nil ?_
  refine thenP_n ?_
  refine SP_seq ?_
  refine SP_region ?_
  refine SPL_y (y_fa fld_43_5 rfl) rfl ?_
  refine SPL_y (y_load Tryz.isAgg9 rfl (by repeat (first | exact Cell.head rfl | apply Cell.tail))) rfl ?_
  refine SPL_y (y_build B138 rfl rfl (by simp only [fillL, List.foldl_cons, List.foldl_nil, List.set_cons_zero, List.set_cons_succ]; exact rfl)) rfl ?_
  refine SPL_one rfl (SP1_box rfl rfl rfl ?_)
  intro b20
  refine SPL_y (y_assign rfl) rfl ?_
  refine SPL_nil ?_
  refine thenP_n ?_
  refine SP_seq ?_
  refine SP_seq ?_
  refine SP_region ?_
  refine SPL_y (y_fa fld_43_3 rfl) rfl ?_
  refine SPL_y (y_load Tryz.isAgg3 rfl (by repeat (first | exact Cell.head rfl | apply Cell.tail))) rfl ?_
  refine SPL_if (y_eql rfl rfl) rfl ?_ ?_
  · intro h5_2
    refine SPL_nil ?_
    refine thenP_n ?_
    refine SP_cond_t rfl ?_
    refine SP_region ?_
    refine SPL_y (y_move rfl) rfl ?_
    refine SPL_y (y_mki Tryz.underlying135 rfl rfl) rfl ?_
    refine SPL_y (y_assign rfl) rfl ?_
    refine SPL_nil ?_
    refine thenP_n ?_
    refine SP_seq ?_
    have hh0 : host0 ⟨10, oa, ob, oc, os, ot⟩ = ⟨0, ot, [], 0, []⟩ := by unfold host0; rw [if_pos h5_2]
    refine SP_region ?_
    refine SPL_y (y_move rfl) rfl ?_
    refine SPL_y (y_fa fld_43_1 rfl) rfl ?_
    refine SPL_y (y_load Tryz.isAgg3 rfl (by repeat (first | exact Cell.head rfl | apply Cell.tail))) rfl ?_
    refine SPL_y (y_move rfl) rfl ?_
    refine SPL_y (y_fa fld_43_2 rfl) rfl ?_
    refine SPL_y (y_load Tryz.isAgg3 rfl (by repeat (first | exact Cell.head rfl | apply Cell.tail))) rfl ?_
    refine SPL_y (y_move rfl) rfl ?_
    refine SPL_one rfl (SP1_call (run_CallU x pb kb b20 pfa ob hfuel Good mu (fun m h => (hG m h).1) hS P steps mem ⟨0, ot, [], 0, []⟩ oa args va vc sargs hargs high sp sk (List.flatten [blk b20 138 [S ot, S [], I 0, .slice none 0 0], [], []]) hp hk (by unfold isHost; rw [if_pos rfl]; exact ⟨none, 0, [], [], [], rfl, ⟨rfl, .inl ⟨rfl, rfl, rfl, rfl⟩⟩, rfl, rfl⟩) hps hlen hal (by rw [hh0] at hg; exact hg)) Tryz.call59 rfl rfl (by repeat (first | exact Part.nil _ | (apply Part.cons; (first | exact P0 | exact P1 | exact P2 | exact P3 | exact P4 | exact P5 | exact P6 | exact P7 | exact P8 | exact P9 | exact P10 | exact P11 | exact P12 | exact P13 | exact P14 | exact P15 | exact P16 | exact P17 | exact P18 | exact P19 | exact P20 | exact P21 | exact P22 | exact P23)) | (apply Part.flat; simp only [List.cons_append, List.nil_append]) | (apply Part.nilc))) ?_)
    rintro v post H' ⟨r, ra, rc, sr, sp2, sk2, sh2, hr, rfl, rfl, hp2, hk2, hh2, har⟩ hH
    obtain ⟨hrk, hrt, hrv, hrl⟩ := callP_kind (by intro m hm; have := hG m hm; rw [hh0] at this; exact this) (by simp) hr
    try simp only [List.cons_append, List.nil_append] at hH
    subst hH
    refine SPL_y (y_move rfl) rfl ?_
    refine SPL_y (y_ext rfl rfl) rfl ?_
    refine SPL_y (y_ext rfl rfl) rfl ?_
    refine SPL_y (y_ext rfl rfl) rfl ?_
    refine SPL_y (y_assign rfl) rfl ?_
    refine SPL_y (y_assign rfl) rfl ?_
    refine SPL_y (y_assign rfl) rfl ?_
    refine SPL_nil ?_
    refine thenP_n ?_
    refine SP_seq ?_
    refine SP_region ?_
    refine SPL_y (y_move rfl) rfl ?_
    refine SPL_one rfl (SP1_call (api_Vals [] ra rc r.res sr har (by simp) (by omega) hrv) Tryz.call60 rfl rfl (by repeat (first | exact Part.nil _ | (apply Part.cons; (first | exact P0 | exact P1 | exact P2 | exact P3 | exact P4 | exact P5 | exact P6 | exact P7 | exact P8 | exact P9 | exact P10 | exact P11 | exact P12 | exact P13 | exact P14 | exact P15 | exact P16 | exact P17 | exact P18 | exact P19 | exact P20 | exact P21 | exact P22 | exact P23)) | (apply Part.flat; simp only [List.cons_append, List.nil_append]) | (apply Part.nilc))) ?_)
    rintro v post H' ⟨rfl, rfl⟩ hH
    try simp only [List.cons_append, List.nil_append] at hH
    subst hH
    refine SPL_y (y_assign rfl) rfl ?_
    refine SPL_nil ?_
    refine thenP_n ?_
    refine SP_seq ?_
    have hvl := valsS_len r.res
    have hkz : r.host.kind = 0 := hrk
    have htl := hrt rfl
    have hh3 := hh2
    unfold isHost at hh3
    rw [if_pos hkz] at hh3
    obtain ⟨ka, kc, kcs, ksk, ksr, rfl, _, _⟩ := hh3
    refine SP_open (by first | exact P0 | exact P1 | exact P2 | exact P3 | exact P4 | exact P5 | exact P6 | exact P7 | exact P8 | exact P9 | exact P10 | exact P11 | exact P12 | exact P13 | exact P14 | exact P15 | exact P16 | exact P17 | exact P18 | exact P19 | exact P20 | exact P21 | exact P22 | exact P23) ?_
    simp only [List.cons_append, List.nil_append]
    refine SP_draw 13 [(0, 0), (2, 0), (3, 0), (4, 0), (5, 0), (6, 0), (7, 0), (8, 0), (9, 0), (10, 1), (11, 0), (1, 2), (12, 0), (13, 3)] mixed (by kernel_rfl) (fun _ _ _ _ _ h => h) (Part.refl _) ?_
    refine SPO_p rfl (y_move rfl) rfl ?_
    refine SPO_p rfl (y_move rfl) rfl ?_
    refine SPO_p rfl (y_move rfl) rfl ?_
    refine SPO_p rfl (y_len_l Tryz.underlying35 rfl) rfl ?_
    refine SPO_p rfl (y_move rfl) rfl ?_
    refine SPO_p rfl (y_cat rfl rfl (by simp only [List.length_append, List.length_cons, List.length_nil]; omega)) rfl ?_
    refine SPO_p rfl (y_move rfl) rfl ?_
    refine SPO_p rfl (y_nil rfl) rfl ?_
    refine SPO_p rfl (y_fa fld_138_1 rfl) rfl ?_
    refine SPO_h rfl (y_load Tryz.isAgg9 rfl (by repeat (first | exact Cell.head rfl | apply Cell.tail))) rfl ?_
    refine SPO_p rfl (y_cat rfl rfl (by simp only [List.length_append, List.length_cons, List.length_nil]; omega)) rfl ?_
    refine SPO_a rfl rfl (SP1_call (tellU r.e gs hgs) Tryz.call58 rfl rfl (by repeat (first | exact Part.nil _ | (apply Part.cons; (first | exact P0 | exact P1 | exact P2 | exact P3 | exact P4 | exact P5 | exact P6 | exact P7 | exact P8 | exact P9 | exact P10 | exact P11 | exact P12 | exact P13 | exact P14 | exact P15 | exact P16 | exact P17 | exact P18 | exact P19 | exact P20 | exact P21 | exact P22 | exact P23)) | (apply Part.flat; simp only [List.cons_append, List.nil_append]) | (apply Part.nilc))) ?_)
    rintro v post H' ⟨rfl, rfl⟩ hH
    try simp only [List.cons_append, List.nil_append] at hH
    subst hH
    refine ⟨⟨_, (by repeat (first | exact Part.nil _ | (apply Part.cons; (first | exact P0 | exact P1 | exact P2 | exact P3 | exact P4 | exact P5 | exact P6 | exact P7 | exact P8 | exact P9 | exact P10 | exact P11 | exact P12 | exact P13 | exact P14 | exact P15 | exact P16 | exact P17 | exact P18 | exact P19 | exact P20 | exact P21 | exact P22 | exact P23)) | (apply Part.flat; simp only [List.cons_append, List.nil_append]) | (apply Part.nilc)))⟩, ?_⟩
    refine SPO_p rfl (y_build B53 rfl rfl (by simp only [fillL, List.foldl_cons, List.foldl_nil, List.set_cons_zero, List.set_cons_succ]; exact rfl)) rfl ?_
    refine SPO_z (k := 0) rfl rfl (SP1_storeAll Tryz.sizeOf53 rfl rfl rfl rfl rfl (by first | exact U0 | exact U1 | exact U2 | exact U3 | exact U4 | exact U5 | exact U6 | exact U7 | exact U8 | exact U9 | exact U10 | exact U11 | exact U12 | exact U13 | exact U14 | exact U15 | exact U16 | exact U17 | exact U18 | exact U19 | exact U20 | exact U21 | exact U22 | exact U23) (by rfl) ?_)
    refine SPO_nil ?_
    refine thenP_n ?_
    refine SP_ret ?_
    refine inBlockP_ret (thenP_ret (bodyP_ret (H' := [blk x 93 [(.pointer (some ⟨pb, 0, none⟩)), (.pointer (some ⟨kb, 0, none⟩)), .slice none 0 0, .slice none 0 0, I 0, I (r.high)], sp2, sk2, sargs, gs]) (ResC rfl rfl Tryz.isAgg53 Tryz.sizeOf53 rfl (by repeat (first | exact Cells.all _ | exact Cells.head rfl | apply Cells.tail))) (by repeat (first | exact Part.nil _ | (apply Part.cons; (first | exact P0 | exact P1 | exact P2 | exact P3 | exact P4 | exact P5 | exact P6 | exact P7 | exact P8 | exact P9 | exact P10 | exact P11 | exact P12 | exact P13 | exact P14 | exact P15 | exact P16 | exact P17 | exact P18 | exact P19 | exact P20 | exact P21 | exact P22 | exact P23)) | (apply Part.flat; simp only [List.cons_append, List.nil_append]) | (apply Part.nilc))) ?_))
    have ha : ansOf r = ⟨r.e, r.used, r.res.length, valsS r.res ++ [124] ++ r.host.trace⟩ := by unfold ansOf traceOf; rw [if_pos hkz]
    exact ⟨r, sp2, sk2, by rw [hh0]; exact hr, by rw [ha]; rfl, rfl, hp2, hk2⟩
  intro h5_2
  refine SPL_nil ?_
  refine thenP_n ?_
  refine SP_cond_f rfl ?_
  refine SP_seq ?_
  refine SP_region ?_
  refine SPL_y (y_fa fld_43_3 rfl) rfl ?_
  refine SPL_y (y_load Tryz.isAgg3 rfl (by repeat (first | exact Cell.head rfl | apply Cell.tail))) rfl ?_
  refine SPL_ifn (y_neq rfl rfl) rfl ?_ ?_
  · intro h7_2
    refine SPL_nil ?_
    refine thenP_n ?_
    refine SP_cond_f rfl ?_
    refine SP_skip ?_
    refine thenP_n ?_
    refine SP_seq ?_
    have hh0 : host0 ⟨10, oa, ob, oc, os, ot⟩ = ⟨1, ot, [], 0, []⟩ := by unfold host0; rw [if_neg h5_2, if_pos (by dsimp only; omega)]
    refine SP_region ?_
    refine SPL_y (y_move rfl) rfl ?_
    refine SPL_y (y_fa fld_43_1 rfl) rfl ?_
    refine SPL_y (y_load Tryz.isAgg3 rfl (by repeat (first | exact Cell.head rfl | apply Cell.tail))) rfl ?_
    refine SPL_y (y_move rfl) rfl ?_
    refine SPL_y (y_fa fld_43_2 rfl) rfl ?_
    refine SPL_y (y_load Tryz.isAgg3 rfl (by repeat (first | exact Cell.head rfl | apply Cell.tail))) rfl ?_
    refine SPL_y (y_move rfl) rfl ?_
    refine SPL_one rfl (SP1_call (run_CallU x pb kb 0 pfa ob hfuel Good mu (fun m h => (hG m h).1) hS P steps mem ⟨1, ot, [], 0, []⟩ oa args va vc sargs hargs high sp sk [] hp hk (by unfold isHost; rw [if_neg (by simp)]) hps hlen hal (by rw [hh0] at hg; exact hg)) Tryz.call59 rfl rfl (by repeat (first | exact Part.nil _ | (apply Part.cons; (first | exact P0 | exact P1 | exact P2 | exact P3 | exact P4 | exact P5 | exact P6 | exact P7 | exact P8 | exact P9 | exact P10 | exact P11 | exact P12 | exact P13 | exact P14 | exact P15 | exact P16 | exact P17 | exact P18 | exact P19 | exact P20 | exact P21 | exact P22 | exact P23)) | (apply Part.flat; simp only [List.cons_append, List.nil_append]) | (apply Part.nilc))) ?_)
    rintro v post H' ⟨r, ra, rc, sr, sp2, sk2, sh2, hr, rfl, rfl, hp2, hk2, hh2, har⟩ hH
    obtain ⟨hrk, hrt, hrv, hrl⟩ := callP_kind (by intro m hm; have := hG m hm; rw [hh0] at this; exact this) (by simp) hr
    try simp only [List.cons_append, List.nil_append] at hH
    subst hH
    refine SPL_y (y_move rfl) rfl ?_
    refine SPL_y (y_ext rfl rfl) rfl ?_
    refine SPL_y (y_ext rfl rfl) rfl ?_
    refine SPL_y (y_ext rfl rfl) rfl ?_
    refine SPL_y (y_assign rfl) rfl ?_
    refine SPL_y (y_assign rfl) rfl ?_
    refine SPL_y (y_assign rfl) rfl ?_
    refine SPL_nil ?_
    refine thenP_n ?_
    refine SP_seq ?_
    refine SP_region ?_
    refine SPL_y (y_move rfl) rfl ?_
    refine SPL_one rfl (SP1_call (api_Vals [] ra rc r.res sr har (by simp) (by omega) hrv) Tryz.call60 rfl rfl (by repeat (first | exact Part.nil _ | (apply Part.cons; (first | exact P0 | exact P1 | exact P2 | exact P3 | exact P4 | exact P5 | exact P6 | exact P7 | exact P8 | exact P9 | exact P10 | exact P11 | exact P12 | exact P13 | exact P14 | exact P15 | exact P16 | exact P17 | exact P18 | exact P19 | exact P20 | exact P21 | exact P22 | exact P23)) | (apply Part.flat; simp only [List.cons_append, List.nil_append]) | (apply Part.nilc))) ?_)
    rintro v post H' ⟨rfl, rfl⟩ hH
    try simp only [List.cons_append, List.nil_append] at hH
    subst hH
    refine SPL_y (y_assign rfl) rfl ?_
    refine SPL_nil ?_
    refine thenP_n ?_
    refine SP_seq ?_
    have hvl := valsS_len r.res
    refine SP_draw 13 [(0, 0), (2, 0), (3, 0), (4, 0), (5, 0), (6, 0), (7, 0), (8, 0), (9, 0), (10, 1), (11, 0), (1, 2), (12, 0), (13, 3)] mixed (by kernel_rfl) (fun _ _ _ _ _ h => h) (Part.refl _) ?_
    refine SPO_p rfl (y_move rfl) rfl ?_
    refine SPO_p rfl (y_move rfl) rfl ?_
    refine SPO_p rfl (y_move rfl) rfl ?_
    refine SPO_p rfl (y_len_l Tryz.underlying35 rfl) rfl ?_
    refine SPO_p rfl (y_move rfl) rfl ?_
    refine SPO_p rfl (y_cat rfl rfl (by simp only [List.length_append, List.length_cons, List.length_nil]; omega)) rfl ?_
    refine SPO_p rfl (y_move rfl) rfl ?_
    refine SPO_p rfl (y_nil rfl) rfl ?_
    refine SPO_p rfl (y_fa fld_138_1 rfl) rfl ?_
    refine SPO_h rfl (y_load Tryz.isAgg9 rfl (by repeat (first | exact Cell.head rfl | apply Cell.tail))) rfl ?_
    refine SPO_p rfl (y_cat rfl rfl (by simp only [List.length_append, List.length_cons, List.length_nil]; omega)) rfl ?_
    refine SPO_a rfl rfl (SP1_call (tellU r.e gs hgs) Tryz.call58 rfl rfl (by repeat (first | exact Part.nil _ | (apply Part.cons; (first | exact P0 | exact P1 | exact P2 | exact P3 | exact P4 | exact P5 | exact P6 | exact P7 | exact P8 | exact P9 | exact P10 | exact P11 | exact P12 | exact P13 | exact P14 | exact P15 | exact P16 | exact P17 | exact P18 | exact P19 | exact P20 | exact P21 | exact P22 | exact P23)) | (apply Part.flat; simp only [List.cons_append, List.nil_append]) | (apply Part.nilc))) ?_)
    rintro v post H' ⟨rfl, rfl⟩ hH
    try simp only [List.cons_append, List.nil_append] at hH
    subst hH
    refine ⟨⟨_, (by repeat (first | exact Part.nil _ | (apply Part.cons; (first | exact P0 | exact P1 | exact P2 | exact P3 | exact P4 | exact P5 | exact P6 | exact P7 | exact P8 | exact P9 | exact P10 | exact P11 | exact P12 | exact P13 | exact P14 | exact P15 | exact P16 | exact P17 | exact P18 | exact P19 | exact P20 | exact P21 | exact P22 | exact P23)) | (apply Part.flat; simp only [List.cons_append, List.nil_append]) | (apply Part.nilc)))⟩, ?_⟩
    refine SPO_p rfl (y_build B53 rfl rfl (by simp only [fillL, List.foldl_cons, List.foldl_nil, List.set_cons_zero, List.set_cons_succ]; exact rfl)) rfl ?_
    refine SPO_z (k := 0) rfl rfl (SP1_storeAll Tryz.sizeOf53 rfl rfl rfl rfl rfl (by first | exact U0 | exact U1 | exact U2 | exact U3 | exact U4 | exact U5 | exact U6 | exact U7 | exact U8 | exact U9 | exact U10 | exact U11 | exact U12 | exact U13 | exact U14 | exact U15 | exact U16 | exact U17 | exact U18 | exact U19 | exact U20 | exact U21 | exact U22 | exact U23) (by rfl) ?_)
    refine SPO_nil ?_
    refine thenP_n ?_
    refine SP_ret ?_
    refine inBlockP_ret (thenP_ret (bodyP_ret (H' := [blk x 93 [(.pointer (some ⟨pb, 0, none⟩)), (.pointer (some ⟨kb, 0, none⟩)), .slice none 0 0, .slice none 0 0, I 0, I (r.high)], sp2, sk2, sargs, gs]) (ResC rfl rfl Tryz.isAgg53 Tryz.sizeOf53 rfl (by repeat (first | exact Cells.all _ | exact Cells.head rfl | apply Cells.tail))) (by repeat (first | exact Part.nil _ | (apply Part.cons; (first | exact P0 | exact P1 | exact P2 | exact P3 | exact P4 | exact P5 | exact P6 | exact P7 | exact P8 | exact P9 | exact P10 | exact P11 | exact P12 | exact P13 | exact P14 | exact P15 | exact P16 | exact P17 | exact P18 | exact P19 | exact P20 | exact P21 | exact P22 | exact P23)) | (apply Part.flat; simp only [List.cons_append, List.nil_append]) | (apply Part.nilc))) ?_))
    have ha : ansOf r = ⟨r.e, r.used, r.res.length, valsS r.res ++ [124] ++ []⟩ := by unfold ansOf traceOf; rw [if_neg (by rw [hrk]; simp)]
    exact ⟨r, sp2, sk2, by rw [hh0]; exact hr, by rw [ha]; rfl, rfl, hp2, hk2⟩
  intro h7_2
  refine SPL_nil ?_
  refine thenP_n ?_
  refine SP_cond_t rfl ?_
  refine SP_region ?_
  refine SPL_y (y_mki Tryz.underlying135 rfl rfl) rfl ?_
  refine SPL_y (y_assign rfl) rfl ?_
  refine SPL_nil ?_
  refine thenP_n ?_
  refine SP_seq ?_
  have hh0 : host0 ⟨10, oa, ob, oc, os, ot⟩ = ⟨2, ot, [], 0, []⟩ := by unfold host0; rw [if_neg h5_2, if_neg h7_2]
  refine SP_region ?_
  refine SPL_y (y_move rfl) rfl ?_
  refine SPL_y (y_fa fld_43_1 rfl) rfl ?_
  refine SPL_y (y_load Tryz.isAgg3 rfl (by repeat (first | exact Cell.head rfl | apply Cell.tail))) rfl ?_
  refine SPL_y (y_move rfl) rfl ?_
  refine SPL_y (y_fa fld_43_2 rfl) rfl ?_
  refine SPL_y (y_load Tryz.isAgg3 rfl (by repeat (first | exact Cell.head rfl | apply Cell.tail))) rfl ?_
  refine SPL_y (y_move rfl) rfl ?_
  refine SPL_one rfl (SP1_call (run_CallU x pb kb 0 pfa ob hfuel Good mu (fun m h => (hG m h).1) hS P steps mem ⟨2, ot, [], 0, []⟩ oa args va vc sargs hargs high sp sk [] hp hk (by unfold isHost; rw [if_neg (by simp)]) hps hlen hal (by rw [hh0] at hg; exact hg)) Tryz.call59 rfl rfl (by repeat (first | exact Part.nil _ | (apply Part.cons; (first | exact P0 | exact P1 | exact P2 | exact P3 | exact P4 | exact P5 | exact P6 | exact P7 | exact P8 | exact P9 | exact P10 | exact P11 | exact P12 | exact P13 | exact P14 | exact P15 | exact P16 | exact P17 | exact P18 | exact P19 | exact P20 | exact P21 | exact P22 | exact P23)) | (apply Part.flat; simp only [List.cons_append, List.nil_append]) | (apply Part.nilc))) ?_)
  rintro v post H' ⟨r, ra, rc, sr, sp2, sk2, sh2, hr, rfl, rfl, hp2, hk2, hh2, har⟩ hH
  obtain ⟨hrk, hrt, hrv, hrl⟩ := callP_kind (by intro m hm; have := hG m hm; rw [hh0] at this; exact this) (by simp) hr
  try simp only [List.cons_append, List.nil_append] at hH
  subst hH
  refine SPL_y (y_move rfl) rfl ?_
  refine SPL_y (y_ext rfl rfl) rfl ?_
  refine SPL_y (y_ext rfl rfl) rfl ?_
  refine SPL_y (y_ext rfl rfl) rfl ?_
  refine SPL_y (y_assign rfl) rfl ?_
  refine SPL_y (y_assign rfl) rfl ?_
  refine SPL_y (y_assign rfl) rfl ?_
  refine SPL_nil ?_
  refine thenP_n ?_
  refine SP_seq ?_
  refine SP_region ?_
  refine SPL_y (y_move rfl) rfl ?_
  refine SPL_one rfl (SP1_call (api_Vals [] ra rc r.res sr har (by simp) (by omega) hrv) Tryz.call60 rfl rfl (by repeat (first | exact Part.nil _ | (apply Part.cons; (first | exact P0 | exact P1 | exact P2 | exact P3 | exact P4 | exact P5 | exact P6 | exact P7 | exact P8 | exact P9 | exact P10 | exact P11 | exact P12 | exact P13 | exact P14 | exact P15 | exact P16 | exact P17 | exact P18 | exact P19 | exact P20 | exact P21 | exact P22 | exact P23)) | (apply Part.flat; simp only [List.cons_append, List.nil_append]) | (apply Part.nilc))) ?_)
  rintro v post H' ⟨rfl, rfl⟩ hH
  try simp only [List.cons_append, List.nil_append] at hH
  subst hH
  refine SPL_y (y_assign rfl) rfl ?_
  refine SPL_nil ?_
  refine thenP_n ?_
  refine SP_seq ?_
  have hvl := valsS_len r.res
  refine SP_draw 13 [(0, 0), (2, 0), (3, 0), (4, 0), (5, 0), (6, 0), (7, 0), (8, 0), (9, 0), (10, 1), (11, 0), (1, 2), (12, 0), (13, 3)] mixed (by kernel_rfl) (fun _ _ _ _ _ h => h) (Part.refl _) ?_
  refine SPO_p rfl (y_move rfl) rfl ?_
  refine SPO_p rfl (y_move rfl) rfl ?_
  refine SPO_p rfl (y_move rfl) rfl ?_
  refine SPO_p rfl (y_len_l Tryz.underlying35 rfl) rfl ?_
  refine SPO_p rfl (y_move rfl) rfl ?_
  refine SPO_p rfl (y_cat rfl rfl (by simp only [List.length_append, List.length_cons, List.length_nil]; omega)) rfl ?_
  refine SPO_p rfl (y_move rfl) rfl ?_
  refine SPO_p rfl (y_nil rfl) rfl ?_
  refine SPO_p rfl (y_fa fld_138_1 rfl) rfl ?_
  refine SPO_h rfl (y_load Tryz.isAgg9 rfl (by repeat (first | exact Cell.head rfl | apply Cell.tail))) rfl ?_
  refine SPO_p rfl (y_cat rfl rfl (by simp only [List.length_append, List.length_cons, List.length_nil]; omega)) rfl ?_
  refine SPO_a rfl rfl (SP1_call (tellU r.e gs hgs) Tryz.call58 rfl rfl (by repeat (first | exact Part.nil _ | (apply Part.cons; (first | exact P0 | exact P1 | exact P2 | exact P3 | exact P4 | exact P5 | exact P6 | exact P7 | exact P8 | exact P9 | exact P10 | exact P11 | exact P12 | exact P13 | exact P14 | exact P15 | exact P16 | exact P17 | exact P18 | exact P19 | exact P20 | exact P21 | exact P22 | exact P23)) | (apply Part.flat; simp only [List.cons_append, List.nil_append]) | (apply Part.nilc))) ?_)
  rintro v post H' ⟨rfl, rfl⟩ hH
  try simp only [List.cons_append, List.nil_append] at hH
  subst hH
  refine ⟨⟨_, (by repeat (first | exact Part.nil _ | (apply Part.cons; (first | exact P0 | exact P1 | exact P2 | exact P3 | exact P4 | exact P5 | exact P6 | exact P7 | exact P8 | exact P9 | exact P10 | exact P11 | exact P12 | exact P13 | exact P14 | exact P15 | exact P16 | exact P17 | exact P18 | exact P19 | exact P20 | exact P21 | exact P22 | exact P23)) | (apply Part.flat; simp only [List.cons_append, List.nil_append]) | (apply Part.nilc)))⟩, ?_⟩
  refine SPO_p rfl (y_build B53 rfl rfl (by simp only [fillL, List.foldl_cons, List.foldl_nil, List.set_cons_zero, List.set_cons_succ]; exact rfl)) rfl ?_
  refine SPO_z (k := 0) rfl rfl (SP1_storeAll Tryz.sizeOf53 rfl rfl rfl rfl rfl (by first | exact U0 | exact U1 | exact U2 | exact U3 | exact U4 | exact U5 | exact U6 | exact U7 | exact U8 | exact U9 | exact U10 | exact U11 | exact U12 | exact U13 | exact U14 | exact U15 | exact U16 | exact U17 | exact U18 | exact U19 | exact U20 | exact U21 | exact U22 | exact U23) (by rfl) ?_)
  refine SPO_nil ?_
  refine thenP_n ?_
  refine SP_ret ?_
  refine inBlockP_ret (thenP_ret (bodyP_ret (H' := [blk x 93 [(.pointer (some ⟨pb, 0, none⟩)), (.pointer (some ⟨kb, 0, none⟩)), .slice none 0 0, .slice none 0 0, I 0, I (r.high)], sp2, sk2, sargs, gs]) (ResC rfl rfl Tryz.isAgg53 Tryz.sizeOf53 rfl (by repeat (first | exact Cells.all _ | exact Cells.head rfl | apply Cells.tail))) (by repeat (first | exact Part.nil _ | (apply Part.cons; (first | exact P0 | exact P1 | exact P2 | exact P3 | exact P4 | exact P5 | exact P6 | exact P7 | exact P8 | exact P9 | exact P10 | exact P11 | exact P12 | exact P13 | exact P14 | exact P15 | exact P16 | exact P17 | exact P18 | exact P19 | exact P20 | exact P21 | exact P22 | exact P23)) | (apply Part.flat; simp only [List.cons_append, List.nil_append]) | (apply Part.nilc))) ?_))
  have ha : ansOf r = ⟨r.e, r.used, r.res.length, valsS r.res ++ [124] ++ []⟩ := by unfold ansOf traceOf; rw [if_neg (by rw [hrk]; simp)]
  exact ⟨r, sp2, sk2, by rw [hh0]; exact hr, by rw [ha]; rfl, rfl, hp2, hk2⟩

end Go.Sl
