/- Plain: the machine at rest. -/
import Derived.Test.Qxb6500573aGreatDoorJG
namespace Go.Wl
open Go Go.Sl Go.Proofs
set_option linter.unusedVariables false
theorem opn_nodup {cells : List Ce} {u : Nat} {opn : List Int} {Z : Int → Prop} (h : OpnOk cells u opn Z) : opn.Nodup := by
  rw [List.nodup_iff_pairwise_ne, List.pairwise_iff_getElem]
  intro i j hi hj hij e
  obtain ⟨a, q1, _⟩ := h.at_ _ (List.getElem_mem hi)
  have h1 := List.pairwise_iff_getElem.1 h.up i j hi hj hij a a q1 (by rw [← e]; exact q1)
  omega
/-- The open cells' numbers, all threads' together. -/
theorem flat_nodup {cells : List Ce} : ∀ (ts : List Th) (off : Nat), (∀ (u : Nat) t, ts[u]? = some t → t.opn = [] ∨ ∃ Z, OpnOk cells (off + u) t.opn Z) → (ts.flatMap (·.opn)).Nodup
  | [], off, h => by simp
  | t :: ts, off, h => by
    rw [List.flatMap_cons, List.nodup_append]
    have ht := h 0 t rfl
    refine ⟨?_, flat_nodup (cells := cells) ts (off + 1) fun u t' hu => ?_, fun a ha b hb e => ?_⟩
    · rcases ht with q | ⟨Z, q⟩
      · rw [q]; exact List.nodup_nil
      · exact opn_nodup q
    · have := h (u + 1) t' hu
      rw [show off + 1 + u = off + (u + 1) from by omega]
      exact this
    · subst e
      rcases ht with q | ⟨Z, q⟩
      · rw [q] at ha; cases ha
      · obtain ⟨c, q1, q2, _⟩ := q.at_ a ha
        obtain ⟨t', h1, h2⟩ := List.mem_flatMap.1 hb
        obtain ⟨i, hi, rfl⟩ := List.mem_iff_getElem.1 h1
        rcases h (i + 1) ts[i] (by rw [List.getElem?_cons_succ]; exact List.getElem?_eq_getElem hi) with w | ⟨Z', w⟩
        · rw [w] at h2; cases h2
        · obtain ⟨c', w1, w2, _⟩ := w.at_ a h2
          rw [q1] at w1
          injection w1 with w1
          subst w1
          omega
def opnB (c : Ce) : Bool := decide (0 ≤ c.th)
/-- The numbers of the open cells. -/
def opnP (cells : List Ce) (j : Nat) : Bool := match cells[j]? with
  | some c => opnB c
  | none => false
theorem opnP_at {cells : List Ce} {j : Nat} {c : Ce} (h : cells[j]? = some c) : opnP cells j = opnB c := by
  unfold opnP
  rw [h]
def opnN (cells : List Ce) : List Int := ((List.range cells.length).filter (opnP cells)).map fun (j : Nat) => (j : Int)
theorem opnN_mem {cells : List Ce} {x : Int} : x ∈ opnN cells ↔ ∃ (j : Nat) (c : Ce), x = (j : Int) ∧ cells[j]? = some c ∧ 0 ≤ c.th := by
  unfold opnN
  rw [List.mem_map]
  constructor
  · rintro ⟨j, h1, rfl⟩
    rw [List.mem_filter] at h1
    obtain ⟨h1, h2⟩ := h1
    rw [List.mem_range] at h1
    rw [opnP_at (List.getElem?_eq_getElem h1)] at h2
    exact ⟨j, _, rfl, List.getElem?_eq_getElem h1, of_decide_eq_true h2⟩
  · rintro ⟨j, c, rfl, h1, h2⟩
    refine ⟨j, ?_, rfl⟩
    rw [List.mem_filter, List.mem_range]
    refine ⟨(List.getElem?_eq_some_iff.1 h1).1, ?_⟩
    rw [opnP_at h1]
    exact decide_eq_true h2
theorem opnN_nodup (cells : List Ce) : (opnN cells).Nodup := by
  unfold opnN
  rw [List.nodup_iff_pairwise_ne, List.pairwise_map]
  have := (List.nodup_range (n := cells.length)).sublist (List.filter_sublist (p := opnP cells))
  rw [List.nodup_iff_pairwise_ne] at this
  refine List.Pairwise.imp (fun {a b} h e => h ?_) this
  have e : (a : Int) = (b : Int) := e
  omega
theorem filter_cnt (cells : List Ce) : ∀ n, n ≤ cells.length → ((List.range n).filter (opnP cells)).length + (cells.drop n).countP opnB = cells.countP opnB
  | 0, _ => by simp
  | n + 1, hn => by
    have ih := filter_cnt cells n (by omega)
    have hd : cells.drop n = cells[n]'(by omega) :: cells.drop (n + 1) := List.drop_eq_getElem_cons (by omega)
    rw [hd, List.countP_cons] at ih
    rw [List.range_succ, List.filter_append, List.length_append]
    have e : cells[n]? = some (cells[n]'(by omega)) := List.getElem?_eq_getElem (by omega)
    rw [List.filter_cons, opnP_at e]
    cases hb : opnB (cells[n]'(by omega)) with
    | true =>
      rw [hb, if_pos rfl] at ih
      simp
      omega
    | false =>
      rw [hb] at ih
      simp at ih ⊢
      omega
theorem opnN_len (cells : List Ce) : (opnN cells).length = cells.countP opnB := by
  have := filter_cnt cells cells.length (Nat.le_refl _)
  unfold opnN
  rw [List.length_map]
  simpa using this
/-- How many cells the threads before i hold open. -/
def oSum (ts : List Th) (i : Nat) : Nat := ((ts.take i).flatMap (·.opn)).length
theorem oSum_step {ts : List Th} {i : Nat} {t : Th} (h : ts[i]? = some t) : oSum ts (i + 1) = oSum ts i + t.opn.length := by
  obtain ⟨h1, h2⟩ := List.getElem?_eq_some_iff.1 h
  unfold oSum
  rw [List.take_succ_eq_append_getElem h1, List.flatMap_append, List.length_append, h2]
  simp
theorem oSum_le (ts : List Th) (i : Nat) : oSum ts i ≤ (ts.flatMap (·.opn)).length := by
  unfold oSum
  conv => rhs; rw [← List.take_append_drop i ts]
  rw [List.flatMap_append, List.length_append]
  omega
section
variable {L : List Fs} {PT : Nat → Nat → Ty} {m : VM}
theorem tile {α : Type} (F : Fs → List α) {j : Nat} {f : Fs} (h : L[j]? = some f) : ((L.take (j + 1)).flatMap F).length = ((L.take j).flatMap F).length + (F f).length := by
  obtain ⟨h1, h2⟩ := List.getElem?_eq_some_iff.1 h
  rw [List.take_succ_eq_append_getElem h1, List.flatMap_append, List.length_append, h2]
  simp
theorem tile_le {α : Type} (F : Fs → List α) (j : Nat) : ((L.take j).flatMap F).length ≤ (L.flatMap F).length := by
  conv => rhs; rw [← List.take_append_drop j L]
  rw [List.flatMap_append, List.length_append]
  omega
theorem vcl_ok (hd : DN L 0 L.length) (hMz : Mz L ≤ 31000) (h : MW (pgOf L) PT m) (h5 : ∃ t, m.vs.threads[0]? = some t ∧ t.st = 5) : VCl m := by
  obtain ⟨ps, e1, e2, e3⟩ := pg_fold L ⟨[], [], [], []⟩
  have hg : pgOf L = ⟨ps, L.flatMap (·.ups), L.flatMap (·.consts), L.flatMap (·.code)⟩ := by
    unfold pgOf
    rw [e1]
    simp
  simp only [List.length_nil, Nat.zero_add] at e3
  have hpg := h.mi.pg
  have hok := h.mi.ok
  have htn := h.mi.tn
  have hcn := h.mi.cn
  have hhn := h.mi.hn
  have hul := h.mi.ul
  have hn := hok.n
  obtain ⟨t0, ht0, hs0⟩ := h5
  have hfn0 := h.mi.fn 0 t0 ht0
  have s1 := sum_le (fun f => f.consts.length) (fun f => by have := cbs_ge f.consts; unfold cost; omega) (·.consts) (fun _ => rfl) L
  have s2 := sum_le (fun f => f.code.length) (fun f => by unfold cost; omega) (·.code) (fun _ => rfl) L
  have s3 := sum_le (fun f => f.ups.length) (fun f => by unfold cost; omega) (·.ups) (fun _ => rfl) L
  have hces : m.vs.cells.length ≤ 6120 := by omega
  have hthc : ∀ (i : Nat) t, m.vs.threads[i]? = some t → ThC m i t := fun i t hi => thc h.mi hces hi (h.all i t hi) (fun q => by
    subst q
    rw [ht0] at hi
    injection hi with hi
    subst hi
    exact hs0)
  have hval : ∀ v, VVm m v → validM v m = some true := fun v hv => valid_ok hv (by omega) (by omega) (by omega)
  have hopn : ∀ (u : Nat) t, m.vs.threads[u]? = some t → t.opn = [] ∨ ∃ Z, OpnOk m.vs.cells u t.opn Z := fun u t hu => by
    rcases h.all u t hu with ⟨_, _, _, q, _⟩ | ⟨_, _, _, q, _⟩ | ⟨_, _, _, q⟩
    · exact .inl q
    · exact .inr ⟨_, q⟩
    · exact .inl q
  have hstk : ∀ t, t ∈ m.vs.threads → t.stack.length ≤ 100000 ∧ ∀ v, v ∈ t.stack → VVm m v := fun t ht => by
    obtain ⟨u, hu, e⟩ := List.mem_iff_getElem.1 ht
    have hu' : m.vs.threads[u]? = some t := by rw [List.getElem?_eq_getElem hu, e]
    rcases h.all u t hu' with ⟨_, q, _⟩ | ⟨_, q1, q2, _, q3⟩ | ⟨_, q, _⟩
    · rw [q]; exact ⟨by simp, fun v hv => by cases hv⟩
    · have := q2.bound hok
      exact ⟨by omega, q3⟩
    · rw [q]; exact ⟨by simp, fun v hv => by cases hv⟩
  refine ⟨by rw [hpg]; exact hn, ⟨by omega, hcn⟩, hhn, ⟨hul.2, by omega⟩, by omega, ?_, ?_, ?_, fun j x hx => h.mi.ux x (List.mem_of_getElem? hx), hthc, ?_, fun t ht => (hstk t ht).1, fun v hv => ?_, fun c hc => ?_, fun t ht v hv => hval v ((hstk t ht).2 v hv)⟩
  · rw [hpg, hg]
    dsimp only
    omega
  · rw [hpg, hg]
    dsimp only
    rw [e2]
    refine ⟨fun j => (((L.take j).flatMap (·.ups)).length : Nat), fun j => (((L.take j).flatMap (·.consts)).length : Nat), fun j => (((L.take j).flatMap (·.code)).length : Nat), by simp, by simp, by simp, by dsimp only; rw [List.take_length], by dsimp only; rw [List.take_length], by dsimp only; rw [List.take_length], fun j p hp => ?_⟩
    have hjl : j < L.length := by rw [← e2]; exact (List.getElem?_eq_some_iff.1 hp).1
    have hf : L[j]? = some L[j] := List.getElem?_eq_getElem hjl
    rw [e3 j _ hf] at hp
    injection hp with hp
    subst hp
    have hfo := hd j _ (Nat.zero_le _) hjl hf
    have hnp := hfo.np
    have hu := hfo.ul
    have t1 := tile (·.ups) hf
    have t2 := tile (·.consts) hf
    have t3 := tile (·.code) hf
    have l1 := tile_le (L := L) (·.ups) (j + 1)
    have l2 := tile_le (L := L) (·.consts) (j + 1)
    have l3 := tile_le (L := L) (·.code) (j + 1)
    dsimp only at t1 t2 t3 ⊢
    refine ⟨⟨rfl, rfl, rfl⟩, by omega, by omega, by omega, by omega⟩
  · obtain ⟨W, w1, w2, w3⟩ := h.mi.ct
    refine ⟨W, w1, by omega, fun j c hc => ?_⟩
    obtain ⟨p, p1, p2, p3, p4⟩ := h.mi.cl j c hc
    obtain ⟨u1, u2⟩ := w3 j c hc
    have hp := (hok.pr _ _ (getI_lt' p1).2.2).up
    exact ⟨p, by rw [hpg]; exact p1, u1, p2, u2, by omega⟩
  · have hA := flat_nodup m.vs.threads 0 (fun u t hu => by rw [Nat.zero_add]; exact hopn u t hu)
    have hmem : ∀ x, x ∈ m.vs.threads.flatMap (·.opn) ↔ x ∈ opnN m.vs.cells := fun x => by
      rw [List.mem_flatMap, opnN_mem]
      constructor
      · rintro ⟨t, h1, h2⟩
        obtain ⟨u, hu, e⟩ := List.mem_iff_getElem.1 h1
        rcases hopn u t (by rw [List.getElem?_eq_getElem hu, e]) with q | ⟨Z, q⟩
        · rw [q] at h2; cases h2
        · obtain ⟨c, q1, q2, _⟩ := q.at_ x h2
          obtain ⟨r1, r2, r3⟩ := getI_lt' q1
          exact ⟨x.toNat, c, by omega, r3, by omega⟩
      · rintro ⟨j, c, rfl, h1, h2⟩
        obtain ⟨t, q1, q2⟩ := (h.mi.ce j c h1).1 h2
        exact ⟨t, List.mem_of_getElem? q1, q2⟩
    have hlen : (m.vs.threads.flatMap (·.opn)).length = m.vs.cells.countP opnB := by
      rw [← opnN_len]
      have a1 := sub_len _ _ hA fun x hx => (hmem x).1 hx
      have a2 := sub_len _ _ (opnN_nodup m.vs.cells) fun x hx => (hmem x).2 hx
      omega
    have hcp := List.countP_le_length (p := opnB) (l := m.vs.cells)
    refine ⟨fun i => (oSum m.vs.threads i : Nat), fun j => ((m.vs.cells.drop j).countP opnB : Nat), by simp [oSum], ?_, by simp, fun i t hi => ?_, fun j c hc => ?_⟩
    · dsimp only
      unfold oSum
      rw [List.drop_zero, List.take_length, hlen]
    · have q1 := oSum_step hi
      have q2 := oSum_le m.vs.threads i
      have q3 := oSum_le m.vs.threads (i + 1)
      dsimp only
      omega
    · obtain ⟨h1, h2⟩ := List.getElem?_eq_some_iff.1 hc
      have e : m.vs.cells.drop j = c :: m.vs.cells.drop (j + 1) := by rw [List.drop_eq_getElem_cons h1, h2]
      have q1 := List.countP_le_length (p := opnB) (l := m.vs.cells.drop j)
      rw [List.length_drop] at q1
      dsimp only
      obtain ⟨x1, x2⟩ := h.mi.cx j c hc
      refine ⟨fun q => ?_, fun q => ⟨?_, x2 q⟩, by omega⟩
      · rw [e, List.countP_cons, show opnB c = true from decide_eq_true q, if_pos rfl]
        omega
      · rw [e, List.countP_cons, show opnB c = false from decide_eq_false (by omega)]
        simp
  · have hv0 : v ∈ (pgOf L).consts := by rw [hpg] at hv; exact hv
    have hvv := hok.ks v hv0
    refine ⟨?_, hval v (hvv.mono (Nat.zero_le _) (Nat.zero_le _) (Nat.zero_le _))⟩
    rw [hg] at hv0
    obtain ⟨f, h1, h2⟩ := List.mem_flatMap.1 hv0
    obtain ⟨x, hx, e⟩ := List.mem_iff_getElem.1 h1
    have hc := (hd x f (Nat.zero_le _) hx (by rw [List.getElem?_eq_getElem hx, e])).ko.cs v h2
    rcases hc with ⟨q, _⟩ | ⟨q, _⟩
    · exact .inl q
    · exact .inr q
  · obtain ⟨j, hj, e⟩ := List.mem_iff_getElem.1 hc
    have hj' : m.vs.cells[j]? = some c := by rw [List.getElem?_eq_getElem hj, e]
    by_cases q : 0 ≤ c.th
    · rw [(h.mi.cx j c hj').1 q]
      exact hval _ VV.nil
    · exact hval _ ((h.mi.ce j c hj').2 (by omega))
end
end Go.Wl
