/- Plain: the compiler: statements, the pieces. -/
import Derived.Test.Qxb6500573aGreatDoorQI
namespace Go.Wl
open Go Go.Sl Go.Proofs
set_option linter.unusedVariables false
variable {ns : List Nd}
/-- Code with holes: jumps that leave the loop. -/
def fill (b : Nat) (c : List (Option In)) : List In := c.map fun x => x.getD (21, (b : Int))
def holes : Nat → List (Option In) → List Nat
  | _, [] => []
  | o, none :: c => o :: holes (o + 1) c
  | o, some _ :: c => holes (o + 1) c
theorem fill_app (b : Nat) (c d : List (Option In)) : fill b (c ++ d) = fill b c ++ fill b d := List.map_append
theorem fill_len (b : Nat) (c : List (Option In)) : (fill b c).length = c.length := List.length_map _
theorem fill_some (b : Nat) (l : List In) : fill b (l.map some) = l := by
  unfold fill
  rw [List.map_map]
  induction l with
  | nil => rfl
  | cons x l ih => rw [List.map_cons, ih]; rfl
theorem holes_app : ∀ (c d : List (Option In)) (o : Nat), holes o (c ++ d) = holes o c ++ holes (o + c.length) d
  | [], d, o => by simp [holes]
  | none :: c, d, o => by
    have ih := holes_app c d (o + 1)
    rw [show o + 1 + c.length = o + (none :: c).length from by simp; omega] at ih
    show o :: holes (o + 1) (c ++ d) = o :: holes (o + 1) c ++ _
    rw [ih]
    rfl
  | some x :: c, d, o => by
    have ih := holes_app c d (o + 1)
    rw [show o + 1 + c.length = o + (some x :: c).length from by simp; omega] at ih
    exact ih
theorem holes_none : ∀ (c : List (Option In)) (o : Nat), (∀ x, x ∈ c → x.isSome = true) → holes o c = []
  | [], o, h => rfl
  | none :: c, o, h => by have := h none List.mem_cons_self; cases this
  | some x :: c, o, h => holes_none c (o + 1) fun y hy => h y (List.mem_cons_of_mem _ hy)
abbrev Lps := List (Int × List (Nat × Int))
/-- What becomes of the loops. -/
def LpR (k o : Nat) (lp : Bool) (l l' : Lps) (c : List (Option In)) : Prop := (lp = false → l' = l ∧ ∀ x, x ∈ c → x.isSome = true) ∧ (lp = true → ∀ ls B ps, l = ls ++ [(B, ps)] → l' = ls ++ [(B, ps ++ (holes o c).map fun (a : Nat) => (k, (a : Int)))])
theorem LpR.same {k o : Nat} {lp : Bool} {l : Lps} {c : List (Option In)} (h : ∀ x, x ∈ c → x.isSome = true) : LpR k o lp l l c := ⟨fun _ => ⟨rfl, h⟩, fun _ ls B ps e => by rw [holes_none c o h, e]; simp⟩
theorem LpR.app {k o : Nat} {lp : Bool} {l l1 l2 : Lps} {c d : List (Option In)} (h1 : LpR k o lp l l1 c) (h2 : LpR k (o + c.length) lp l1 l2 d) : LpR k o lp l l2 (c ++ d) := by
  refine ⟨fun q => ?_, fun q ls B ps e => ?_⟩
  · obtain ⟨a1, a2⟩ := h1.1 q
    obtain ⟨b1, b2⟩ := h2.1 q
    refine ⟨b1.trans a1, fun x hx => ?_⟩
    rcases List.mem_append.1 hx with hx | hx
    · exact a2 x hx
    · exact b2 x hx
  · rw [h2.2 q _ _ _ (h1.2 q ls B ps e), holes_app, List.map_append, List.append_assoc]
theorem some_map (l : List In) : ∀ x, x ∈ l.map some → x.isSome = true := fun x hx => by
  obtain ⟨y, _, rfl⟩ := List.mem_map.1 hx
  rfl
/-- The loop that a break leaves. -/
def LpIn (lp : Bool) (l : Lps) (al : Nat) (z : List Nat) (bt : Ty) (cl : Nat) : Prop := lp = true → ∃ (ls : Lps) (base : Nat) (ps : List (Nat × Int)), l = ls ++ [((base : Int), ps)] ∧ base ≤ al ∧ Ty.le ⟨[], z.take base⟩ bt ∧ ps.length ≤ cl
/-- Where a break goes. -/
def BrIn (lp : Bool) (l : Lps) (b : Nat) (br : Brk) : Prop := lp = true → ∃ (ls : Lps) (base : Nat) (ps : List (Nat × Int)), l = ls ++ [((base : Int), ps)] ∧ br = some (base, b)
theorem BrIn.grow {lp : Bool} {l l' : Lps} {b k o : Nat} {br : Brk} {c : List (Option In)} (h : BrIn lp l b br) (hr : LpR k o lp l l' c) : BrIn lp l' b br := fun q => by
  obtain ⟨ls, base, ps, h1, h2⟩ := h q
  exact ⟨ls, base, _, hr.2 q _ _ _ h1, h2⟩
def ShS (ns : List Nd) (lp : Bool) (k : Nat) (ch : List Nat) (L : List Fs) (f : Fs) (L' : List Fs) (f' : Fs) (c : List (Option In)) (r : Int) : Prop :=
  ∀ P E b br, FinE P L' L.length → ScoL L ch E → BrIn lp f.loops b br → LiesAt P k f.code.length (fill b c) → Evs fun m => (recS ns P m).stmt k E f.locals br f.code.length r (f.code.length + c.length) f'.locals
def ShB (ns : List Nd) (lp : Bool) (k : Nat) (ch : List Nat) (L : List Fs) (f : Fs) (L' : List Fs) (f' : Fs) (c : List (Option In)) (r : Int) : Prop :=
  ∀ P E b br, FinE P L' L.length → ScoL L ch E → BrIn lp f.loops b br → LiesAt P k f.code.length (fill b c) → Evs fun m => ∃ e, stsS ns (recS ns P m) e k E f.locals br f.code.length r (f.code.length + c.length) f'.locals
def ShK (ns : List Nd) (lp : Bool) (k : Nat) (ch : List Nat) (L : List Fs) (f : Fs) (L' : List Fs) (c : List (Option In)) (r : Int) : Prop :=
  ∀ P E b br, FinE P L' L.length → ScoL L ch E → BrIn lp f.loops b br → LiesAt P k f.code.length (fill b c) → Evs fun m => blkS ns P (recS ns P m) k E f.locals br f.code.length r (f.code.length + c.length)
def StL (ns : List Nd) (al : Nat) (lp : Bool) (al' lo hi : Nat) (r : Int) (n n' : Nat) : Prop := ∀ (m k B : Nat) (ch : List Nat) (L : List Fs) (f : Fs) (z : List Nat) (bt : Ty), (hi + 1 ≤ m ∧ hi ≤ 1000) → n' ≤ 12 → B + 100 * (hi - lo) ≤ 40000 → Inv ns k ch L f n B → Zl z f.locals → f.locals.length = al → f.loops.length ≤ lo → LpIn lp f.loops al z bt f.code.length →
  ∃ (L' : List Fs) (f' : Fs) (nw : List (List UInt8)) (c : List (Option In)), Go ns k ch ((recC ns m).stmt k r) L f L' f' n' (B + (100 * (hi - lo) - 10)) ∧ f'.locals = f.locals ++ nw ∧ (∀ x, x ∈ nw → x ≠ []) ∧ al + nw.length = al' ∧ f'.code = f.code ++ fill 65535 c ∧ LpR k f.code.length lp f.loops f'.loops c ∧
    (∀ (b : Nat) (X : List (Nat × Ty)), (lp = true → b ≤ 65535 ∧ (b, bt) ∈ X) → Cd L' f' L.length X 128 f.code.length (fill b c) ⟨[], z⟩ ⟨[], z ++ List.replicate nw.length 0⟩) ∧ ShS ns lp k ch L f L' f' c r
def BsL (ns : List Nd) (al : Nat) (lp : Bool) (al' lo hi : Nat) (r : Int) (n n' : Nat) : Prop := ∀ (m k B : Nat) (ch : List Nat) (L : List Fs) (f : Fs) (z : List Nat) (bt : Ty) (e : Nat) (j : Int), (hi + 1 ≤ m ∧ hi ≤ 1000) → hi - lo + 1 ≤ e → n' ≤ 12 → B + 100 * (hi - lo) ≤ 40000 → Inv ns k ch L f n B → Zl z f.locals → f.locals.length = al → f.loops.length ≤ lo → LpIn lp f.loops al z bt f.code.length →
  ∃ (L' : List Fs) (f' : Fs) (nw : List (List UInt8)) (c : List (Option In)) (j' : Int), RunV (eachM ns (aliveC k) ((recC ns m).stmt k) e r j) L j' L' ∧ Inv ns k ch L' f' n' (B + 100 * (hi - lo)) ∧ Stp k ch L f L' f' ∧ f'.locals = f.locals ++ nw ∧ (∀ x, x ∈ nw → x ≠ []) ∧ al + nw.length = al' ∧ f'.code = f.code ++ fill 65535 c ∧ LpR k f.code.length lp f.loops f'.loops c ∧
    (∀ (b : Nat) (X : List (Nat × Ty)), (lp = true → b ≤ 65535 ∧ (b, bt) ∈ X) → Cd L' f' L.length X 128 f.code.length (fill b c) ⟨[], z⟩ ⟨[], z ++ List.replicate nw.length 0⟩) ∧ ShB ns lp k ch L f L' f' c r
/-! What is known of slots. -/
theorem zle_app (z w : List Nat) (hw : ∀ x, x ∈ w → x ≠ 2) : zle z (z ++ w) := by
  refine ⟨fun s h => ?_, fun s h => ?_⟩
  · rw [List.getElem?_append_left (lt_of h)]; exact h
  · by_cases hs : s < z.length
    · rw [List.getElem?_append_left hs] at h; exact h
    · rw [List.getElem?_append_right (by omega)] at h
      exact absurd rfl (hw 2 (List.mem_of_getElem? h))
theorem le_app (st : List Bool) (z w : List Nat) (hw : ∀ x, x ∈ w → x ≠ 2) : (⟨st, z⟩ : Ty).le ⟨st, z ++ w⟩ := ⟨stle.refl _, zle_app z w hw⟩
theorem rep0 (n : Nat) : ∀ x, x ∈ List.replicate n (0 : Nat) → x ≠ 2 := fun x hx => by rw [(List.mem_replicate.1 hx).2]; decide
theorem Zl.app {z w : List Nat} {l l2 : List (List UInt8)} (h : Zl z l) (hl : w.length = l2.length) (hw : ∀ (s : Nat) nm, l2[s]? = some nm → nm ≠ [] → w[s]? = some 0) : Zl (z ++ w) (l ++ l2) := by
  refine ⟨by rw [List.length_append, List.length_append, h.1, hl], fun s nm hs hn => ?_⟩
  by_cases hsl : s < l.length
  · rw [List.getElem?_append_left hsl] at hs
    rw [List.getElem?_append_left (by rw [h.1]; exact hsl)]
    exact h.2 s nm hs hn
  · rw [List.getElem?_append_right (by omega)] at hs
    rw [List.getElem?_append_right (by rw [h.1]; omega), h.1]
    exact hw _ nm hs hn
theorem Zl.nw {z : List Nat} {l nw : List (List UInt8)} (h : Zl z l) : Zl (z ++ List.replicate nw.length 0) (l ++ nw) := h.app (by simp) fun s nm hs _ => by
  have := lt_of hs
  rw [List.getElem?_replicate, if_pos this]
section
variable {k : Nat} {ch : List Nat} {L : List Fs} {f : Fs} {n B : Nat} (hI : Inv ns k ch L f n B)
include hI
theorem leave_go (base : Nat) (hb : base ≤ f.locals.length) (hB : B + 3 ≤ 200000) : ∃ (L' : List Fs) (f' : Fs) (c : List In), Go ns k ch (leaveM k base) L f L' f' n (B + 3) ∧ f'.locals = f.locals.take base ∧ f'.loops = f.loops ∧ f'.code = f.code ++ c ∧ f'.nslots = f.nslots ∧
    (∀ (z : List Nat) (X : List (Nat × Ty)) g p, z.length = f.locals.length → EnvF g p f' → Ck g p X 128 f.code.length c ⟨[], z⟩ ⟨[], z.take base⟩) ∧ ∀ P, LiesAt P k f.code.length c → levS P k base f.locals f.code.length (f.code.length + c.length) := by
  have hal := hI.al
  by_cases h : base < f.locals.length
  · have e1 : u16 (base : Int) = base := u16_id (by omega)
    have h1 := emit_go hI [(29, u16 (base : Int))] (by simp; omega)
    rw [e1] at h1
    have h2 := cut_go h1.inv base hb
    refine ⟨_, _, [(29, (base : Int))], ((Go.trans h1 h2).congr fun s hs => ?_).mono (by simp), rfl, rfl, rfl, rfl, fun z X g p hz hF => ?_, fun P hA => ?_⟩
    · unfold leaveM
      rw [hs.get hI.at_]
      show (if _ then _ else _) = _
      rw [if_pos (by omega), e1]
    · have hsl : f.nslots ≤ p.nslots := hF.sl
      refine Ck.one (bB (by simp) (by omega)) (by dsimp only; omega) fun T hT he hL hn => ?_
      exact .close hT (by dsimp only; omega) ⟨by omega, he⟩
    · unfold levS
      rw [if_pos h]
      exact ⟨hA.one, rfl⟩
  · refine ⟨L, f, [], ⟨fun s hs => ⟨s, ?_, hs⟩, ⟨hI.ln, hI.at_, hI.ch, hI.ko, hI.al, hI.kq, by have := hI.ms; omega⟩, .refl hI⟩, ?_, rfl, by simp, rfl, fun z X g p hz hF => Ck.nil ?_, fun P hA => ?_⟩
    · unfold leaveM
      rw [hs.get hI.at_]
      show (if _ then _ else _) = _
      rw [if_neg (by omega)]
    · rw [List.take_of_length_le (by omega)]
    · rw [List.take_of_length_le (by omega)]; exact Ty.le_refl _
    · unfold levS
      rw [if_neg h]
      rfl
theorem bind_go (name : List UInt8) (hl : f.locals.length + 1 ≤ 12) (hB : B + 3 ≤ 200000) : ∃ (L' : List Fs), Go ns k ch (bindM k name) L f L' { f with locals := f.locals ++ [name], nslots := max f.nslots ((f.locals.length : Int) + 1), code := f.code ++ [(6, (f.locals.length : Int))] } n (B + 3) := by
  obtain ⟨L1, r1, r2, r3⟩ := declare_go hI name hl
  have h1 := emit_go r2 [(6, u16 (f.locals.length : Int))] (by simp; omega)
  rw [u16_id (by omega)] at h1
  refine ⟨_, (go_bindV (G := fun i s => emitM k [(6, u16 i)] s) r1 r3 (h1.congr fun s hs => by rw [u16_id (by omega)])).congr fun s hs => rfl⟩
end
/-- A store to a new slot. -/
theorem ck_set {g : Pg} {p : Pr} {X : List (Nat × Ty)} {o x D : Nat} {st : List Bool} {z : List Nat} {t1 : Ty} (hx : (x : Int) < p.nslots) (hx2 : x ≤ 12) (h2 : z[x]? ≠ some 2) (hD : st.length + 1 ≤ D) (hz : z.length ≤ p.nslots.toNat) (hl : (⟨st, z⟩ : Ty).le t1) : Ck g p X D o [(6, (x : Int))] ⟨st ++ [false], z⟩ t1 :=
  Ck.one (bB (by simp; omega) hz) (by dsimp only; omega) fun T hT he hL hn => .setL hT (by dsimp only; omega) (fun q => absurd q (by rw [show ((6 : Int), (x : Int)).2.toNat = x from rfl]; exact h2)) ⟨by omega, Ty.le_trans hl he⟩
section
variable {ns : List Nd}
theorem bs_nil {al lo n : Nat} {lp : Bool} : BsL ns al lp al lo lo 0 n n := by
  intro m k B ch L f z bt e j hm he hn hB hI hz hal hlo hlp
  obtain ⟨e, rfl⟩ : ∃ i, e = i + 1 := ⟨e - 1, by omega⟩
  refine ⟨L, f, [], [], j, fun s hs => ⟨s, ?_, hs⟩, ⟨hI.ln, hI.at_, hI.ch, hI.ko, hI.al, hI.kq, by have := hI.ms; omega⟩, .refl hI, by simp, (fun x hx => by cases hx), by simp, by simp [fill], .same (fun x hx => by cases hx), fun b X h g p hF hC => Ck.nil ?_, fun P E b br hF hE hB hA => .all fun m => ⟨1, ?_⟩⟩
  · unfold eachM
    rw [if_pos rfl]
  · simp only [List.length_nil, List.replicate_zero, List.append_nil]
    exact Ty.le_refl _
  · unfold stsS
    rw [if_pos rfl]
    exact ⟨rfl, rfl⟩
theorem holes_len : ∀ (c : List (Option In)) (o : Nat), (holes o c).length ≤ c.length
  | [], o => Nat.le_refl _
  | none :: c, o => by have := holes_len c (o + 1); simp only [holes, List.length_cons]; omega
  | some x :: c, o => by have := holes_len c (o + 1); simp only [holes, List.length_cons]; omega
theorem LpIn.grow {lp : Bool} {l l' : Lps} {al : Nat} {z : List Nat} {bt : Ty} {k o cl : Nat} {c : List (Option In)} (h : LpIn lp l al z bt cl) (hr : LpR k o lp l l' c) (w : List Nat) (hz : z.length = al) {al' : Nat} (ha : al ≤ al') {cl' : Nat} (hcl : cl + c.length ≤ cl') : LpIn lp l' al' (z ++ w) bt cl' := fun q => by
  obtain ⟨ls, base, ps, h1, h2, h3, h4⟩ := h q
  refine ⟨ls, base, _, hr.2 q _ _ _ h1, by omega, ?_, by have := holes_len c o; simp; omega⟩
  rw [List.take_append_of_le_length (by omega)]
  exact h3
theorem LpR.len {k o : Nat} {lp : Bool} {l l' : Lps} {c : List (Option In)} {al cl : Nat} {z : List Nat} {bt : Ty} (h : LpR k o lp l l' c) (hi : LpIn lp l al z bt cl) : l'.length = l.length := by
  cases lp with
  | false => rw [(h.1 rfl).1]
  | true =>
    obtain ⟨ls, base, ps, h1, _⟩ := hi rfl
    rw [h.2 rfl _ _ _ h1, h1]
    simp
theorem bs_cons {al al1 al2 lo m hi n n1 n2 : Nat} {lp : Bool} {d : Nd} {r : Int} (hd : ns[m]? = some d) (hnx : d.next = r) (ht : StL ns al lp al1 lo m m n n1) (hl : BsL ns al1 lp al2 m hi r n1 n2) (h1 : lo < m) (h2 : m ≤ hi) (h3 : n1 ≤ n2) : BsL ns al lp al2 lo hi m n n2 := by
  intro mm k B ch L f z bt e j hm he hn hB hI hz hal hlo hlp
  obtain ⟨e, rfl⟩ : ∃ i, e = i + 1 := ⟨e - 1, by omega⟩
  obtain ⟨L1, f1, nw1, c1, a1, a2, a3, a4, a5, a6, a7, a8⟩ := ht mm k B ch L f z bt (by omega) (by omega) (by omega) hI hz hal hlo hlp
  have hzl : z.length = al := by rw [hz.1, hal]
  have hc1 : f1.code.length = f.code.length + c1.length := by rw [a5, List.length_append, fill_len]
  obtain ⟨L2, f2, nw2, c2, j2, b1, b2, b3, b4, b5, b6, b7, b8, b9, b10⟩ := hl mm k _ ch L1 f1 (z ++ List.replicate nw1.length 0) bt e (j + 1) (by omega) (by omega) hn (by omega) a1.inv (by rw [a2]; exact hz.nw) (by rw [a2, List.length_append, hal, a4]) (by rw [a6.len hlp]; omega) (hlp.grow a6 _ hzl (by omega) (by omega))
  refine ⟨L2, f2, nw1 ++ nw2, c1 ++ c2, j2, fun s hs => ?_, ⟨b2.ln, b2.at_, b2.ch, b2.ko, b2.al, b2.kq, by have := b2.ms; omega⟩, a1.stp.trans b3, by rw [b4, a2, List.append_assoc], fun x hx => ?_, by rw [List.length_append]; omega, by rw [b7, a5, fill_app, List.append_assoc], a6.app (by rw [← hc1]; exact b8), fun b X h g p hF hC => ?_, fun P E b br hF hE hB hA => ?_⟩
  · obtain ⟨s1, e1, w1⟩ := a1.run s hs
    obtain ⟨s2, e2, w2⟩ := b1 s1 w1
    refine ⟨s2, ?_, w2⟩
    unfold eachM
    rw [if_neg (by omega), e1]
    show (if aliveC k s1 = true then _ else _) = _
    rw [if_pos (alive_ok w1 a1.inv.at_), nd_nat, hd]
    show eachM ns (aliveC k) ((recC ns mm).stmt k) e d.next (j + 1) s1 = _
    rw [hnx, e2]
  · rcases List.mem_append.1 hx with hx | hx
    · exact a3 x hx
    · exact b5 x hx
  · have k1 := (a7 b X h).up b3 a1.stp.kl.1 (Nat.le_refl _) g p hF hC
    have k2 := b9 b X h g p hF (hC.sub a1.stp.ln (Nat.le_refl _) fun _ _ _ => rfl)
    rw [hc1, ← fill_len b c1, List.append_assoc, List.replicate_append_replicate] at k2
    rw [fill_app, List.length_append]
    exact k1.app k2
  · rw [fill_app] at hA
    have t1 := a8 P E b br (hF.back b3 a1.inv.at_ b2.at_ a1.stp.kl.1) hE hB hA.left
    have t2 := b10 P E b br (hF.lo a1.stp.ln) (a1.stp.sco hE) (hB.grow a6) (hA.rightE (by rw [fill_len]; exact hc1))
    rw [hc1, Nat.add_assoc] at t2
    refine (t1.and t2).of fun m h => ?_
    obtain ⟨e, he⟩ := h.2
    refine ⟨e + 1, ?_⟩
    unfold stsS
    rw [if_neg (by omega)]
    exact ⟨_, _, d, h.1, (nd_nat ns _).trans hd, by rw [hnx, List.length_append]; exact he⟩
/-- A block. -/
theorem block_go {al al' lo hi n n' : Nat} {lp : Bool} {r : Int} (h : BsL ns al lp al' lo hi r n n') (hlh : lo ≤ hi) {m k B : Nat} {ch : List Nat} {L : List Fs} {f : Fs} {z : List Nat} {bt : Ty} (hm : hi + 1 ≤ m ∧ hi ≤ 1000) (hns : hi < ns.length) (hn : n' ≤ 12) (hB : B + 100 * (hi - lo) ≤ 40000) (hI : Inv ns k ch L f n B) (hz : Zl z f.locals) (hal : f.locals.length = al) (hlo : f.loops.length ≤ lo) (hlp : LpIn lp f.loops al z bt f.code.length) :
    ∃ (L' : List Fs) (f' : Fs) (c : List (Option In)), Go ns k ch (blockM ns (recC ns m) k r) L f L' f' n' (B + 100 * (hi - lo) + 3) ∧ f'.locals = f.locals ∧ f'.code = f.code ++ fill 65535 c ∧ LpR k f.code.length lp f.loops f'.loops c ∧
      (∀ (b : Nat) (X : List (Nat × Ty)), (lp = true → b ≤ 65535 ∧ (b, bt) ∈ X) → Cd L' f' L.length X 128 f.code.length (fill b c) ⟨[], z⟩ ⟨[], z⟩) ∧ ShK ns lp k ch L f L' c r := by
  obtain ⟨L1, f1, nw, c1, j, b1, b2, b3, b4, b5, b6, b7, b8, b9, b10⟩ := h m k B ch L f z bt (ns.length + 1) 0 hm (by omega) hn hB hI hz hal hlo hlp
  obtain ⟨L2, f2, c2, a1, a2, a3, a4, a5, a6, a7⟩ := leave_go b2 f.locals.length (by rw [b4, List.length_append]; omega) (by omega)
  have hc1 : f1.code.length = f.code.length + c1.length := by rw [b7, List.length_append, fill_len]
  refine ⟨L2, f2, c1 ++ c2.map some, (go_bindV (G := fun _ s => leaveM k f.locals.length s) b1 b3 a1).congr fun s hs => ?_, ?_, ?_, ?_, fun b X hX g p hF hC => ?_, fun P E b br hF hE hB hA => ?_⟩
  · unfold blockM
    rw [hs.get hI.at_]
    rfl
  · rw [a2, b4, List.take_left]
  · rw [a4, b7, fill_app, fill_some, List.append_assoc]
  · rw [a3]
    exact b8.app (.same (some_map _))
  · have k1 := (b9 b X hX).up a1.stp b3.kl.1 (Nat.le_refl _) g p hF hC
    have k2 := a6 (z ++ List.replicate nw.length 0) X g p (by rw [b4, List.length_append, List.length_append, hz.1]; simp) hF
    rw [hc1, ← fill_len b c1, ← hz.1, List.take_left] at k2
    rw [fill_app, fill_some]
    exact k1.app k2
  · rw [fill_app, fill_some] at hA
    have t1 := b10 P E b br (hF.back a1.stp b2.at_ a1.inv.at_ b3.kl.1) hE hB hA.left
    have t2 := a7 P (hA.rightE (by rw [fill_len]; exact hc1))
    rw [hc1, Nat.add_assoc] at t2
    refine t1.of fun m h => ?_
    obtain ⟨e, he⟩ := h
    exact ⟨e, _, _, he, by rw [b4, List.length_append]; omega, by rw [List.length_append, List.length_map]; exact t2⟩
end
end Go.Wl
