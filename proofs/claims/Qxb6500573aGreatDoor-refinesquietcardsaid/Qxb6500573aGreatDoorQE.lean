/- Plain: the compiler: what is typed, what changes. -/
import Derived.Test.Qxb6500573aGreatDoorQD
namespace Go.Wl
open Go Go.Sl Go.Proofs
set_option linter.unusedVariables false
variable {ns : List Nd}
/-- The program g and its function p hold at least what f holds. -/
structure EnvF (g : Pg) (p : Pr) (f : Fs) : Prop where
  sl : f.nslots ≤ p.nslots
  up : (f.ups.length : Int) ≤ p.nup
  ks : ∀ (x : Nat) c, f.consts[x]? = some c → (x : Int) < p.nk ∧ g.consts[(p.k + x).toNat]? = some c
def EnvC (g : Pg) (L : List Fs) (a b : Nat) : Prop := ∀ y h, a ≤ y → y < b → L[y]? = some h → ∃ q, g.protos[y]? = some q ∧ (g.descs.drop q.up.toNat).take q.nup.toNat = h.ups
structure Fx (f f' : Fs) : Prop where
  pa : f'.parent = f.parent
  np : f'.nparams = f.nparams
  up : f.ups <+: f'.ups
  ks : f.consts <+: f'.consts
  sl : f.nslots ≤ f'.nslots
theorem Fx.refl (f : Fs) : Fx f f := ⟨rfl, rfl, List.prefix_refl _, List.prefix_refl _, Int.le_refl _⟩
theorem Fx.trans {a b c : Fs} (h1 : Fx a b) (h2 : Fx b c) : Fx a c := ⟨h2.pa.trans h1.pa, h2.np.trans h1.np, h1.up.trans h2.up, h1.ks.trans h2.ks, Int.le_trans h1.sl h2.sl⟩
theorem pfx_at {α : Type} {a b : List α} (h : a <+: b) {i : Nat} {x : α} (hx : a[i]? = some x) : b[i]? = some x := by
  obtain ⟨t, rfl⟩ := h
  rw [List.getElem?_append_left (lt_of hx)]; exact hx
theorem EnvF.mono {g : Pg} {p : Pr} {f f' : Fs} (h : EnvF g p f') (hx : Fx f f') : EnvF g p f :=
  ⟨Int.le_trans hx.sl h.sl, by have := h.up; have := hx.up.length_le; omega, fun x c hc => h.ks x c (pfx_at hx.ks hc)⟩
/-! Code that is typed. -/
def Lab (p : Pr) (T : Nat → Ty) (X : List (Nat × Ty)) : Prop := ∀ x, x ∈ X → (x.1 : Int) < p.ncode ∧ x.2.le (T x.1)
def Ck (g : Pg) (p : Pr) (X : List (Nat × Ty)) (B o : Nat) (l : List In) (t0 t1 : Ty) : Prop :=
  ∃ ts : List Ty, ts.length = l.length ∧ (∀ t, (ts ++ [t1])[0]? = some t → t0.le t) ∧ (∀ t, t ∈ ts → t.st.length ≤ B ∧ t.z.length ≤ p.nslots.toNat) ∧
    ∀ T : Nat → Ty, (∀ j t, ts[j]? = some t → T (o + j) = t) → t1.le (T (o + l.length)) → Lab p T X → ((o + l.length : Nat) : Int) < p.ncode →
      ∀ j i, l[j]? = some i → (0 ≤ i.2 ∧ i.2 ≤ 65535) ∧ InsOk g p T (o + j) i.1 i.2
section
variable {g : Pg} {p : Pr} {X : List (Nat × Ty)} {B o : Nat} {l l2 : List In} {t0 t1 t2 : Ty}
theorem Ck.nil (h : t0.le t1) : Ck g p X B o [] t0 t1 := ⟨[], rfl, fun t ht => by injection ht with ht; subst ht; exact h, (fun t ht => by cases ht), (fun _ _ _ _ _ j i hi => by cases hi)⟩
theorem Ck.pre (h : Ck g p X B o l t1 t2) (hl : t0.le t1) : Ck g p X B o l t0 t2 := by
  obtain ⟨ts, h1, h2, h3⟩ := h
  exact ⟨ts, h1, fun t ht => Ty.le_trans hl (h2 t ht), h3⟩
theorem Ck.post (h : Ck g p X B o l t0 t1) (hl : t1.le t2) : Ck g p X B o l t0 t2 := by
  obtain ⟨ts, h1, h2, h3, h4⟩ := h
  refine ⟨ts, h1, fun t ht => ?_, h3, fun T hT he => h4 T hT (Ty.le_trans hl he)⟩
  cases ts with
  | nil => injection ht with ht; subst ht; exact Ty.le_trans (h2 _ rfl) hl
  | cons a ts => exact h2 t ht
theorem Ck.app (h : Ck g p X B o l t0 t1) (h2 : Ck g p X B (o + l.length) l2 t1 t2) : Ck g p X B o (l ++ l2) t0 t2 := by
  obtain ⟨ts, a1, a2, a3, a4⟩ := h
  obtain ⟨us, b1, b2, b3, b4⟩ := h2
  refine ⟨ts ++ us, by simp [a1, b1], fun t ht => ?_, fun t ht => ?_, fun T hT he hL hn j i hi => ?_⟩
  · cases ts with
    | nil => exact Ty.le_trans (a2 _ rfl) (b2 t ht)
    | cons a ts => exact a2 t ht
  · rcases List.mem_append.1 ht with ht | ht
    · exact a3 t ht
    · exact b3 t ht
  · rw [List.length_append] at he hn
    have hT1 : ∀ j t, ts[j]? = some t → T (o + j) = t := fun j t ht => hT j t (by rw [List.getElem?_append_left (lt_of ht)]; exact ht)
    have hT2 : ∀ j t, us[j]? = some t → T (o + l.length + j) = t := fun j t ht => by
      have := hT (ts.length + j) t (by rw [List.getElem?_append_right (by omega), show ts.length + j - ts.length = j from by omega]; exact ht)
      rw [← this]
      congr 1
      omega
    have hm : t1.le (T (o + l.length)) := by
      cases us with
      | nil =>
        have e0 : l2 = [] := List.length_eq_zero_iff.1 b1.symm
        subst e0
        exact Ty.le_trans (b2 _ rfl) he
      | cons u us =>
        have := hT2 0 u rfl
        rw [Nat.add_zero] at this
        rw [this]
        exact b2 u rfl
    by_cases hj : j < l.length
    · rw [List.getElem?_append_left hj] at hi
      exact a4 T hT1 hm hL (by omega) j i hi
    · rw [List.getElem?_append_right (by omega)] at hi
      have := b4 T hT2 (by rw [Nat.add_assoc]; exact he) hL (by omega) (j - l.length) i hi
      rw [show o + l.length + (j - l.length) = o + j from by omega] at this
      exact this
theorem Ck.one {i : In} (hb : t0.st.length ≤ B ∧ t0.z.length ≤ p.nslots.toNat) (hi : 0 ≤ i.2 ∧ i.2 ≤ 65535) (h : ∀ T : Nat → Ty, T o = t0 → t1.le (T (o + 1)) → Lab p T X → ((o + 1 : Nat) : Int) < p.ncode → InsOk g p T o i.1 i.2) : Ck g p X B o [i] t0 t1 := by
  refine ⟨[t0], rfl, fun t ht => ?_, fun t ht => ?_, fun T hT he hL hn j i' hi' => ?_⟩
  · injection ht with ht; subst ht; exact Ty.le_refl _
  · rw [List.mem_singleton] at ht; subst ht; exact hb
  · cases j with
    | zero =>
      injection hi' with hi'
      subst hi'
      exact ⟨hi, h T (hT 0 t0 rfl) he hL hn⟩
    | succ j => cases hi'
theorem Ck.weak {X' : List (Nat × Ty)} {B' : Nat} (h : Ck g p X B o l t0 t1) (hX : ∀ x, x ∈ X → x ∈ X') (hB : B ≤ B') : Ck g p X' B' o l t0 t1 := by
  obtain ⟨ts, h1, h2, h3, h4⟩ := h
  exact ⟨ts, h1, h2, fun t ht => ⟨Nat.le_trans (h3 t ht).1 hB, (h3 t ht).2⟩, fun T hT he hL => h4 T hT he fun x hx => hL x (hX x hx)⟩
theorem Ck.resEnd (h : Ck g p ((o + l.length, t1) :: X) B o l t0 t1) : Ck g p X B o l t0 t1 := by
  obtain ⟨ts, h1, h2, h3, h4⟩ := h
  refine ⟨ts, h1, h2, h3, fun T hT he hL hn => h4 T hT he (fun x hx => ?_) hn⟩
  rcases List.mem_cons.1 hx with rfl | hx
  · exact ⟨hn, he⟩
  · exact hL x hx
theorem Ck.resStart (h : Ck g p ((o, t0) :: X) B o l t0 t1) : Ck g p X B o l t0 t1 := by
  obtain ⟨ts, h1, h2, h3, h4⟩ := h
  refine ⟨ts, h1, h2, h3, fun T hT he hL hn => h4 T hT he (fun x hx => ?_) hn⟩
  rcases List.mem_cons.1 hx with rfl | hx
  · refine ⟨by dsimp only; omega, ?_⟩
    cases ts with
    | nil =>
      have e0 : l = [] := List.length_eq_zero_iff.1 h1.symm
      subst e0
      exact Ty.le_trans (h2 _ rfl) he
    | cons a ts =>
      have := hT 0 a rfl
      rw [Nat.add_zero] at this
      show t0.le (T o)
      rw [this]
      exact h2 a rfl
  · exact hL x hx
end
/-- Typed code of the function f, L: all functions; those from a on are the function's own literals. -/
def Cd (L : List Fs) (f : Fs) (a : Nat) (X : List (Nat × Ty)) (B o : Nat) (l : List In) (t0 t1 : Ty) : Prop := ∀ g p, EnvF g p f → EnvC g L a L.length → Ck g p X B o l t0 t1
structure FnOk (L : List Fs) (x b : Nat) (f : Fs) : Prop where
  np : 0 ≤ f.nparams ∧ f.nparams ≤ 3 ∧ f.nparams ≤ f.nslots ∧ f.nslots ≤ 12
  ul : f.ups.length ≤ 255
  us : ∀ d, d ∈ f.ups → (0 ≤ d.1 ∧ d.1 ≤ 1) ∧ 0 ≤ d.2 ∧ d.2 < 256
  ko : KOk f
  cn : 0 < f.code.length
  ty : ∀ g p, EnvF g p f → EnvC g L (x + 1) b → p.ncode = f.code.length → ∃ T : Nat → Ty, ((T 0).st = [] ∧ ∀ s : Nat, (T 0).z[s]? ≠ some 2) ∧ ∀ pc i, f.code[pc]? = some i → ((T pc).st.length ≤ 128 ∧ (T pc).z.length ≤ p.nslots.toNat) ∧ (0 ≤ i.2 ∧ i.2 ≤ 65535) ∧ InsOk g p T pc i.1 i.2
def DN (L : List Fs) (a b : Nat) : Prop := ∀ x f, a ≤ x → x < b → L[x]? = some f → FnOk L x b f
structure Stp (k : Nat) (ch : List Nat) (L : List Fs) (f : Fs) (L' : List Fs) (f' : Fs) : Prop where
  ln : L.length ≤ L'.length
  kl : k < L.length ∧ ∀ y, y ∈ ch → y < k
  ag : ∀ y, y ≠ k → y ∉ ch → y < L.length → L'[y]? = L[y]?
  up : ∀ y g, y ∈ ch → L[y]? = some g → ∃ u, L'[y]? = some { g with ups := g.ups ++ u }
  fx : Fx f f'
  dn : DN L' L.length L'.length
structure Inv (ns : List Nd) (k : Nat) (ch : List Nat) (L : List Fs) (f : Fs) (n B : Nat) : Prop where
  ln : L.length = n + 1
  at_ : L[k]? = some f
  ch : Chn L (k :: ch)
  ko : KOk f
  al : (f.locals.length : Int) ≤ f.nslots ∧ f.nslots ≤ 12
  kq : ∀ v, v ∈ f.consts → KS ns v
  ms : Mz L ≤ B
theorem EnvC.sub {g : Pg} {L L' : List Fs} {a b a' b' : Nat} (h : EnvC g L' a' b') (ha : a' ≤ a) (hb : b ≤ b') (hag : ∀ y, a ≤ y → y < b → L'[y]? = L[y]?) : EnvC g L a b := fun y q h1 h2 h3 => h y q (by omega) (by omega) (by rw [hag y h1 h2]; exact h3)
theorem Stp.agr {k : Nat} {ch : List Nat} {L L' : List Fs} {f f' : Fs} (h : Stp k ch L f L' f') {a : Nat} (ha : k < a) : ∀ y, a ≤ y → y < L.length → L'[y]? = L[y]? := fun y h1 h2 =>
  h.ag y (by omega) (fun q => by have := h.kl.2 y q; omega) h2
theorem Stp.trans {k : Nat} {ch : List Nat} {L L1 L2 : List Fs} {f f1 f2 : Fs} (h1 : Stp k ch L f L1 f1) (h2 : Stp k ch L1 f1 L2 f2) : Stp k ch L f L2 f2 := by
  refine ⟨Nat.le_trans h1.ln h2.ln, h1.kl, fun y a b c => ?_, fun y g a b => ?_, h1.fx.trans h2.fx, fun x f a b c => ?_⟩
  · rw [h2.ag y a b (by have := h1.ln; omega), h1.ag y a b c]
  · obtain ⟨u, e1⟩ := h1.up y g a b
    obtain ⟨v, e2⟩ := h2.up y _ a e1
    exact ⟨u ++ v, by rw [e2]; simp⟩
  · have hag := h2.agr h1.kl.1
    by_cases hx : x < L1.length
    · have := h1.dn x f a hx (by rw [← hag x a hx]; exact c)
      exact ⟨this.np, this.ul, this.us, this.ko, this.cn, fun g p hF hC hn => this.ty g p hF (hC.sub (Nat.le_refl _) h2.ln fun y q1 q2 => hag y (by omega) q2) hn⟩
    · exact h2.dn x f (by omega) b c
theorem Cd.up {k : Nat} {ch : List Nat} {L1 L2 : List Fs} {f1 f2 : Fs} {a a' : Nat} {X : List (Nat × Ty)} {B o : Nat} {l : List In} {t0 t1 : Ty} (h : Cd L1 f1 a X B o l t0 t1) (hs : Stp k ch L1 f1 L2 f2) (hk : k < a) (ha : a' ≤ a) : Cd L2 f2 a' X B o l t0 t1 := fun g p hF hC =>
  h g p (hF.mono hs.fx) (hC.sub ha hs.ln (hs.agr hk))
/-- The step: it runs, it keeps what holds, it changes what it may. -/
structure Go (ns : List Nd) (k : Nat) (ch : List Nat) (F : CS → Option CS) (L : List Fs) (f : Fs) (L' : List Fs) (f' : Fs) (n' B' : Nat) : Prop where
  run : RunQ F L L'
  inv : Inv ns k ch L' f' n' B'
  stp : Stp k ch L f L' f'
theorem Stp.refl {k : Nat} {ch : List Nat} {L : List Fs} {f : Fs} {n B : Nat} (h : Inv ns k ch L f n B) : Stp k ch L f L f :=
  ⟨Nat.le_refl _, ⟨lt_of h.at_, fun y hy => h.ch.lt y hy⟩, fun _ _ _ _ => rfl, fun y g a b => ⟨[], by rw [b]; simp⟩, .refl _, fun x f a b => by omega⟩
theorem Go.trans {k : Nat} {ch : List Nat} {F G : CS → Option CS} {L L1 L2 : List Fs} {f f1 f2 : Fs} {n1 B1 n2 B2 : Nat} (h1 : Go ns k ch F L f L1 f1 n1 B1) (h2 : Go ns k ch G L1 f1 L2 f2 n2 B2) : Go ns k ch (fun s => bind1 (F s) G) L f L2 f2 n2 B2 :=
  ⟨fun s hs => by
    obtain ⟨s1, e1, r1⟩ := h1.run s hs
    obtain ⟨s2, e2, r2⟩ := h2.run s1 r1
    exact ⟨s2, by rw [e1]; exact e2, r2⟩, h2.inv, h1.stp.trans h2.stp⟩
theorem Go.congr {k : Nat} {ch : List Nat} {F G : CS → Option CS} {L L' : List Fs} {f f' : Fs} {n' B' : Nat} (h : Go ns k ch F L f L' f' n' B') (he : ∀ s, Rep s L → G s = F s) : Go ns k ch G L f L' f' n' B' :=
  ⟨fun s hs => by rw [he s hs]; exact h.run s hs, h.inv, h.stp⟩
theorem Go.mono {k : Nat} {ch : List Nat} {F : CS → Option CS} {L L' : List Fs} {f f' : Fs} {n' B' B'' : Nat} (h : Go ns k ch F L f L' f' n' B') (hB : B' ≤ B'') : Go ns k ch F L f L' f' n' B'' :=
  ⟨h.run, ⟨h.inv.ln, h.inv.at_, h.inv.ch, h.inv.ko, h.inv.al, h.inv.kq, Nat.le_trans h.inv.ms hB⟩, h.stp⟩
/-- A change of the function itself. -/
theorem own_go {k : Nat} {ch : List Nat} {L : List Fs} {f f' : Fs} {n B e : Nat} {F : CS → Option CS} (hI : Inv ns k ch L f n B) (hF : ∀ s, s.get k = some f → F s = some (s.put k f')) (hl : f'.live = f.live) (hx : Fx f f') (hu : f'.ups = f.ups) (hk : KOk f') (ha : (f'.locals.length : Int) ≤ f'.nslots ∧ f'.nslots ≤ 12) (hc : cost f' ≤ cost f + e) (hq : ∀ v, v ∈ f'.consts → KS ns v) : Go ns k ch F L f (L.set k f') f' n (B + e) := by
  have hlt := lt_of hI.at_
  refine ⟨fun s hs => ⟨s.put k f', hF s (hs.get hI.at_), hs.put hI.at_ (by rw [hl]; exact hs.lv f (List.mem_of_getElem? hI.at_))⟩, ⟨by simpa using hI.ln, List.getElem?_set_self hlt, ?_, hk, ha, hq, ?_⟩, ?_⟩
  · exact hI.ch.own hI.at_ (List.getElem?_set_self hlt) hx.pa hu fun y hy => List.getElem?_set_ne (by have := hI.ch.lt y hy; omega)
  · have := Mz_set f' hI.at_
    have := hI.ms
    omega
  · refine ⟨by simp, ⟨hlt, fun y hy => hI.ch.lt y hy⟩, fun y a b c => List.getElem?_set_ne (by omega), fun y g a b => ⟨[], ?_⟩, hx, fun x f a b => by simp at b; omega⟩
    rw [List.getElem?_set_ne (by have := hI.ch.lt y a; omega), b]
    simp
theorem own_goV {α : Type} {k : Nat} {ch : List Nat} {L : List Fs} {f f' : Fs} {n B e : Nat} {F : CS → Option (α × CS)} {v : α} (hI : Inv ns k ch L f n B) (hF : ∀ s, s.get k = some f → F s = some (v, s.put k f')) (hl : f'.live = f.live) (hx : Fx f f') (hu : f'.ups = f.ups) (hk : KOk f') (ha : (f'.locals.length : Int) ≤ f'.nslots ∧ f'.nslots ≤ 12) (hc : cost f' ≤ cost f + e) (hq : ∀ v, v ∈ f'.consts → KS ns v) :
    ∃ L', RunV F L v L' ∧ Inv ns k ch L' f' n (B + e) ∧ Stp k ch L f L' f' := by
  have h := own_go (F := fun s => some (s.put k f')) hI (fun _ _ => rfl) hl hx hu hk ha hc hq
  refine ⟨L.set k f', fun s hs => ?_, h.inv, h.stp⟩
  obtain ⟨s', e1, r1⟩ := h.run s hs
  injection e1 with e1
  exact ⟨s', by rw [hF s (hs.get hI.at_), e1], r1⟩
theorem Inv.code {k : Nat} {ch : List Nat} {L : List Fs} {f : Fs} {n B : Nat} (h : Inv ns k ch L f n B) : 3 * f.code.length + 2 * f.consts.length + 7 ≤ B := by
  have h1 := Mz_ge h.at_
  have h2 := h.ms
  have h3 := cbs_ge f.consts
  unfold cost at h1
  omega
theorem KOk.congr {f f' : Fs} (h : KOk f) (h1 : f'.consts = f.consts) (h2 : f'.nums = f.nums) (h3 : f'.strs = f.strs) : KOk f' := ⟨by rw [h2, h1]; exact h.nu, by rw [h3, h1]; exact h.st, by rw [h1]; exact h.cs, by rw [h1, h2, h3]; exact h.kn, by rw [h1, h2, h3]; exact h.kl⟩
section
variable {k : Nat} {ch : List Nat} {L : List Fs} {f : Fs} {n B : Nat} (hI : Inv ns k ch L f n B)
include hI
theorem emit_go (l : List In) (hB : B + 3 * l.length ≤ 200000) : Go ns k ch (emitM k l) L f (L.set k { f with code := f.code ++ l }) { f with code := f.code ++ l } n (B + 3 * l.length) := by
  have hc := hI.code
  refine own_go hI (fun s hs => ?_) rfl ⟨rfl, rfl, List.prefix_refl _, List.prefix_refl _, Int.le_refl _⟩ rfl (hI.ko.congr rfl rfl rfl) hI.al ?_ hI.kq
  · unfold emitM
    rw [hs]
    show (if _ then _ else _) = _
    rw [if_pos (by omega)]
  · unfold cost
    simp only [List.length_append]
    omega
theorem declare_go (name : List UInt8) (hl : f.locals.length + 1 ≤ 12) : ∃ L', RunV (declareM k name) L (f.locals.length : Int) L' ∧ Inv ns k ch L' { f with locals := f.locals ++ [name], nslots := max f.nslots ((f.locals.length : Int) + 1) } n B ∧ Stp k ch L f L' { f with locals := f.locals ++ [name], nslots := max f.nslots ((f.locals.length : Int) + 1) } := by
  have ha := hI.al
  have := own_goV (F := declareM k name) (v := (f.locals.length : Int)) (e := 0) (f' := { f with locals := f.locals ++ [name], nslots := max f.nslots ((f.locals.length : Int) + 1) }) hI (fun s hs => by
    unfold declareM
    rw [hs]
    show (if _ then _ else _) = _
    rw [if_pos (by omega)]) rfl ⟨rfl, rfl, List.prefix_refl _, List.prefix_refl _, by dsimp only; omega⟩ rfl (hI.ko.congr rfl rfl rfl) (by simp; omega) (by unfold cost; exact Nat.le_refl _) hI.kq
  exact this
theorem cut_go (base : Nat) (hb : base ≤ f.locals.length) : Go ns k ch (cutM k base) L f (L.set k { f with locals := f.locals.take base }) { f with locals := f.locals.take base } n (B + 0) := by
  have ha := hI.al
  refine own_go hI (fun s hs => ?_) rfl ⟨rfl, rfl, List.prefix_refl _, List.prefix_refl _, Int.le_refl _⟩ rfl (hI.ko.congr rfl rfl rfl) (by simp; omega) (by unfold cost; exact Nat.le_refl _) hI.kq
  unfold cutM
  rw [hs]
  show (if _ then _ else _) = _
  rw [if_pos (by omega)]
  rfl
theorem patch_go (a : Nat) (ha : a < f.code.length) : Go ns k ch (patchM k a) L f (L.set k { f with code := f.code.set a ((f.code.getD a (0, 0)).1, u16 f.code.length) }) { f with code := f.code.set a ((f.code.getD a (0, 0)).1, u16 f.code.length) } n (B + 0) := by
  refine own_go hI (fun s hs => ?_) rfl ⟨rfl, rfl, List.prefix_refl _, List.prefix_refl _, Int.le_refl _⟩ rfl (hI.ko.congr rfl rfl rfl) hI.al (by unfold cost; simp) hI.kq
  unfold patchM
  rw [hs]
  show (if _ then _ else _) = _
  rw [if_pos (by omega)]
  rfl
theorem open_go (base : Int) (hl : f.loops.length < 1000) : Go ns k ch (openM k base) L f (L.set k { f with loops := f.loops ++ [(base, [])] }) { f with loops := f.loops ++ [(base, [])] } n (B + 0) := by
  refine own_go hI (fun s hs => ?_) rfl ⟨rfl, rfl, List.prefix_refl _, List.prefix_refl _, Int.le_refl _⟩ rfl (hI.ko.congr rfl rfl rfl) hI.al (by unfold cost; exact Nat.le_refl _) hI.kq
  unfold openM
  rw [hs]
  show (if _ then _ else _) = _
  rw [if_pos (by omega)]
theorem jump_go (op : Int) (hB : B + 3 ≤ 200000) : ∃ L', RunV (jumpM k op) L (f.code.length : Int) L' ∧ Inv ns k ch L' { f with code := f.code ++ [(op, 65535)] } n (B + 3) ∧ Stp k ch L f L' { f with code := f.code ++ [(op, 65535)] } := by
  have h := emit_go hI [(op, 65535)] (by simpa using hB)
  refine ⟨_, fun s hs => ?_, h.inv, h.stp⟩
  obtain ⟨s', e1, r1⟩ := h.run s hs
  refine ⟨s', ?_, r1⟩
  unfold jumpM
  rw [hs.get hI.at_]
  show bind1 (emitM k [(op, 65535)] s) _ = _
  rw [e1]
  rfl
end
end Go.Wl
