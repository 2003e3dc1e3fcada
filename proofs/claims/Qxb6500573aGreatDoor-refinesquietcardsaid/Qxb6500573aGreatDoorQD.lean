/- Plain: the compiler's state seen as the list of the functions laid so far. -/
import Derived.Test.Qxb6500573aGreatDoorQC
import Derived.Test.Qxb6500573aGreatDoorBN
import Derived.Test.Qxb6500573aGreatDoorCA
import Derived.Test.Qxb6500573aGreatDoorAJ
namespace Go.Wl
open Go Go.Sl Go.Proofs
set_option linter.unusedVariables false
structure Rep (s : CS) (L : List Fs) : Prop where
  np : s.np = L.length
  len : s.fs.length = 13
  le : L.length ≤ 13
  tk : ∀ x, x < L.length → s.fs[x]? = L[x]?
  lv : ∀ f, f ∈ L → f.live = true
def RunQ (F : CS → Option CS) (L L' : List Fs) : Prop := ∀ s, Rep s L → ∃ s', F s = some s' ∧ Rep s' L'
def RunV {α : Type} (F : CS → Option (α × CS)) (L : List Fs) (v : α) (L' : List Fs) : Prop := ∀ s, Rep s L → ∃ s', F s = some (v, s') ∧ Rep s' L'
theorem lt_of {α : Type} {l : List α} {i : Nat} {x : α} (h : l[i]? = some x) : i < l.length := (List.getElem?_eq_some_iff.1 h).1
theorem Rep.get {s : CS} {L : List Fs} (h : Rep s L) {k : Nat} {f : Fs} (hk : L[k]? = some f) : s.get k = some f := by
  unfold CS.get
  rw [h.tk k (lt_of hk), hk]
  dsimp only
  rw [if_pos (h.lv f (List.mem_of_getElem? hk))]
theorem Rep.put {s : CS} {L : List Fs} (h : Rep s L) {k : Nat} {f f' : Fs} (hk : L[k]? = some f) (hl : f'.live = true) : Rep (s.put k f') (L.set k f') := by
  have hlt := lt_of hk
  refine ⟨by simpa [CS.put] using h.np, by simpa [CS.put] using h.len, by simpa using h.le, fun x hx => ?_, fun g hg => ?_⟩
  · rw [List.length_set] at hx
    unfold CS.put
    dsimp only
    by_cases e : k = x
    · subst e
      rw [List.getElem?_set_self (by have := h.len; have := h.le; omega), List.getElem?_set_self hlt]
    · rw [List.getElem?_set_ne e, List.getElem?_set_ne e]; exact h.tk x hx
  · rcases List.mem_or_eq_of_mem_set hg with hg | rfl
    · exact h.lv g hg
    · exact hl
/-! The size of what is laid. -/
def cb (v : V) : Nat := if v.t = 2 then 9 else 2 + v.s.length
def cbs : List V → Nat
  | [] => 0
  | v :: l => cb v + cbs l
theorem cbs_app : ∀ a b : List V, cbs (a ++ b) = cbs a + cbs b
  | [], b => by simp [cbs]
  | v :: a, b => by simp only [List.cons_append, cbs, cbs_app a b]; omega
def cost (f : Fs) : Nat := 7 + 2 * f.ups.length + cbs f.consts + 3 * f.code.length
def Mz : List Fs → Nat
  | [] => 0
  | f :: l => cost f + Mz l
theorem Mz_app : ∀ a b : List Fs, Mz (a ++ b) = Mz a + Mz b
  | [], b => by simp [Mz]
  | v :: a, b => by simp only [List.cons_append, Mz, Mz_app a b]; omega
theorem Mz_set : ∀ {L : List Fs} {k : Nat} {f : Fs} (f' : Fs), L[k]? = some f → Mz (L.set k f') + cost f = Mz L + cost f'
  | [], k, f, f', h => by cases h
  | g :: L, 0, f, f', h => by
    injection h with h
    subst h
    rw [List.set_cons_zero]
    unfold Mz
    omega
  | g :: L, k + 1, f, f', h => by
    rw [List.set_cons_succ]
    unfold Mz
    have := Mz_set (L := L) (k := k) f' h
    omega
theorem Mz_ge : ∀ {L : List Fs} {k : Nat} {f : Fs}, L[k]? = some f → cost f ≤ Mz L
  | [], k, f, h => by cases h
  | g :: L, 0, f, h => by
    injection h with h
    subst h
    unfold Mz
    omega
  | g :: L, k + 1, f, h => by
    have := Mz_ge (L := L) (k := k) h
    unfold Mz
    omega
/-- The constants in form. -/
structure KOk (f : Fs) : Prop where
  nu : ∀ b i, mfind f.nums b = some i → 0 ≤ i ∧ f.consts[i.toNat]? = some ⟨2, b, []⟩
  st : ∀ t i, mfind f.strs t = some i → 0 ≤ i ∧ f.consts[i.toNat]? = some ⟨3, 0, t⟩
  cs : ∀ v, v ∈ f.consts → okC v
  kn : ∀ (i : Nat) v, f.consts[i]? = some v → (v.t = 2 → mfind f.nums v.n = some (i : Int)) ∧ (v.t ≠ 2 → mfind f.strs v.s = some (i : Int))
  kl : f.nums.length + f.strs.length = f.consts.length
/-- A constant of these nodes. -/
def KS (ns : List Nd) (v : V) : Prop := v = ⟨2, 4607182418800017408, []⟩ ∨ ∃ (i : Nat) (d : Nd), ns[i]? = some d ∧ (d.k = 15 ∨ d.k = 16 ∨ d.k = 17) ∧ v = (if d.k = 15 then ⟨2, d.n, []⟩ else ⟨3, 0, d.s⟩)
theorem mfind_app {α β : Type} [DecidableEq α] {k x : α} {v : β} : ∀ {l : List (α × β)} {w : β}, mfind (l ++ [(k, v)]) x = some w → mfind l x = some w ∨ (w = v ∧ x = k)
  | [], w, h => by
    rw [List.nil_append] at h
    unfold mfind at h
    split at h
    · rename_i e; injection h with h; exact .inr ⟨h.symm, e⟩
    · cases h
  | (a, b) :: l, w, h => by
    rw [List.cons_append] at h
    unfold mfind at h ⊢
    split at h
    · rename_i e; rw [if_pos e]; exact .inl h
    · rename_i e; rw [if_neg e]; exact mfind_app h
theorem mfind_old {α β : Type} [DecidableEq α] {k x : α} {v w : β} : ∀ {l : List (α × β)}, mfind l x = some w → mfind (l ++ [(k, v)]) x = some w
  | [], h => by cases h
  | (a, b) :: l, h => by
    rw [List.cons_append]
    unfold mfind at h ⊢
    split
    · rename_i e; rw [if_pos e] at h; exact h
    · rename_i e; rw [if_neg e] at h; exact mfind_old h
theorem mfind_new {α β : Type} [DecidableEq α] {x : α} {v : β} : ∀ {l : List (α × β)}, mfind l x = none → mfind (l ++ [(x, v)]) x = some v
  | [], h => by
    rw [List.nil_append]
    unfold mfind
    rw [if_pos rfl]
  | (a, b) :: l, h => by
    rw [List.cons_append]
    unfold mfind at h ⊢
    split
    · rename_i e; rw [if_pos e] at h; cases h
    · rename_i e; rw [if_neg e] at h; exact mfind_new h
theorem cbs_ge : ∀ l : List V, 2 * l.length ≤ cbs l
  | [] => Nat.le_refl _
  | v :: l => by
    have := cbs_ge l
    have : 2 ≤ cb v := by unfold cb; split <;> omega
    simp only [cbs, List.length_cons]
    omega
/-- The upvalues of a function, g: its parent. -/
def UpsOk (ups : List (Int × Int)) (g : Fs) : Prop := ∀ d, d ∈ ups → (d.1 = 1 ∧ 0 ≤ d.2 ∧ ∃ nm, g.locals[d.2.toNat]? = some nm ∧ nm ≠ []) ∨ (d.1 = 0 ∧ 0 ≤ d.2 ∧ d.2 < g.ups.length)
/-- The functions that are amid their laying, from the innermost to the outermost. -/
def Chn (L : List Fs) : List Nat → Prop
  | [] => False
  | [k] => ∃ f, L[k]? = some f ∧ f.parent = none ∧ f.ups = []
  | k :: p :: r => (∃ f g, L[k]? = some f ∧ L[p]? = some g ∧ f.parent = some p ∧ p < k ∧ UpsOk f.ups g ∧ f.ups.Nodup ∧ g.locals.length ≤ 12) ∧ Chn L (p :: r)
theorem Chn.lt {L : List Fs} : ∀ {ch : List Nat} {k : Nat}, Chn L (k :: ch) → ∀ y, y ∈ ch → y < k
  | [], k, h, y, hy => by cases hy
  | p :: r, k, h, y, hy => by
    obtain ⟨⟨f, g, _, _, _, hp, _⟩, h2⟩ := h
    rcases List.mem_cons.1 hy with rfl | hy
    · exact hp
    · have := Chn.lt h2 y hy; omega
theorem Chn.at_ {L : List Fs} {ch : List Nat} {k : Nat} (h : Chn L (k :: ch)) : ∃ f, L[k]? = some f := by
  cases ch with
  | nil => obtain ⟨f, h, _⟩ := h; exact ⟨f, h⟩
  | cons p r => obtain ⟨⟨f, g, h, _⟩, _⟩ := h; exact ⟨f, h⟩
theorem Chn.len {L : List Fs} : ∀ {ch : List Nat} {k : Nat}, Chn L (k :: ch) → ch.length ≤ k
  | [], k, h => Nat.zero_le _
  | p :: r, k, h => by
    obtain ⟨⟨f, g, _, _, _, hp, _⟩, h2⟩ := h
    have := Chn.len h2
    simp only [List.length_cons]
    omega
theorem nodup_len : ∀ (n : Nat) (l : List Nat), l.Nodup → (∀ x, x ∈ l → x < n) → l.length ≤ n
  | 0, l, h, hl => by
    cases l with
    | nil => simp
    | cons a l => have := hl a List.mem_cons_self; omega
  | n + 1, l, h, hl => by
    have h1 := nodup_len n (l.filter (fun x => decide (x ≠ n))) (h.sublist List.filter_sublist) (fun x hx => by
      obtain ⟨h1, h2⟩ := List.mem_filter.1 hx
      have := hl x h1
      have := of_decide_eq_true h2
      omega)
    have h2 : l.length ≤ (l.filter (fun x => decide (x ≠ n))).length + 1 := by
      clear h1 hl
      induction l with
      | nil => simp
      | cons a l ih =>
        rw [List.nodup_cons] at h
        by_cases e : a = n
        · subst e
          have : l.filter (fun x => decide (x ≠ a)) = l := by
            rw [List.filter_eq_self]
            intro x hx
            refine decide_eq_true fun q => ?_
            subst q
            exact h.1 hx
          rw [List.filter_cons, if_neg (by simp), this]
          simp
        · rw [List.filter_cons, if_pos (by simpa using e)]
          have := ih h.2
          simp only [List.length_cons]
          omega
    omega
theorem ups_len {ups : List (Int × Int)} {g : Fs} (h : UpsOk ups g) (hn : ups.Nodup) (hg : g.locals.length ≤ 12) : ups.length ≤ 12 + g.ups.length := by
  have hd : ∀ d, d ∈ ups → (d.1 = 1 ∧ 0 ≤ d.2 ∧ d.2 < 12) ∨ (d.1 = 0 ∧ 0 ≤ d.2 ∧ d.2 < g.ups.length) := fun d hd => by
    rcases h d hd with ⟨h1, h2, nm, h3, _⟩ | h
    · have := lt_of h3; exact .inl ⟨h1, h2, by omega⟩
    · exact .inr h
  have h1 := nodup_len (12 + g.ups.length) (ups.map fun d => if d.1 = 1 then d.2.toNat else 12 + d.2.toNat) (by
    rw [List.nodup_iff_pairwise_ne, List.pairwise_map]
    rw [List.nodup_iff_pairwise_ne] at hn
    refine List.Pairwise.imp_of_mem (fun {a b} ha hb hne q => hne ?_) hn
    have h1 := hd a ha
    have h2 := hd b hb
    obtain ⟨a1, a2⟩ := a
    obtain ⟨b1, b2⟩ := b
    dsimp only at h1 h2 q
    rcases h1 with ⟨rfl, h1⟩ | ⟨rfl, h1⟩ <;> rcases h2 with ⟨rfl, h2⟩ | ⟨rfl, h2⟩
    · rw [if_pos rfl, if_pos rfl] at q
      have : a2 = b2 := by omega
      rw [this]
    · rw [if_pos rfl, if_neg (by decide)] at q; omega
    · rw [if_neg (by decide), if_pos rfl] at q; omega
    · rw [if_neg (by decide), if_neg (by decide)] at q
      have : a2 = b2 := by omega
      rw [this]) (fun x hx => by
    obtain ⟨d, h1, rfl⟩ := List.mem_map.1 hx
    rcases hd d h1 with ⟨e, h2⟩ | ⟨e, h2⟩
    · rw [if_pos e]; omega
    · rw [if_neg (by omega)]; omega)
  simpa using h1
theorem Chn.ups {L : List Fs} : ∀ {ch : List Nat} {k : Nat} {f : Fs}, Chn L (k :: ch) → L[k]? = some f → f.ups.length ≤ 12 * ch.length
  | [], k, f, h, hk => by
    obtain ⟨f', h1, _, h2⟩ := h
    rw [hk] at h1
    injection h1 with h1
    subst h1
    rw [h2]
    simp
  | p :: r, k, f, h, hk => by
    obtain ⟨⟨f', g, h1, h2, _, _, h3, h4, h5⟩, h6⟩ := h
    rw [hk] at h1
    injection h1 with h1
    subst h1
    have := Chn.ups h6 h2
    have := ups_len h3 h4 h5
    simp only [List.length_cons]
    omega
/-- Other functions' changes do not matter; upvalues may have come to. -/
theorem UpsOk.mono {ups : List (Int × Int)} {g g' : Fs} (h : UpsOk ups g) (h1 : g'.locals = g.locals) (h2 : g.ups.length ≤ g'.ups.length) : UpsOk ups g' := fun d hd => by
  rcases h d hd with ⟨a, b, c⟩ | ⟨a, b, c⟩
  · exact .inl ⟨a, b, by rw [h1]; exact c⟩
  · exact .inr ⟨a, b, by omega⟩
/-- What only the function k itself changes, but neither its upvalues nor its parent. -/
theorem Chn.own {L L' : List Fs} {k : Nat} {ch : List Nat} {f f' : Fs} (h : Chn L (k :: ch)) (hk : L[k]? = some f) (hk' : L'[k]? = some f') (hp : f'.parent = f.parent) (hu : f'.ups = f.ups) (ho : ∀ y, y ∈ ch → L'[y]? = L[y]?) : Chn L' (k :: ch) := by
  have htail : ∀ {r : List Nat} {p : Nat}, (∀ y, y ∈ p :: r → L'[y]? = L[y]?) → Chn L (p :: r) → Chn L' (p :: r) := by
    intro r
    induction r with
    | nil =>
      intro p ho h
      obtain ⟨f, h1, h2⟩ := h
      exact ⟨f, by rw [ho p List.mem_cons_self]; exact h1, h2⟩
    | cons a r ih =>
      intro p ho h
      obtain ⟨⟨f, g, h1, h2, h3⟩, h4⟩ := h
      exact ⟨⟨f, g, by rw [ho p List.mem_cons_self]; exact h1, by rw [ho a (by simp)]; exact h2, h3⟩, ih (fun y hy => ho y (List.mem_cons_of_mem _ hy)) h4⟩
  cases ch with
  | nil =>
    obtain ⟨f0, h1, h2, h3⟩ := h
    rw [hk] at h1
    injection h1 with h1
    subst h1
    exact ⟨f', hk', by rw [hp, h2], by rw [hu, h3]⟩
  | cons p r =>
    obtain ⟨⟨f0, g, h1, h2, h3, h4, h5, h6, h7⟩, h8⟩ := h
    rw [hk] at h1
    injection h1 with h1
    subst h1
    exact ⟨⟨f', g, hk', by rw [ho p List.mem_cons_self]; exact h2, by rw [hp, h3], h4, by rw [hu]; exact h5, by rw [hu]; exact h6, h7⟩, htail ho h8⟩
end Go.Wl
