/- ask, whatever the host (made by program out of short notes) -/
import Derived.Test.Qxb6500572aGreatDoorWAsk
namespace Go.Sl
open Go Go.Wl Go.Proofs
set_option maxRecDepth 100000
set_option linter.unusedVariables false
set_option linter.unusedSimpArgs false
def HostB (h : Host) : Prop := h.trace.length ≤ 100000 ∧ h.s.length ≤ 140737488351232 ∧ h.kept.length ≤ 1000 ∧ h.k ≤ 1000000000 ∧ ∀ n, n ∈ h.kept → n ≤ 1000
theorem run_ask (x : Nat) (kv : Value) (pb : Nat) (pfa : Option Addr) (P : Prog) (steps : Int) (sp : Seg) (hp : isProg pb pfa P steps sp) (fa : Option Addr) (i : Inst) (s : Seg) (hm : isInst x (.pointer (some ⟨pb, 0, none⟩)) kv fa i s) (hN : 0 < i.fr.length) (hz : i.st.length ≤ 1000000 ∧ i.fr.length ≤ 1000000) (hb : Nat) (h : Host) (sh : Seg) (hh : isHost hb h sh) (hB : h.kind = 0 → HostB h) (imq : Int) (him : 0 ≤ imq ∧ imq ≤ 1000000) (rest vals : List W) (rs ls : List UInt8) (hst0 : i.st = rest ++ vals) (hfloor : ∀ h : i.fr.length - 1 < i.fr.length, i.fr[i.fr.length - 1].floor ≤ rest.length) (hsig : P.sig imq = (vals.map W.t, rs, ls, true)) (hvs : ∀ y, y ∈ vals → y.ok) (hvl : vals.length ≤ 100) (hrl : rs.length ≤ 100) : Spec Tryz.prog 132 [.pointer (some ⟨x, 0, none⟩), I imq, hostV hb h] [s, sp, sh] (RetP (fun v H => ∃ s' sh', v = .tuple #[] ∧ H = [s', sp, sh'] ∧ (askM h imq rs vals).2.1 = 0 ∧ isInst x (.pointer (some ⟨pb, 0, none⟩)) kv fa { i with st := rest ++ (askM h imq rs vals).2.2 } s' ∧ isHost hb (askM h imq rs vals).1 sh') (fun c H => ∃ s' sh' st', c = trapC (askM h imq rs vals).2.1 ∧ (askM h imq rs vals).2.1 ≠ 0 ∧ H = [s', sp, sh'] ∧ isInst x (.pointer (some ⟨pb, 0, none⟩)) kv fa { i with st := st' } s' ∧ isHost hb (askM h imq rs vals).1 sh')) := by
  by_cases h0 : h.kind = 0
  · obtain ⟨b1, b2, b4, b5, b6⟩ := hB h0
    have e : hostV hb h = .iface 135 (.pointer (some ⟨hb, 0, none⟩)) := by unfold hostV; rw [if_pos h0]
    rw [e]
    exact run_ask0 x kv pb pfa P steps sp hp fa i s hm hN hz hb h sh (by unfold isHost at hh; rwa [if_pos h0] at hh) h0 b1 b2 b4 b5 b6 imq him rest vals rs ls hst0 hfloor hsig hvs hvl hrl
  · by_cases h1 : h.kind = 1
    · have e : hostV hb h = .nilIface := by unfold hostV; rw [if_neg h0, if_pos h1]
      rw [e]
      exact run_ask1 x kv pb pfa P steps sp hp fa i s hm hN hz hb h sh hh h1 imq him rest vals rs ls hst0 hfloor hsig hvs hvl hrl
    · have e : hostV hb h = .iface 135 (.pointer none) := by unfold hostV; rw [if_neg h0, if_neg h1]
      rw [e]
      exact run_ask2 x kv pb pfa P steps sp hp fa i s hm hN hz hb h sh hh ⟨h0, h1⟩ imq him rest vals rs ls hst0 hfloor hsig hvs hvl hrl

end Go.Sl
