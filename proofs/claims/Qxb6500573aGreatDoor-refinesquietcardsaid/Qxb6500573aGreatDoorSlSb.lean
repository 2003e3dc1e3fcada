/- A string to its bytes. -/
import Derived.Test.Qxb6500573aGreatDoorBE
import Derived.Laws.IdiomStrings
namespace Go.Sl
open Go Go.Wl
section
variable {P : Program} {n : Nat} {Q : Post} {D : Defs} {ρ : Env} {H : Hp} {ty : TypeId} {K : Kont} {d : Nat} {pos : String} {af : Array Edge} {g : Option (Nat × Bool)}
/-- '[]byte(s)'. -/
theorem SP1_s2b {s t e : TypeId} {x : Operand} {l : List UInt8} (hs : P.underlying s = some .string) (ht : P.underlying t = some (.slice e)) (he : P.underlying e = some (.int .u8)) (hx : ev ρ x = some (S l)) (hd : Nat.ble (d + 1) n = true)
    (kk : ∀ (b cap : Nat) (sp : List Value × (Nat × Nat)), l.length ≤ cap → K D ((d, .slice (some ⟨b, 0, none⟩) l.length cap) :: ρ) (blkF b e (bytesV l ++ sp.1) sp.2 :: H)) :
    SP1 P n { dst := some d, op := .convert s t x, type := ty, pos := pos, after := af, guard := g } Q K D ρ H :=
  fun A F a w hf ho => by
    have hr := run_bytes_of_string (P := P) w s t e ⟨⟨l⟩⟩ hs ht he
    have hz : (ByteArray.mk ⟨l⟩).size = l.length := rfl
    have hge := grownCap_ge w l.length 0 e
    rw [hz] at hr
    have hrow : bytesRow ⟨⟨l⟩⟩ (grownCap w l.length 0 e) = (bytesV l ++ List.replicate (grownCap w l.length 0 e - l.length) (Value.int .u8 0)).toArray := by
      unfold bytesRow bytesV
      rw [hz]
      apply Array.ext'
      simp
    have h2 : (execOp a.eval { dst := some d, op := .convert s t x, type := ty, pos := pos, after := af, guard := g }).run P w = .ok (.value (.slice (some ⟨w.heap.size, 0, none⟩) l.length (grownCap w l.length 0 e))) (w.drew.alloc (.cells (bytesV l ++ List.replicate (grownCap w l.length 0 e - l.length) (Value.int .u8 0)).toArray e ((bytesRow ⟨⟨l⟩⟩ (grownCap w l.length 0 e)).size, (bytesRow ⟨⟨l⟩⟩ (grownCap w l.length 0 e)).size + 1))) := by
      rw [← hrow]
      simp only [execOp, hf.ev hx, Sem.run_bind, S, hr, Result.andThen_ok, Sem.run_pure]
    have hdf : ∀ v', (a.put (some d) v').defers = D := fun v' => hf.defers
    unfold Oper.wp
    rw [h2]
    refine ⟨_, _, by rw [hdf]; exact hf.put hd _, ?_, by rw [hdf]; exact kk w.heap.size (grownCap w l.length 0 e) (List.replicate (grownCap w l.length 0 e - l.length) (Value.int .u8 0), ((bytesRow ⟨⟨l⟩⟩ (grownCap w l.length 0 e)).size, (bytesRow ⟨⟨l⟩⟩ (grownCap w l.length 0 e)).size + 1)) hge⟩
    have hal := (ho.drew).alloc (.cells (bytesV l ++ List.replicate (grownCap w l.length 0 e - l.length) (Value.int .u8 0)).toArray e ((bytesRow ⟨⟨l⟩⟩ (grownCap w l.length 0 e)).size, (bytesRow ⟨⟨l⟩⟩ (grownCap w l.length 0 e)).size + 1))
    simpa [blkF] using hal
end
end Go.Sl
