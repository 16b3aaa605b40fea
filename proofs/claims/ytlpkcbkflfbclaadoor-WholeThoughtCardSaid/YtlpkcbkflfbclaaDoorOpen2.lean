/- More readings of what came in. Holds for every program. -/
import Derived.Test.YtlpkcbkflfbclaaDoorOpen
import Derived.Test.YtlpkcbkflfbclaaDoorOps9
namespace Go.Proofs.YtlpkcbkflfbclaaDoor.S
open Go.ChangeShapes Go.WideShapes Go.ChangeAt Go.RowKit Go.Deep

/-- A parameter that is a byte. -/
theorem open_u8 {H : Type} {enc : TypeId × Value → H} {P : Program} {W : World} {t : TypeId} {v : Value} {d : DataW H} {p : List MemPlace} {b0 : Nat} {r : Reach} (ht : P.underlying t = some (.int .u8)) (hv : Value.okWide P W r b0 t v) (h : DataW.Trod enc P W 0 (fun _ => true) true t v d p) : ∃ c : UInt8, v = byteV c := by
  have hc := okW_cell (by rw [ht]; simp) (by rw [ht]; simp) hv
  obtain ⟨fuel, h⟩ := h
  have hcells : v.cells.toList = [v] := by
    unfold Cell.okWide Cell.ok at hc
    simp only [ht] at hc
    cases v <;> first | rfl | exact hc.elim
  rw [hcells] at h
  obtain ⟨c, hc⟩ := rd_u8 ht ⟨fuel, p, h⟩
  exact ⟨c, by simpa using hc⟩
end Go.Proofs.YtlpkcbkflfbclaaDoor.S
