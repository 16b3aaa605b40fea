/- What is told is told in order, and who says something belongs to it. -/
import Derived.Test.YtlpkcbkflfbclaaGreatDoorG10
import Derived.Test.YtlpkcbkflfbclaaGreatDoorOpsK
namespace Go.Proofs.YtlpkcbkflfbclaaGreatDoor.S
open Go.RowKit

/-! ### The words, as keys -/
def keyT (n : Nat) : Value := .string (bstr (nmb sText [n]))
theorem shp_text : ∀ n < 26, shp (textT n) = true := by decide +kernel
theorem TString_text (w0 : World) (n : Nat) (hn : n < 26) : FnV P 14 [.agg #[.int .i64 1, .string (bstr (nmb sText [n])), .slice none 0 0]] w0 [] (fun v => v = keyT n) := by
  have h := TString_any w0 [] (textT n) (cx := [.int .i64 1, .string (bstr (nmb sText [n])), .slice none 0 0]) TmR.atom (shp_text n hn) (by simp [textT, Tm.size, tsize])
  rwa [show txt (textT n) = nmb sText [n] by simp [textT, txt]] at h
/-! ### What is told -/
end Go.Proofs.YtlpkcbkflfbclaaGreatDoor.S
