/- One forms of one forms; what the laws of knowing say of what can be had. Plain Lean: no walk in this text. -/
import Derived.Test.YtlpkcbkflfbclaaDoorTmSpec
import Derived.Test.YtlpkcbkflfbclaaDoorT6
namespace Go.Proofs.YtlpkcbkflfbclaaDoor.S

/-! ### An atom that stands nowhere -/
section
variable {ts l : List Tm}
/-! ### What lies under a key -/
/-! ### Pairs, and what is signed -/
end
end Go.Proofs.YtlpkcbkflfbclaaDoor.S
