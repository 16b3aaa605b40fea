/- A term put into a set; what can be made of a set. -/
import Derived.Test.YtlpkcbkflfbclaaDoorT8
namespace Go.Proofs.YtlpkcbkflfbclaaDoor.S
open Go.RowKit

end Go.Proofs.YtlpkcbkflfbclaaDoor.S
