/- The parts of a term, each once, in their order. -/
import Derived.Test.YtlpkcbkflfbclaaDoorT6
namespace Go.Proofs.YtlpkcbkflfbclaaDoor.S
open Go.RowKit

end Go.Proofs.YtlpkcbkflfbclaaDoor.S
