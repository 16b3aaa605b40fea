/- Terms that are learnt. -/
import Derived.Test.YtlpkcbkflfbclaaDoorT10
namespace Go.Proofs.YtlpkcbkflfbclaaDoor.S
open Go.RowKit

end Go.Proofs.YtlpkcbkflfbclaaDoor.S
