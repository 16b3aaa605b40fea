/- What is known, taken apart; terms that are learnt. -/
import Derived.Test.YtlpkcbkflfbclaaDoorT9
import Derived.Test.YtlpkcbkflfbclaaDoorTmSpec
namespace Go.Proofs.YtlpkcbkflfbclaaDoor.S
open Go.RowKit

end Go.Proofs.YtlpkcbkflfbclaaDoor.S
