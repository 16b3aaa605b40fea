/- Sets of terms in their order. -/
import Derived.Test.YtlpkcbkflfbclaaDoorT7
import Derived.Test.YtlpkcbkflfbclaaDoorOps9
import Derived.Test.YtlpkcbkflfbclaaDoorTmSpec
namespace Go.Proofs.YtlpkcbkflfbclaaDoor.S
open Go.RowKit

end Go.Proofs.YtlpkcbkflfbclaaDoor.S
