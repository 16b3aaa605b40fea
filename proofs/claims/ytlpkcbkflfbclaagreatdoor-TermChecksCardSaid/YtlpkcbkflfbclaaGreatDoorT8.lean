/- Sets of terms in their order. -/
import Derived.Test.YtlpkcbkflfbclaaGreatDoorT7
import Derived.Test.YtlpkcbkflfbclaaGreatDoorOps9
import Derived.Test.YtlpkcbkflfbclaaGreatDoorTmSpec
namespace Go.Proofs.YtlpkcbkflfbclaaGreatDoor.S
open Go.RowKit

end Go.Proofs.YtlpkcbkflfbclaaGreatDoor.S
