/- Terms that are learnt. -/
import Derived.Test.YtlpkcbkflfbclaaGreatDoorT10
namespace Go.Proofs.YtlpkcbkflfbclaaGreatDoor.S
open Go.RowKit

end Go.Proofs.YtlpkcbkflfbclaaGreatDoor.S
