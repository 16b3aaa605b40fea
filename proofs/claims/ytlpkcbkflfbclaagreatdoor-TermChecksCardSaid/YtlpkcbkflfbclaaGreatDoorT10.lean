/- What is known, taken apart; terms that are learnt. -/
import Derived.Test.YtlpkcbkflfbclaaGreatDoorT9
import Derived.Test.YtlpkcbkflfbclaaGreatDoorTmSpec
namespace Go.Proofs.YtlpkcbkflfbclaaGreatDoor.S
open Go.RowKit

end Go.Proofs.YtlpkcbkflfbclaaGreatDoor.S
