/- A term put into a set; what can be made of a set. -/
import Derived.Test.YtlpkcbkflfbclaaGreatDoorT8
namespace Go.Proofs.YtlpkcbkflfbclaaGreatDoor.S
open Go.RowKit

end Go.Proofs.YtlpkcbkflfbclaaGreatDoor.S
