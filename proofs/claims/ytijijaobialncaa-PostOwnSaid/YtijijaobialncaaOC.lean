/- So many people, frames and bytes there are, and no more. -/
import Derived.Test.YtijijaobialncaaOB
namespace Go.Proofs.Ytijijaobialncaa.S
open Go.RowKit

end Go.Proofs.Ytijijaobialncaa.S
