/- Whether two frames are the same. -/
import Derived.Test.YtijijaobialncaaFr6
namespace Go.Proofs.Ytijijaobialncaa.S
open Go.RowKit

end Go.Proofs.Ytijijaobialncaa.S
