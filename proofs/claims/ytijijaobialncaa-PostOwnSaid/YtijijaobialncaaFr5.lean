/- The document's Encode. -/
import Derived.Test.YtijijaobialncaaFr3
namespace Go.Proofs.Ytijijaobialncaa.S
open Go.RowKit

end Go.Proofs.Ytijijaobialncaa.S
