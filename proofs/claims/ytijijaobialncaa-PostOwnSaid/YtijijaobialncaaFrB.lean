/- The document's Decode. -/
import Derived.Test.YtijijaobialncaaFr5
import Derived.Test.YtijijaobialncaaFr9
namespace Go.Proofs.Ytijijaobialncaa.S
open Go.RowKit

end Go.Proofs.Ytijijaobialncaa.S
