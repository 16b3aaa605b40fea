/- Raw bytes are read as the document says. -/
import Derived.Test.YtijijaobialncaaFr4
import Derived.Test.YtijijaobialncaaFrA
import Derived.Test.YtijijaobialncaaFrB
namespace Go.Proofs.Ytijijaobialncaa.S
open Go.RowKit

end Go.Proofs.Ytijijaobialncaa.S
