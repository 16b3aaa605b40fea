/- The law that frames are written as the document says. -/
import Derived.Test.YtijijaobialncaaFr4
import Derived.Test.YtijijaobialncaaFr5
namespace Go.Proofs.Ytijijaobialncaa.S
open Go.RowKit

section
variable {w : World} {v : Value} {kind : Int} {keys : List (List UInt8)} {nums : List Nat} {sigs : List (List UInt8)} {data : List UInt8}
end
end Go.Proofs.Ytijijaobialncaa.S
