/- What comes in, opened: the readings of arguments as lists of bytes, of numbers, of parts. Holds for every program. More readings of what came in. Holds for every program. More readings of what came in: arrays. Holds for every program. More readings of what came in: slices of slices of bytes. Holds for every program. More readings of what came in: lists of truths; arrays of slices of bytes. Holds for every program. -/
import Derived.Test.YtijijaobialncaaOps3
import Derived.WalkKit
import Derived.ProofKit
import Derived.OpenShut
import Derived.Deep.Slices
import Derived.Test.YtijijaobialncaaOps9
import Derived.ChangeMaps5
import Derived.SizedLaws
namespace Go.Proofs.Ytijijaobialncaa.S
open Go.ChangeShapes Go.WideShapes Go.ChangeAt Go.RowKit Go.Deep

section
variable {H : Type} {enc : TypeId × Value → H} {P : Program} {W : World} {t e : TypeId} {v : Value} {d : DataW H}

end

end Go.Proofs.Ytijijaobialncaa.S

namespace Go.Proofs.Ytijijaobialncaa.S
open Go.ChangeShapes Go.WideShapes Go.ChangeAt Go.RowKit Go.Deep

end Go.Proofs.Ytijijaobialncaa.S

namespace Go.Proofs.Ytijijaobialncaa.S
open Go.ChangeShapes Go.WideShapes Go.ChangeAt Go.RowKit Go.Deep

end Go.Proofs.Ytijijaobialncaa.S

namespace Go.Proofs.Ytijijaobialncaa.S
open Go.ChangeShapes Go.WideShapes Go.ChangeAt Go.RowKit Go.Deep

end Go.Proofs.Ytijijaobialncaa.S

namespace Go.Proofs.Ytijijaobialncaa.S
open Go.ChangeShapes Go.WideShapes Go.ChangeAt Go.RowKit Go.Deep

end Go.Proofs.Ytijijaobialncaa.S
