/- In the order in which they were sent: plain. -/
import Derived.Test.YtijijaobialncaaOB
import Derived.Test.YtijijaobialncaaFr3
import Derived.Test.YtijijaobialncaaFrA
import Derived.Test.YtijijaobialncaaFr5
import Derived.Test.YtijijaobialncaaFr9
import Derived.Test.YtijijaobialncaaOpen
namespace Go.Proofs.Ytijijaobialncaa.S
open Go.RowKit

theorem envF_wf {n : Nat} {t : List UInt8} (hn : n < 4294967296) : (envF n t).Wf := by
  refine ⟨fun x hx => ?_, fun x hx => ?_, fun x hx => (by cases hx)⟩
  · have : x = List.replicate 32 0 := List.mem_singleton.1 hx
    subst this; rfl
  · have : x = n := List.mem_singleton.1 hx
    subst this; exact hn
end Go.Proofs.Ytijijaobialncaa.S
