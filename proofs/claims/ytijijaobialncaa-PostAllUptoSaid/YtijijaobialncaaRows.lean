/-
  No cell of these rows narrows 'for every input' (looked for: loops, veiled, ifaces, maps, wideKeys, modest, calm, conditions, laid).
  DERIVED. THE GIVEN ROWS OF THIS SEAT. 5 by the template 'for every input the law returns true; each argument reads behind the call as it read before'; 0 by the template 'total and deterministic' (their statements: YtijijaobialncaaTotals.lean).
  GIVEN WITH THE SEED: the statements are not yours to turn. If you find one false, say at which input.
  Laid BY PROGRAM, IN A SANDBOX (cutbox-rows.mjs): the forced cells as the released guide's own fill.sh prints them over the translation 1ec80bca9c4c5d01… (all of the seat's roots in one cut). By AI agents, Wed Nov 11 2026. No macro, syntax, notation, axiom, sorry.
-/
import Derived.Test.YtijijaobialncaaChecked
import GoSem.Claim
import GoSem.ClaimJoined
import GoSem.ClaimMapViews
import Derived.JoinedTies
import Derived.KernelRfl
namespace Go.Proofs.Ytijijaobialncaa
/- THE CELL 'sum', in the pinned program and in every row, IS THE sha256 OF THE DUMP (.gsa) THAT YtijijaobialncaaProg.lean LOADS. Nothing in Lean hashes anything: it is a label: what it is worth is what the hold of that sum in a sandbox is worth. -/
noncomputable def Try.pinned : Pinned := { name := "ytijijaobialncaa", sum := "1ec80bca9c4c5d014d854dfc9b3c7572968e57793740946ba2a68b45f715f8b0", checked := Try.checked }
namespace Rows
def none {H : Type} : Left H := { results := [], args := [] }

/-- 'intagliolaw18.PostLimits': WHATEVER THE INPUT: true; the input reads as it did. -/
def postLimitsSpec : ChangeSpec := { name := "postLimits", fn := fun _ => fun
  | [d1, d2] => { results := [.lit (.bool true)], args := [d1, d2] }
  | _ => none }
def postLimitsRow : OpenClaim := { program := "ytijijaobialncaa", sum := "1ec80bca9c4c5d014d854dfc9b3c7572968e57793740946ba2a68b45f715f8b0", func := "intaglio/intagliolaw18.PostLimits", spec := "postLimits", unfollowed := true, recurses := true, apart := false }
def PostLimitsSaid : Prop := postLimitsRow.holds Try.pinned (OpenSpec.ofChange postLimitsSpec)

/-- ITS FALSE NEIGHBOUR: 'it returns false'. Refute it at one input. -/
def postLimitsWrong : ChangeSpec := { name := "postLimits", fn := fun _ => fun
  | [d1, d2] => { results := [.lit (.bool false)], args := [d1, d2] }
  | _ => none }
def PostLimitsWrongFalsely : Prop := postLimitsRow.holds Try.pinned (OpenSpec.ofChange postLimitsWrong)

/-- 'intagliolaw18.PostOrder': WHATEVER THE INPUT: true; the input reads as it did. -/
def postOrderSpec : ChangeSpec := { name := "postOrder", fn := fun _ => fun
  | [d1, d2] => { results := [.lit (.bool true)], args := [d1, d2] }
  | _ => none }
def postOrderRow : OpenClaim := { program := "ytijijaobialncaa", sum := "1ec80bca9c4c5d014d854dfc9b3c7572968e57793740946ba2a68b45f715f8b0", func := "intaglio/intagliolaw18.PostOrder", spec := "postOrder", unfollowed := true, recurses := true, apart := false }
def PostOrderSaid : Prop := postOrderRow.holds Try.pinned (OpenSpec.ofChange postOrderSpec)

/-- ITS FALSE NEIGHBOUR: 'it returns false'. Refute it at one input. -/
def postOrderWrong : ChangeSpec := { name := "postOrder", fn := fun _ => fun
  | [d1, d2] => { results := [.lit (.bool false)], args := [d1, d2] }
  | _ => none }
def PostOrderWrongFalsely : Prop := postOrderRow.holds Try.pinned (OpenSpec.ofChange postOrderWrong)

/-- 'intagliolaw18.PostPlays': WHATEVER THE INPUT: true; the input reads as it did. -/
def postPlaysSpec : ChangeSpec := { name := "postPlays", fn := fun _ => fun
  | [d] => { results := [.lit (.bool true)], args := [d] }
  | _ => none }
def postPlaysRow : OpenClaim := { program := "ytijijaobialncaa", sum := "1ec80bca9c4c5d014d854dfc9b3c7572968e57793740946ba2a68b45f715f8b0", func := "intaglio/intagliolaw18.PostPlays", spec := "postPlays", unfollowed := true, recurses := true, apart := false }
def PostPlaysSaid : Prop := postPlaysRow.holds Try.pinned (OpenSpec.ofChange postPlaysSpec)

/-- ITS FALSE NEIGHBOUR: 'it returns false'. Refute it at one input. -/
def postPlaysWrong : ChangeSpec := { name := "postPlays", fn := fun _ => fun
  | [d] => { results := [.lit (.bool false)], args := [d] }
  | _ => none }
def PostPlaysWrongFalsely : Prop := postPlaysRow.holds Try.pinned (OpenSpec.ofChange postPlaysWrong)

/-- 'intagliolaw18.PostAll': WHATEVER THE INPUT: true; the input reads as it did. -/
def postAllSpec : ChangeSpec := { name := "postAll", fn := fun _ => fun
  | [d1, d2, d3] => { results := [.lit (.bool true)], args := [d1, d2, d3] }
  | _ => none }
def postAllRow : OpenClaim := { program := "ytijijaobialncaa", sum := "1ec80bca9c4c5d014d854dfc9b3c7572968e57793740946ba2a68b45f715f8b0", func := "intaglio/intagliolaw18.PostAll", spec := "postAll", unfollowed := true, recurses := true, apart := false }
def PostAllSaid : Prop := postAllRow.holds Try.pinned (OpenSpec.ofChange postAllSpec)

/-- ITS FALSE NEIGHBOUR: 'it returns false'. Refute it at one input. -/
def postAllWrong : ChangeSpec := { name := "postAll", fn := fun _ => fun
  | [d1, d2, d3] => { results := [.lit (.bool false)], args := [d1, d2, d3] }
  | _ => none }
def PostAllWrongFalsely : Prop := postAllRow.holds Try.pinned (OpenSpec.ofChange postAllWrong)

/-- 'intagliolaw18.PostOwn': WHATEVER THE INPUT: true; the input reads as it did. -/
def postOwnSpec : ChangeSpec := { name := "postOwn", fn := fun _ => fun
  | [d1, d2] => { results := [.lit (.bool true)], args := [d1, d2] }
  | _ => none }
def postOwnRow : OpenClaim := { program := "ytijijaobialncaa", sum := "1ec80bca9c4c5d014d854dfc9b3c7572968e57793740946ba2a68b45f715f8b0", func := "intaglio/intagliolaw18.PostOwn", spec := "postOwn", unfollowed := true, recurses := true, apart := false }
def PostOwnSaid : Prop := postOwnRow.holds Try.pinned (OpenSpec.ofChange postOwnSpec)

/-- ITS FALSE NEIGHBOUR: 'it returns false'. Refute it at one input. -/
def postOwnWrong : ChangeSpec := { name := "postOwn", fn := fun _ => fun
  | [d1, d2] => { results := [.lit (.bool false)], args := [d1, d2] }
  | _ => none }
def PostOwnWrongFalsely : Prop := postOwnRow.holds Try.pinned (OpenSpec.ofChange postOwnWrong)

/- THE SECOND FORM. 'bulk': how many values and letters a reading holds, each counted each time it is reached (what is shared counts as often as it is met; a slice's spare places count too). A statement '..UptoSaid' is the law's where the arguments, and the package variables that the reading takes, are together of bulk at most 1048576: NARROWER than '..Said'. Prove '..Said' where nothing that the law and all that it calls make is longer than what came in: it says more and counts as full. Else prove '..UptoSaid'. A law counts once. -/
mutual
def uptoBulk {H : Type} : DataW H → Nat
  | .lit (.string bytes) => bytes.length + 1
  | .lit _ => 1
  | .nil => 1
  | .ptr d => uptoBulk d + 1
  | .slice elems spare => uptoBulkAll elems + uptoBulkAll spare + 1
  | .agg parts => uptoBulkAll parts + 1
  | .iface _ d => uptoBulk d + 1
  | .map entries => uptoBulkEntries entries + 1
  | .held _ => 1
def uptoBulkAll {H : Type} : List (DataW H) → Nat
  | [] => 0
  | d :: r => uptoBulk d + uptoBulkAll r
def uptoBulkEntries {H : Type} : List (Lit × DataW H) → Nat
  | [] => 0
  | x :: r => uptoBulkEntry x + uptoBulkEntries r
def uptoBulkEntry {H : Type} : Lit × DataW H → Nat
  | (.string bytes, d) => bytes.length + uptoBulk d + 1
  | (_, d) => uptoBulk d + 1
 end
def uptoSmall : (H : Type) → List (DataW H) → Bool := fun _ ds => decide (uptoBulkAll ds ≤ 1048576)
def OpenSpec.upto (s : _root_.Go.ChangeSpec) : _root_.Go.OpenSpec := { _root_.Go.OpenSpec.ofChange s with cond := some uptoSmall }

/-- 'intagliolaw18.PostLimits', WHERE WHAT IT READS IS OF BULK AT MOST 1048576: true; the input reads as it did. -/
def postLimitsUptoRow : OpenClaim := { program := "ytijijaobialncaa", sum := "1ec80bca9c4c5d014d854dfc9b3c7572968e57793740946ba2a68b45f715f8b0", func := "intaglio/intagliolaw18.PostLimits", spec := "postLimits", unfollowed := true, recurses := true, apart := false, narrowed := true }
def PostLimitsUptoSaid : Prop := postLimitsUptoRow.holds Try.pinned (OpenSpec.upto postLimitsSpec)

/-- 'intagliolaw18.PostOrder', WHERE WHAT IT READS IS OF BULK AT MOST 1048576: true; the input reads as it did. -/
def postOrderUptoRow : OpenClaim := { program := "ytijijaobialncaa", sum := "1ec80bca9c4c5d014d854dfc9b3c7572968e57793740946ba2a68b45f715f8b0", func := "intaglio/intagliolaw18.PostOrder", spec := "postOrder", unfollowed := true, recurses := true, apart := false, narrowed := true }
def PostOrderUptoSaid : Prop := postOrderUptoRow.holds Try.pinned (OpenSpec.upto postOrderSpec)

/-- 'intagliolaw18.PostPlays', WHERE WHAT IT READS IS OF BULK AT MOST 1048576: true; the input reads as it did. -/
def postPlaysUptoRow : OpenClaim := { program := "ytijijaobialncaa", sum := "1ec80bca9c4c5d014d854dfc9b3c7572968e57793740946ba2a68b45f715f8b0", func := "intaglio/intagliolaw18.PostPlays", spec := "postPlays", unfollowed := true, recurses := true, apart := false, narrowed := true }
def PostPlaysUptoSaid : Prop := postPlaysUptoRow.holds Try.pinned (OpenSpec.upto postPlaysSpec)

/-- 'intagliolaw18.PostAll', WHERE WHAT IT READS IS OF BULK AT MOST 1048576: true; the input reads as it did. -/
def postAllUptoRow : OpenClaim := { program := "ytijijaobialncaa", sum := "1ec80bca9c4c5d014d854dfc9b3c7572968e57793740946ba2a68b45f715f8b0", func := "intaglio/intagliolaw18.PostAll", spec := "postAll", unfollowed := true, recurses := true, apart := false, narrowed := true }
def PostAllUptoSaid : Prop := postAllUptoRow.holds Try.pinned (OpenSpec.upto postAllSpec)

/-- 'intagliolaw18.PostOwn', WHERE WHAT IT READS IS OF BULK AT MOST 1048576: true; the input reads as it did. -/
def postOwnUptoRow : OpenClaim := { program := "ytijijaobialncaa", sum := "1ec80bca9c4c5d014d854dfc9b3c7572968e57793740946ba2a68b45f715f8b0", func := "intaglio/intagliolaw18.PostOwn", spec := "postOwn", unfollowed := true, recurses := true, apart := false, narrowed := true }
def PostOwnUptoSaid : Prop := postOwnUptoRow.holds Try.pinned (OpenSpec.upto postOwnSpec)

end Rows
end Go.Proofs.Ytijijaobialncaa
