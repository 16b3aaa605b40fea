/-
  No cell of these rows narrows 'for every input' (looked for: loops, veiled, ifaces, maps, wideKeys, modest, calm, conditions, laid).
  DERIVED. THE GIVEN ROWS OF THIS SEAT. 6 by the template 'for every input the law returns true; each argument reads behind the call as it read before'; 0 by the template 'total and deterministic' (their statements: YtgibhdjhgobdnaaTotals.lean).
  GIVEN WITH THE SEED: the statements are not yours to turn. If you find one false, say at which input.
  Laid BY PROGRAM, IN A SANDBOX (cutbox-rows.mjs): the forced cells as the released guide's own fill.sh prints them over the translation 3d10043a4f0c9e3b… (all of the seat's roots in one cut). By AI agents, Wed Nov 11 2026. No macro, syntax, notation, axiom, sorry.
-/
import Derived.Test.YtgibhdjhgobdnaaChecked
import GoSem.Claim
import GoSem.ClaimJoined
import GoSem.ClaimMapViews
import Derived.JoinedTies
import Derived.KernelRfl
namespace Go.Proofs.Ytgibhdjhgobdnaa
/- THE CELL 'sum', in the pinned program and in every row, IS THE sha256 OF THE DUMP (.gsa) THAT YtgibhdjhgobdnaaProg.lean LOADS. Nothing in Lean hashes anything: it is a label: what it is worth is what the hold of that sum in a sandbox is worth. -/
noncomputable def Try.pinned : Pinned := { name := "ytgibhdjhgobdnaa", sum := "3d10043a4f0c9e3b120be0ba34b6bb104d3b7917523984a830cab00d7801e2a7", checked := Try.checked }
namespace Rows
def none {H : Type} : Left H := { results := [], args := [] }

/-- 'intagliolaw11.FrameWrites': WHATEVER THE INPUT: true; the input reads as it did. -/
def frameWritesSpec : ChangeSpec := { name := "frameWrites", fn := fun _ => fun
  | [d] => { results := [.lit (.bool true)], args := [d] }
  | _ => none }
def frameWritesRow : OpenClaim := { program := "ytgibhdjhgobdnaa", sum := "3d10043a4f0c9e3b120be0ba34b6bb104d3b7917523984a830cab00d7801e2a7", func := "intaglio/intagliolaw11.FrameWrites", spec := "frameWrites", apart := false }
def FrameWritesSaid : Prop := frameWritesRow.holds Try.pinned (OpenSpec.ofChange frameWritesSpec)

/-- ITS FALSE NEIGHBOUR: 'it returns false'. Refute it at one input. -/
def frameWritesWrong : ChangeSpec := { name := "frameWrites", fn := fun _ => fun
  | [d] => { results := [.lit (.bool false)], args := [d] }
  | _ => none }
def FrameWritesWrongFalsely : Prop := frameWritesRow.holds Try.pinned (OpenSpec.ofChange frameWritesWrong)

/-- 'intagliolaw11.FrameShapes': WHATEVER THE INPUT: true; the input reads as it did. -/
def frameShapesSpec : ChangeSpec := { name := "frameShapes", fn := fun _ => fun
  | [d] => { results := [.lit (.bool true)], args := [d] }
  | _ => none }
def frameShapesRow : OpenClaim := { program := "ytgibhdjhgobdnaa", sum := "3d10043a4f0c9e3b120be0ba34b6bb104d3b7917523984a830cab00d7801e2a7", func := "intaglio/intagliolaw11.FrameShapes", spec := "frameShapes", apart := false }
def FrameShapesSaid : Prop := frameShapesRow.holds Try.pinned (OpenSpec.ofChange frameShapesSpec)

/-- ITS FALSE NEIGHBOUR: 'it returns false'. Refute it at one input. -/
def frameShapesWrong : ChangeSpec := { name := "frameShapes", fn := fun _ => fun
  | [d] => { results := [.lit (.bool false)], args := [d] }
  | _ => none }
def FrameShapesWrongFalsely : Prop := frameShapesRow.holds Try.pinned (OpenSpec.ofChange frameShapesWrong)

/-- 'intagliolaw11.FrameReads': WHATEVER THE INPUT: true; the input reads as it did. -/
def frameReadsSpec : ChangeSpec := { name := "frameReads", fn := fun _ => fun
  | [d] => { results := [.lit (.bool true)], args := [d] }
  | _ => none }
def frameReadsRow : OpenClaim := { program := "ytgibhdjhgobdnaa", sum := "3d10043a4f0c9e3b120be0ba34b6bb104d3b7917523984a830cab00d7801e2a7", func := "intaglio/intagliolaw11.FrameReads", spec := "frameReads", apart := false }
def FrameReadsSaid : Prop := frameReadsRow.holds Try.pinned (OpenSpec.ofChange frameReadsSpec)

/-- ITS FALSE NEIGHBOUR: 'it returns false'. Refute it at one input. -/
def frameReadsWrong : ChangeSpec := { name := "frameReads", fn := fun _ => fun
  | [d] => { results := [.lit (.bool false)], args := [d] }
  | _ => none }
def FrameReadsWrongFalsely : Prop := frameReadsRow.holds Try.pinned (OpenSpec.ofChange frameReadsWrong)

/-- 'intagliolaw11.FrameOwn': WHATEVER THE INPUT: true; the input reads as it did. -/
def frameOwnSpec : ChangeSpec := { name := "frameOwn", fn := fun _ => fun
  | [d1, d2] => { results := [.lit (.bool true)], args := [d1, d2] }
  | _ => none }
def frameOwnRow : OpenClaim := { program := "ytgibhdjhgobdnaa", sum := "3d10043a4f0c9e3b120be0ba34b6bb104d3b7917523984a830cab00d7801e2a7", func := "intaglio/intagliolaw11.FrameOwn", spec := "frameOwn", apart := false }
def FrameOwnSaid : Prop := frameOwnRow.holds Try.pinned (OpenSpec.ofChange frameOwnSpec)

/-- ITS FALSE NEIGHBOUR: 'it returns false'. Refute it at one input. -/
def frameOwnWrong : ChangeSpec := { name := "frameOwn", fn := fun _ => fun
  | [d1, d2] => { results := [.lit (.bool false)], args := [d1, d2] }
  | _ => none }
def FrameOwnWrongFalsely : Prop := frameOwnRow.holds Try.pinned (OpenSpec.ofChange frameOwnWrong)

/-- 'intagliolaw11.FrameCut': WHATEVER THE INPUT: true; the input reads as it did. -/
def frameCutSpec : ChangeSpec := { name := "frameCut", fn := fun _ => fun
  | [d1, d2, d3] => { results := [.lit (.bool true)], args := [d1, d2, d3] }
  | _ => none }
def frameCutRow : OpenClaim := { program := "ytgibhdjhgobdnaa", sum := "3d10043a4f0c9e3b120be0ba34b6bb104d3b7917523984a830cab00d7801e2a7", func := "intaglio/intagliolaw11.FrameCut", spec := "frameCut", apart := false }
def FrameCutSaid : Prop := frameCutRow.holds Try.pinned (OpenSpec.ofChange frameCutSpec)

/-- ITS FALSE NEIGHBOUR: 'it returns false'. Refute it at one input. -/
def frameCutWrong : ChangeSpec := { name := "frameCut", fn := fun _ => fun
  | [d1, d2, d3] => { results := [.lit (.bool false)], args := [d1, d2, d3] }
  | _ => none }
def FrameCutWrongFalsely : Prop := frameCutRow.holds Try.pinned (OpenSpec.ofChange frameCutWrong)

/-- 'intagliolaw11.FrameTwoWays': WHATEVER THE INPUT: true; the input reads as it did. -/
def frameTwoWaysSpec : ChangeSpec := { name := "frameTwoWays", fn := fun _ => fun
  | [d1, d2, d3] => { results := [.lit (.bool true)], args := [d1, d2, d3] }
  | _ => none }
def frameTwoWaysRow : OpenClaim := { program := "ytgibhdjhgobdnaa", sum := "3d10043a4f0c9e3b120be0ba34b6bb104d3b7917523984a830cab00d7801e2a7", func := "intaglio/intagliolaw11.FrameTwoWays", spec := "frameTwoWays", apart := false }
def FrameTwoWaysSaid : Prop := frameTwoWaysRow.holds Try.pinned (OpenSpec.ofChange frameTwoWaysSpec)

/-- ITS FALSE NEIGHBOUR: 'it returns false'. Refute it at one input. -/
def frameTwoWaysWrong : ChangeSpec := { name := "frameTwoWays", fn := fun _ => fun
  | [d1, d2, d3] => { results := [.lit (.bool false)], args := [d1, d2, d3] }
  | _ => none }
def FrameTwoWaysWrongFalsely : Prop := frameTwoWaysRow.holds Try.pinned (OpenSpec.ofChange frameTwoWaysWrong)

/- THE SECOND FORM. 'bulk': how many values and letters a reading holds, each counted each time it is reached (what is shared counts as often as it is met; a slice's spare places count too). A statement '..UptoSaid' is the law's where the arguments, and the package variables that the reading takes, are together of bulk at most 1048576: NARROWER than '..Said'. Prove '..Said' where nothing that the law and all that it calls make is longer than what came in: it says more and counts as full. Else prove '..UptoSaid'. A law counts once. -/
mutual
def uptoBulk {H : Type} : DataW H → Nat
  | .lit (.string bytes) => bytes.length + 1
  | .lit _ => 1
  | .nil => 1
  | .ptr d => uptoBulk d + 1
  | .slice elems spare => uptoBulkAll elems + uptoBulkAll spare + 1
  | .agg parts => uptoBulkAll parts + 1
  | .iface _ d => uptoBulk d + 1
  | .map entries => uptoBulkEntries entries + 1
  | .held _ => 1
def uptoBulkAll {H : Type} : List (DataW H) → Nat
  | [] => 0
  | d :: r => uptoBulk d + uptoBulkAll r
def uptoBulkEntries {H : Type} : List (Lit × DataW H) → Nat
  | [] => 0
  | x :: r => uptoBulkEntry x + uptoBulkEntries r
def uptoBulkEntry {H : Type} : Lit × DataW H → Nat
  | (.string bytes, d) => bytes.length + uptoBulk d + 1
  | (_, d) => uptoBulk d + 1
 end
def uptoSmall : (H : Type) → List (DataW H) → Bool := fun _ ds => decide (uptoBulkAll ds ≤ 1048576)
def OpenSpec.upto (s : _root_.Go.ChangeSpec) : _root_.Go.OpenSpec := { _root_.Go.OpenSpec.ofChange s with cond := some uptoSmall }

/-- 'intagliolaw11.FrameWrites', WHERE WHAT IT READS IS OF BULK AT MOST 1048576: true; the input reads as it did. -/
def frameWritesUptoRow : OpenClaim := { program := "ytgibhdjhgobdnaa", sum := "3d10043a4f0c9e3b120be0ba34b6bb104d3b7917523984a830cab00d7801e2a7", func := "intaglio/intagliolaw11.FrameWrites", spec := "frameWrites", apart := false, narrowed := true }
def FrameWritesUptoSaid : Prop := frameWritesUptoRow.holds Try.pinned (OpenSpec.upto frameWritesSpec)

/-- 'intagliolaw11.FrameShapes', WHERE WHAT IT READS IS OF BULK AT MOST 1048576: true; the input reads as it did. -/
def frameShapesUptoRow : OpenClaim := { program := "ytgibhdjhgobdnaa", sum := "3d10043a4f0c9e3b120be0ba34b6bb104d3b7917523984a830cab00d7801e2a7", func := "intaglio/intagliolaw11.FrameShapes", spec := "frameShapes", apart := false, narrowed := true }
def FrameShapesUptoSaid : Prop := frameShapesUptoRow.holds Try.pinned (OpenSpec.upto frameShapesSpec)

/-- 'intagliolaw11.FrameReads', WHERE WHAT IT READS IS OF BULK AT MOST 1048576: true; the input reads as it did. -/
def frameReadsUptoRow : OpenClaim := { program := "ytgibhdjhgobdnaa", sum := "3d10043a4f0c9e3b120be0ba34b6bb104d3b7917523984a830cab00d7801e2a7", func := "intaglio/intagliolaw11.FrameReads", spec := "frameReads", apart := false, narrowed := true }
def FrameReadsUptoSaid : Prop := frameReadsUptoRow.holds Try.pinned (OpenSpec.upto frameReadsSpec)

/-- 'intagliolaw11.FrameOwn', WHERE WHAT IT READS IS OF BULK AT MOST 1048576: true; the input reads as it did. -/
def frameOwnUptoRow : OpenClaim := { program := "ytgibhdjhgobdnaa", sum := "3d10043a4f0c9e3b120be0ba34b6bb104d3b7917523984a830cab00d7801e2a7", func := "intaglio/intagliolaw11.FrameOwn", spec := "frameOwn", apart := false, narrowed := true }
def FrameOwnUptoSaid : Prop := frameOwnUptoRow.holds Try.pinned (OpenSpec.upto frameOwnSpec)

/-- 'intagliolaw11.FrameCut', WHERE WHAT IT READS IS OF BULK AT MOST 1048576: true; the input reads as it did. -/
def frameCutUptoRow : OpenClaim := { program := "ytgibhdjhgobdnaa", sum := "3d10043a4f0c9e3b120be0ba34b6bb104d3b7917523984a830cab00d7801e2a7", func := "intaglio/intagliolaw11.FrameCut", spec := "frameCut", apart := false, narrowed := true }
def FrameCutUptoSaid : Prop := frameCutUptoRow.holds Try.pinned (OpenSpec.upto frameCutSpec)

/-- 'intagliolaw11.FrameTwoWays', WHERE WHAT IT READS IS OF BULK AT MOST 1048576: true; the input reads as it did. -/
def frameTwoWaysUptoRow : OpenClaim := { program := "ytgibhdjhgobdnaa", sum := "3d10043a4f0c9e3b120be0ba34b6bb104d3b7917523984a830cab00d7801e2a7", func := "intaglio/intagliolaw11.FrameTwoWays", spec := "frameTwoWays", apart := false, narrowed := true }
def FrameTwoWaysUptoSaid : Prop := frameTwoWaysUptoRow.holds Try.pinned (OpenSpec.upto frameTwoWaysSpec)

end Rows
end Go.Proofs.Ytgibhdjhgobdnaa
