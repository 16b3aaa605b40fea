/-
  No cell of these rows narrows 'for every input' (looked for: loops, veiled, ifaces, maps, wideKeys, modest, calm, conditions, laid).
  DERIVED. THE GIVEN ROWS OF THIS SEAT. 4 by the template 'for every input the law returns true; each argument reads behind the call as it read before'; 0 by the template 'total and deterministic' (their statements: YtmolpgnekcfimaaTotals.lean).
  GIVEN WITH THE SEED: the statements are not yours to turn. If you find one false, say at which input.
  Laid BY PROGRAM, IN A SANDBOX (cutbox-rows.mjs): the forced cells as the released guide's own fill.sh prints them over the translation 8476bac3c7a72f71… (all of the seat's roots in one cut). By AI agents, Wed Nov 11 2026. No macro, syntax, notation, axiom, sorry.
-/
import Derived.Test.YtmolpgnekcfimaaChecked
import GoSem.Claim
import GoSem.ClaimJoined
import GoSem.ClaimMapViews
import Derived.JoinedTies
import Derived.KernelRfl
namespace Go.Proofs.Ytmolpgnekcfimaa
/- THE CELL 'sum', in the pinned program and in every row, IS THE sha256 OF THE DUMP (.gsa) THAT YtmolpgnekcfimaaProg.lean LOADS. Nothing in Lean hashes anything: it is a label: what it is worth is what the hold of that sum in a sandbox is worth. -/
noncomputable def Try.pinned : Pinned := { name := "ytmolpgnekcfimaa", sum := "8476bac3c7a72f7170c0775c1462c5454234748b19a1bb23cb29b429ac3c53da", checked := Try.checked }
namespace Rows
def none {H : Type} : Left H := { results := [], args := [] }

/-- 'intagliolaw13.CellGrows': WHATEVER THE INPUT: true; the input reads as it did. -/
def cellGrowsSpec : ChangeSpec := { name := "cellGrows", fn := fun _ => fun
  | [d1, d2] => { results := [.lit (.bool true)], args := [d1, d2] }
  | _ => none }
def cellGrowsRow : OpenClaim := { program := "ytmolpgnekcfimaa", sum := "8476bac3c7a72f7170c0775c1462c5454234748b19a1bb23cb29b429ac3c53da", func := "intaglio/intagliolaw13.CellGrows", spec := "cellGrows", unfollowed := true, recurses := true, apart := false }
def CellGrowsSaid : Prop := cellGrowsRow.holds Try.pinned (OpenSpec.ofChange cellGrowsSpec)

/-- ITS FALSE NEIGHBOUR: 'it returns false'. Refute it at one input. -/
def cellGrowsWrong : ChangeSpec := { name := "cellGrows", fn := fun _ => fun
  | [d1, d2] => { results := [.lit (.bool false)], args := [d1, d2] }
  | _ => none }
def CellGrowsWrongFalsely : Prop := cellGrowsRow.holds Try.pinned (OpenSpec.ofChange cellGrowsWrong)

/-- 'intagliolaw13.CellWhole': WHATEVER THE INPUT: true; the input reads as it did. -/
def cellWholeSpec : ChangeSpec := { name := "cellWhole", fn := fun _ => fun
  | [d1, d2, d3] => { results := [.lit (.bool true)], args := [d1, d2, d3] }
  | _ => none }
def cellWholeRow : OpenClaim := { program := "ytmolpgnekcfimaa", sum := "8476bac3c7a72f7170c0775c1462c5454234748b19a1bb23cb29b429ac3c53da", func := "intaglio/intagliolaw13.CellWhole", spec := "cellWhole", unfollowed := true, recurses := true, apart := false }
def CellWholeSaid : Prop := cellWholeRow.holds Try.pinned (OpenSpec.ofChange cellWholeSpec)

/-- ITS FALSE NEIGHBOUR: 'it returns false'. Refute it at one input. -/
def cellWholeWrong : ChangeSpec := { name := "cellWhole", fn := fun _ => fun
  | [d1, d2, d3] => { results := [.lit (.bool false)], args := [d1, d2, d3] }
  | _ => none }
def CellWholeWrongFalsely : Prop := cellWholeRow.holds Try.pinned (OpenSpec.ofChange cellWholeWrong)

/-- 'intagliolaw13.CellTorn': WHATEVER THE INPUT: true; the input reads as it did. -/
def cellTornSpec : ChangeSpec := { name := "cellTorn", fn := fun _ => fun
  | [d1, d2] => { results := [.lit (.bool true)], args := [d1, d2] }
  | _ => none }
def cellTornRow : OpenClaim := { program := "ytmolpgnekcfimaa", sum := "8476bac3c7a72f7170c0775c1462c5454234748b19a1bb23cb29b429ac3c53da", func := "intaglio/intagliolaw13.CellTorn", spec := "cellTorn", unfollowed := true, recurses := true, apart := false }
def CellTornSaid : Prop := cellTornRow.holds Try.pinned (OpenSpec.ofChange cellTornSpec)

/-- ITS FALSE NEIGHBOUR: 'it returns false'. Refute it at one input. -/
def cellTornWrong : ChangeSpec := { name := "cellTorn", fn := fun _ => fun
  | [d1, d2] => { results := [.lit (.bool false)], args := [d1, d2] }
  | _ => none }
def CellTornWrongFalsely : Prop := cellTornRow.holds Try.pinned (OpenSpec.ofChange cellTornWrong)

/-- 'intagliolaw13.CellBefore': WHATEVER THE INPUT: true; the input reads as it did. -/
def cellBeforeSpec : ChangeSpec := { name := "cellBefore", fn := fun _ => fun
  | [d1, d2, d3] => { results := [.lit (.bool true)], args := [d1, d2, d3] }
  | _ => none }
def cellBeforeRow : OpenClaim := { program := "ytmolpgnekcfimaa", sum := "8476bac3c7a72f7170c0775c1462c5454234748b19a1bb23cb29b429ac3c53da", func := "intaglio/intagliolaw13.CellBefore", spec := "cellBefore", unfollowed := true, recurses := true, apart := false }
def CellBeforeSaid : Prop := cellBeforeRow.holds Try.pinned (OpenSpec.ofChange cellBeforeSpec)

/-- ITS FALSE NEIGHBOUR: 'it returns false'. Refute it at one input. -/
def cellBeforeWrong : ChangeSpec := { name := "cellBefore", fn := fun _ => fun
  | [d1, d2, d3] => { results := [.lit (.bool false)], args := [d1, d2, d3] }
  | _ => none }
def CellBeforeWrongFalsely : Prop := cellBeforeRow.holds Try.pinned (OpenSpec.ofChange cellBeforeWrong)

/- THE SECOND FORM. 'bulk': how many values and letters a reading holds, each counted each time it is reached (what is shared counts as often as it is met; a slice's spare places count too). A statement '..UptoSaid' is the law's where the arguments, and the package variables that the reading takes, are together of bulk at most 1048576: NARROWER than '..Said'. Prove '..Said' where nothing that the law and all that it calls make is longer than what came in: it says more and counts as full. Else prove '..UptoSaid'. A law counts once. -/
mutual
def uptoBulk {H : Type} : DataW H → Nat
  | .lit (.string bytes) => bytes.length + 1
  | .lit _ => 1
  | .nil => 1
  | .ptr d => uptoBulk d + 1
  | .slice elems spare => uptoBulkAll elems + uptoBulkAll spare + 1
  | .agg parts => uptoBulkAll parts + 1
  | .iface _ d => uptoBulk d + 1
  | .map entries => uptoBulkEntries entries + 1
  | .held _ => 1
def uptoBulkAll {H : Type} : List (DataW H) → Nat
  | [] => 0
  | d :: r => uptoBulk d + uptoBulkAll r
def uptoBulkEntries {H : Type} : List (Lit × DataW H) → Nat
  | [] => 0
  | x :: r => uptoBulkEntry x + uptoBulkEntries r
def uptoBulkEntry {H : Type} : Lit × DataW H → Nat
  | (.string bytes, d) => bytes.length + uptoBulk d + 1
  | (_, d) => uptoBulk d + 1
 end
def uptoSmall : (H : Type) → List (DataW H) → Bool := fun _ ds => decide (uptoBulkAll ds ≤ 1048576)
def OpenSpec.upto (s : _root_.Go.ChangeSpec) : _root_.Go.OpenSpec := { _root_.Go.OpenSpec.ofChange s with cond := some uptoSmall }

/-- 'intagliolaw13.CellGrows', WHERE WHAT IT READS IS OF BULK AT MOST 1048576: true; the input reads as it did. -/
def cellGrowsUptoRow : OpenClaim := { program := "ytmolpgnekcfimaa", sum := "8476bac3c7a72f7170c0775c1462c5454234748b19a1bb23cb29b429ac3c53da", func := "intaglio/intagliolaw13.CellGrows", spec := "cellGrows", unfollowed := true, recurses := true, apart := false, narrowed := true }
def CellGrowsUptoSaid : Prop := cellGrowsUptoRow.holds Try.pinned (OpenSpec.upto cellGrowsSpec)

/-- 'intagliolaw13.CellWhole', WHERE WHAT IT READS IS OF BULK AT MOST 1048576: true; the input reads as it did. -/
def cellWholeUptoRow : OpenClaim := { program := "ytmolpgnekcfimaa", sum := "8476bac3c7a72f7170c0775c1462c5454234748b19a1bb23cb29b429ac3c53da", func := "intaglio/intagliolaw13.CellWhole", spec := "cellWhole", unfollowed := true, recurses := true, apart := false, narrowed := true }
def CellWholeUptoSaid : Prop := cellWholeUptoRow.holds Try.pinned (OpenSpec.upto cellWholeSpec)

/-- 'intagliolaw13.CellTorn', WHERE WHAT IT READS IS OF BULK AT MOST 1048576: true; the input reads as it did. -/
def cellTornUptoRow : OpenClaim := { program := "ytmolpgnekcfimaa", sum := "8476bac3c7a72f7170c0775c1462c5454234748b19a1bb23cb29b429ac3c53da", func := "intaglio/intagliolaw13.CellTorn", spec := "cellTorn", unfollowed := true, recurses := true, apart := false, narrowed := true }
def CellTornUptoSaid : Prop := cellTornUptoRow.holds Try.pinned (OpenSpec.upto cellTornSpec)

/-- 'intagliolaw13.CellBefore', WHERE WHAT IT READS IS OF BULK AT MOST 1048576: true; the input reads as it did. -/
def cellBeforeUptoRow : OpenClaim := { program := "ytmolpgnekcfimaa", sum := "8476bac3c7a72f7170c0775c1462c5454234748b19a1bb23cb29b429ac3c53da", func := "intaglio/intagliolaw13.CellBefore", spec := "cellBefore", unfollowed := true, recurses := true, apart := false, narrowed := true }
def CellBeforeUptoSaid : Prop := cellBeforeUptoRow.holds Try.pinned (OpenSpec.upto cellBeforeSpec)

end Rows
end Go.Proofs.Ytmolpgnekcfimaa
