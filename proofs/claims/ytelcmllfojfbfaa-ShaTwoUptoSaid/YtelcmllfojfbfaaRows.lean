/-
  No cell of these rows narrows 'for every input' (looked for: loops, veiled, ifaces, maps, wideKeys, modest, calm, conditions, laid).
  DERIVED. THE GIVEN ROWS OF THIS SEAT. 14 by the template 'for every input the law returns true; each argument reads behind the call as it read before'; 0 by the template 'total and deterministic' (their statements: YtelcmllfojfbfaaTotals.lean).
  GIVEN WITH THE SEED: the statements are not yours to turn. If you find one false, say at which input.
  Laid BY PROGRAM, IN A SANDBOX (cutbox-rows.mjs): the forced cells as the released guide's own fill.sh prints them over the translation a0ba18103fc4ffba… (all of the seat's roots in one cut). By AI agents, Wed Nov 11 2026. No macro, syntax, notation, axiom, sorry.
-/
import Derived.Test.YtelcmllfojfbfaaChecked
import GoSem.Claim
import GoSem.ClaimJoined
import GoSem.ClaimMapViews
import Derived.JoinedTies
import Derived.KernelRfl
namespace Go.Proofs.Ytelcmllfojfbfaa
/- THE CELL 'sum', in the pinned program and in every row, IS THE sha256 OF THE DUMP (.gsa) THAT YtelcmllfojfbfaaProg.lean LOADS. Nothing in Lean hashes anything: it is a label: what it is worth is what the hold of that sum in a sandbox is worth. -/
noncomputable def Try.pinned : Pinned := { name := "ytelcmllfojfbfaa", sum := "a0ba18103fc4ffbaa450e43784d568afc525fe31b7571bc2adddadbcffcaad40", checked := Try.checked }
namespace Rows
def none {H : Type} : Left H := { results := [], args := [] }

/-- 'intagliolaw01.ShaSmall': WHATEVER THE INPUT: true; the input reads as it did. -/
def shaSmallSpec : ChangeSpec := { name := "shaSmall", fn := fun _ => fun
  | [d] => { results := [.lit (.bool true)], args := [d] }
  | _ => none }
def shaSmallRow : OpenClaim := { program := "ytelcmllfojfbfaa", sum := "a0ba18103fc4ffbaa450e43784d568afc525fe31b7571bc2adddadbcffcaad40", func := "intaglio/intagliolaw01.ShaSmall", spec := "shaSmall", unfollowed := true, recurses := true, apart := false }
def ShaSmallSaid : Prop := shaSmallRow.holds Try.pinned (OpenSpec.ofChange shaSmallSpec)

/-- ITS FALSE NEIGHBOUR: 'it returns false'. Refute it at one input. -/
def shaSmallWrong : ChangeSpec := { name := "shaSmall", fn := fun _ => fun
  | [d] => { results := [.lit (.bool false)], args := [d] }
  | _ => none }
def ShaSmallWrongFalsely : Prop := shaSmallRow.holds Try.pinned (OpenSpec.ofChange shaSmallWrong)

/-- 'intagliolaw01.ShaLarge': WHATEVER THE INPUT: true; the input reads as it did. -/
def shaLargeSpec : ChangeSpec := { name := "shaLarge", fn := fun _ => fun
  | [d] => { results := [.lit (.bool true)], args := [d] }
  | _ => none }
def shaLargeRow : OpenClaim := { program := "ytelcmllfojfbfaa", sum := "a0ba18103fc4ffbaa450e43784d568afc525fe31b7571bc2adddadbcffcaad40", func := "intaglio/intagliolaw01.ShaLarge", spec := "shaLarge", unfollowed := true, recurses := true, apart := false }
def ShaLargeSaid : Prop := shaLargeRow.holds Try.pinned (OpenSpec.ofChange shaLargeSpec)

/-- ITS FALSE NEIGHBOUR: 'it returns false'. Refute it at one input. -/
def shaLargeWrong : ChangeSpec := { name := "shaLarge", fn := fun _ => fun
  | [d] => { results := [.lit (.bool false)], args := [d] }
  | _ => none }
def ShaLargeWrongFalsely : Prop := shaLargeRow.holds Try.pinned (OpenSpec.ofChange shaLargeWrong)

/-- 'intagliolaw02.MacLong': WHATEVER THE INPUT: true; the input reads as it did. -/
def macLongSpec : ChangeSpec := { name := "macLong", fn := fun _ => fun
  | [d1, d2, d3] => { results := [.lit (.bool true)], args := [d1, d2, d3] }
  | _ => none }
def macLongRow : OpenClaim := { program := "ytelcmllfojfbfaa", sum := "a0ba18103fc4ffbaa450e43784d568afc525fe31b7571bc2adddadbcffcaad40", func := "intaglio/intagliolaw02.MacLong", spec := "macLong", unfollowed := true, recurses := true, apart := false }
def MacLongSaid : Prop := macLongRow.holds Try.pinned (OpenSpec.ofChange macLongSpec)

/-- ITS FALSE NEIGHBOUR: 'it returns false'. Refute it at one input. -/
def macLongWrong : ChangeSpec := { name := "macLong", fn := fun _ => fun
  | [d1, d2, d3] => { results := [.lit (.bool false)], args := [d1, d2, d3] }
  | _ => none }
def MacLongWrongFalsely : Prop := macLongRow.holds Try.pinned (OpenSpec.ofChange macLongWrong)

/-- 'intagliolaw02.MacSums': WHATEVER THE INPUT: true; the input reads as it did. -/
def macSumsSpec : ChangeSpec := { name := "macSums", fn := fun _ => fun
  | [d1, d2, d3] => { results := [.lit (.bool true)], args := [d1, d2, d3] }
  | _ => none }
def macSumsRow : OpenClaim := { program := "ytelcmllfojfbfaa", sum := "a0ba18103fc4ffbaa450e43784d568afc525fe31b7571bc2adddadbcffcaad40", func := "intaglio/intagliolaw02.MacSums", spec := "macSums", unfollowed := true, recurses := true, apart := false }
def MacSumsSaid : Prop := macSumsRow.holds Try.pinned (OpenSpec.ofChange macSumsSpec)

/-- ITS FALSE NEIGHBOUR: 'it returns false'. Refute it at one input. -/
def macSumsWrong : ChangeSpec := { name := "macSums", fn := fun _ => fun
  | [d1, d2, d3] => { results := [.lit (.bool false)], args := [d1, d2, d3] }
  | _ => none }
def MacSumsWrongFalsely : Prop := macSumsRow.holds Try.pinned (OpenSpec.ofChange macSumsWrong)

/-- 'intagliolaw02.MacCounts': WHATEVER THE INPUT: true; the input reads as it did. -/
def macCountsSpec : ChangeSpec := { name := "macCounts", fn := fun _ => fun
  | [d1, d2] => { results := [.lit (.bool true)], args := [d1, d2] }
  | _ => none }
def macCountsRow : OpenClaim := { program := "ytelcmllfojfbfaa", sum := "a0ba18103fc4ffbaa450e43784d568afc525fe31b7571bc2adddadbcffcaad40", func := "intaglio/intagliolaw02.MacCounts", spec := "macCounts", unfollowed := true, recurses := true, apart := false }
def MacCountsSaid : Prop := macCountsRow.holds Try.pinned (OpenSpec.ofChange macCountsSpec)

/-- ITS FALSE NEIGHBOUR: 'it returns false'. Refute it at one input. -/
def macCountsWrong : ChangeSpec := { name := "macCounts", fn := fun _ => fun
  | [d1, d2] => { results := [.lit (.bool false)], args := [d1, d2] }
  | _ => none }
def MacCountsWrongFalsely : Prop := macCountsRow.holds Try.pinned (OpenSpec.ofChange macCountsWrong)

/-- 'intagliolaw02.MacEqual': WHATEVER THE INPUT: true; the input reads as it did. -/
def macEqualSpec : ChangeSpec := { name := "macEqual", fn := fun _ => fun
  | [d1, d2, d3] => { results := [.lit (.bool true)], args := [d1, d2, d3] }
  | _ => none }
def macEqualRow : OpenClaim := { program := "ytelcmllfojfbfaa", sum := "a0ba18103fc4ffbaa450e43784d568afc525fe31b7571bc2adddadbcffcaad40", func := "intaglio/intagliolaw02.MacEqual", spec := "macEqual", unfollowed := true, recurses := true, apart := false }
def MacEqualSaid : Prop := macEqualRow.holds Try.pinned (OpenSpec.ofChange macEqualSpec)

/-- ITS FALSE NEIGHBOUR: 'it returns false'. Refute it at one input. -/
def macEqualWrong : ChangeSpec := { name := "macEqual", fn := fun _ => fun
  | [d1, d2, d3] => { results := [.lit (.bool false)], args := [d1, d2, d3] }
  | _ => none }
def MacEqualWrongFalsely : Prop := macEqualRow.holds Try.pinned (OpenSpec.ofChange macEqualWrong)

/-- 'intagliolaw02.MacExpands': WHATEVER THE INPUT: true; the input reads as it did. -/
def macExpandsSpec : ChangeSpec := { name := "macExpands", fn := fun _ => fun
  | [d1, d2, d3] => { results := [.lit (.bool true)], args := [d1, d2, d3] }
  | _ => none }
def macExpandsRow : OpenClaim := { program := "ytelcmllfojfbfaa", sum := "a0ba18103fc4ffbaa450e43784d568afc525fe31b7571bc2adddadbcffcaad40", func := "intaglio/intagliolaw02.MacExpands", spec := "macExpands", unfollowed := true, recurses := true, apart := false }
def MacExpandsSaid : Prop := macExpandsRow.holds Try.pinned (OpenSpec.ofChange macExpandsSpec)

/-- ITS FALSE NEIGHBOUR: 'it returns false'. Refute it at one input. -/
def macExpandsWrong : ChangeSpec := { name := "macExpands", fn := fun _ => fun
  | [d1, d2, d3] => { results := [.lit (.bool false)], args := [d1, d2, d3] }
  | _ => none }
def MacExpandsWrongFalsely : Prop := macExpandsRow.holds Try.pinned (OpenSpec.ofChange macExpandsWrong)

/-- 'intagliolaw02.MacMore': WHATEVER THE INPUT: true; the input reads as it did. -/
def macMoreSpec : ChangeSpec := { name := "macMore", fn := fun _ => fun
  | [d1, d2, d3] => { results := [.lit (.bool true)], args := [d1, d2, d3] }
  | _ => none }
def macMoreRow : OpenClaim := { program := "ytelcmllfojfbfaa", sum := "a0ba18103fc4ffbaa450e43784d568afc525fe31b7571bc2adddadbcffcaad40", func := "intaglio/intagliolaw02.MacMore", spec := "macMore", unfollowed := true, recurses := true, apart := false }
def MacMoreSaid : Prop := macMoreRow.holds Try.pinned (OpenSpec.ofChange macMoreSpec)

/-- ITS FALSE NEIGHBOUR: 'it returns false'. Refute it at one input. -/
def macMoreWrong : ChangeSpec := { name := "macMore", fn := fun _ => fun
  | [d1, d2, d3] => { results := [.lit (.bool false)], args := [d1, d2, d3] }
  | _ => none }
def MacMoreWrongFalsely : Prop := macMoreRow.holds Try.pinned (OpenSpec.ofChange macMoreWrong)

/-- 'intagliolaw01.ShaTwo': WHATEVER THE INPUT: true; the input reads as it did. -/
def shaTwoSpec : ChangeSpec := { name := "shaTwo", fn := fun _ => fun
  | [d1, d2] => { results := [.lit (.bool true)], args := [d1, d2] }
  | _ => none }
def shaTwoRow : OpenClaim := { program := "ytelcmllfojfbfaa", sum := "a0ba18103fc4ffbaa450e43784d568afc525fe31b7571bc2adddadbcffcaad40", func := "intaglio/intagliolaw01.ShaTwo", spec := "shaTwo", unfollowed := true, recurses := true, apart := false }
def ShaTwoSaid : Prop := shaTwoRow.holds Try.pinned (OpenSpec.ofChange shaTwoSpec)

/-- ITS FALSE NEIGHBOUR: 'it returns false'. Refute it at one input. -/
def shaTwoWrong : ChangeSpec := { name := "shaTwo", fn := fun _ => fun
  | [d1, d2] => { results := [.lit (.bool false)], args := [d1, d2] }
  | _ => none }
def ShaTwoWrongFalsely : Prop := shaTwoRow.holds Try.pinned (OpenSpec.ofChange shaTwoWrong)

/-- 'intagliolaw01.ShaLeaves': WHATEVER THE INPUT: true; the input reads as it did. -/
def shaLeavesSpec : ChangeSpec := { name := "shaLeaves", fn := fun _ => fun
  | [d] => { results := [.lit (.bool true)], args := [d] }
  | _ => none }
def shaLeavesRow : OpenClaim := { program := "ytelcmllfojfbfaa", sum := "a0ba18103fc4ffbaa450e43784d568afc525fe31b7571bc2adddadbcffcaad40", func := "intaglio/intagliolaw01.ShaLeaves", spec := "shaLeaves", unfollowed := true, recurses := true, apart := false }
def ShaLeavesSaid : Prop := shaLeavesRow.holds Try.pinned (OpenSpec.ofChange shaLeavesSpec)

/-- ITS FALSE NEIGHBOUR: 'it returns false'. Refute it at one input. -/
def shaLeavesWrong : ChangeSpec := { name := "shaLeaves", fn := fun _ => fun
  | [d] => { results := [.lit (.bool false)], args := [d] }
  | _ => none }
def ShaLeavesWrongFalsely : Prop := shaLeavesRow.holds Try.pinned (OpenSpec.ofChange shaLeavesWrong)

/-- 'intagliolaw01.ShaRuns': WHATEVER THE INPUT: true; the input reads as it did. -/
def shaRunsSpec : ChangeSpec := { name := "shaRuns", fn := fun _ => fun
  | [d1, d2] => { results := [.lit (.bool true)], args := [d1, d2] }
  | _ => none }
def shaRunsRow : OpenClaim := { program := "ytelcmllfojfbfaa", sum := "a0ba18103fc4ffbaa450e43784d568afc525fe31b7571bc2adddadbcffcaad40", func := "intaglio/intagliolaw01.ShaRuns", spec := "shaRuns", unfollowed := true, recurses := true, apart := false }
def ShaRunsSaid : Prop := shaRunsRow.holds Try.pinned (OpenSpec.ofChange shaRunsSpec)

/-- ITS FALSE NEIGHBOUR: 'it returns false'. Refute it at one input. -/
def shaRunsWrong : ChangeSpec := { name := "shaRuns", fn := fun _ => fun
  | [d1, d2] => { results := [.lit (.bool false)], args := [d1, d2] }
  | _ => none }
def ShaRunsWrongFalsely : Prop := shaRunsRow.holds Try.pinned (OpenSpec.ofChange shaRunsWrong)

/-- 'intagliolaw01.ShaApart': WHATEVER THE INPUT: true; the input reads as it did. -/
def shaApartSpec : ChangeSpec := { name := "shaApart", fn := fun _ => fun
  | [d1, d2, d3] => { results := [.lit (.bool true)], args := [d1, d2, d3] }
  | _ => none }
def shaApartRow : OpenClaim := { program := "ytelcmllfojfbfaa", sum := "a0ba18103fc4ffbaa450e43784d568afc525fe31b7571bc2adddadbcffcaad40", func := "intaglio/intagliolaw01.ShaApart", spec := "shaApart", unfollowed := true, recurses := true, apart := false }
def ShaApartSaid : Prop := shaApartRow.holds Try.pinned (OpenSpec.ofChange shaApartSpec)

/-- ITS FALSE NEIGHBOUR: 'it returns false'. Refute it at one input. -/
def shaApartWrong : ChangeSpec := { name := "shaApart", fn := fun _ => fun
  | [d1, d2, d3] => { results := [.lit (.bool false)], args := [d1, d2, d3] }
  | _ => none }
def ShaApartWrongFalsely : Prop := shaApartRow.holds Try.pinned (OpenSpec.ofChange shaApartWrong)

/-- 'intagliolaw01.ShaFed': WHATEVER THE INPUT: true; the input reads as it did. -/
def shaFedSpec : ChangeSpec := { name := "shaFed", fn := fun _ => fun
  | [d] => { results := [.lit (.bool true)], args := [d] }
  | _ => none }
def shaFedRow : OpenClaim := { program := "ytelcmllfojfbfaa", sum := "a0ba18103fc4ffbaa450e43784d568afc525fe31b7571bc2adddadbcffcaad40", func := "intaglio/intagliolaw01.ShaFed", spec := "shaFed", unfollowed := true, recurses := true, apart := false }
def ShaFedSaid : Prop := shaFedRow.holds Try.pinned (OpenSpec.ofChange shaFedSpec)

/-- ITS FALSE NEIGHBOUR: 'it returns false'. Refute it at one input. -/
def shaFedWrong : ChangeSpec := { name := "shaFed", fn := fun _ => fun
  | [d] => { results := [.lit (.bool false)], args := [d] }
  | _ => none }
def ShaFedWrongFalsely : Prop := shaFedRow.holds Try.pinned (OpenSpec.ofChange shaFedWrong)

/-- 'intagliolaw02.MacKeys': WHATEVER THE INPUT: true; the input reads as it did. -/
def macKeysSpec : ChangeSpec := { name := "macKeys", fn := fun _ => fun
  | [d1, d2, d3] => { results := [.lit (.bool true)], args := [d1, d2, d3] }
  | _ => none }
def macKeysRow : OpenClaim := { program := "ytelcmllfojfbfaa", sum := "a0ba18103fc4ffbaa450e43784d568afc525fe31b7571bc2adddadbcffcaad40", func := "intaglio/intagliolaw02.MacKeys", spec := "macKeys", unfollowed := true, recurses := true, apart := false }
def MacKeysSaid : Prop := macKeysRow.holds Try.pinned (OpenSpec.ofChange macKeysSpec)

/-- ITS FALSE NEIGHBOUR: 'it returns false'. Refute it at one input. -/
def macKeysWrong : ChangeSpec := { name := "macKeys", fn := fun _ => fun
  | [d1, d2, d3] => { results := [.lit (.bool false)], args := [d1, d2, d3] }
  | _ => none }
def MacKeysWrongFalsely : Prop := macKeysRow.holds Try.pinned (OpenSpec.ofChange macKeysWrong)

/- THE SECOND FORM. 'bulk': how many values and letters a reading holds, each counted each time it is reached (what is shared counts as often as it is met; a slice's spare places count too). A statement '..UptoSaid' is the law's where the arguments, and the package variables that the reading takes, are together of bulk at most 1048576: NARROWER than '..Said'. Prove '..Said' where nothing that the law and all that it calls make is longer than what came in: it says more and counts as full. Else prove '..UptoSaid'. A law counts once. -/
mutual
def uptoBulk {H : Type} : DataW H → Nat
  | .lit (.string bytes) => bytes.length + 1
  | .lit _ => 1
  | .nil => 1
  | .ptr d => uptoBulk d + 1
  | .slice elems spare => uptoBulkAll elems + uptoBulkAll spare + 1
  | .agg parts => uptoBulkAll parts + 1
  | .iface _ d => uptoBulk d + 1
  | .map entries => uptoBulkEntries entries + 1
  | .held _ => 1
def uptoBulkAll {H : Type} : List (DataW H) → Nat
  | [] => 0
  | d :: r => uptoBulk d + uptoBulkAll r
def uptoBulkEntries {H : Type} : List (Lit × DataW H) → Nat
  | [] => 0
  | x :: r => uptoBulkEntry x + uptoBulkEntries r
def uptoBulkEntry {H : Type} : Lit × DataW H → Nat
  | (.string bytes, d) => bytes.length + uptoBulk d + 1
  | (_, d) => uptoBulk d + 1
 end
def uptoSmall : (H : Type) → List (DataW H) → Bool := fun _ ds => decide (uptoBulkAll ds ≤ 1048576)
def OpenSpec.upto (s : _root_.Go.ChangeSpec) : _root_.Go.OpenSpec := { _root_.Go.OpenSpec.ofChange s with cond := some uptoSmall }

/-- 'intagliolaw01.ShaSmall', WHERE WHAT IT READS IS OF BULK AT MOST 1048576: true; the input reads as it did. -/
def shaSmallUptoRow : OpenClaim := { program := "ytelcmllfojfbfaa", sum := "a0ba18103fc4ffbaa450e43784d568afc525fe31b7571bc2adddadbcffcaad40", func := "intaglio/intagliolaw01.ShaSmall", spec := "shaSmall", unfollowed := true, recurses := true, apart := false, narrowed := true }
def ShaSmallUptoSaid : Prop := shaSmallUptoRow.holds Try.pinned (OpenSpec.upto shaSmallSpec)

/-- 'intagliolaw01.ShaLarge', WHERE WHAT IT READS IS OF BULK AT MOST 1048576: true; the input reads as it did. -/
def shaLargeUptoRow : OpenClaim := { program := "ytelcmllfojfbfaa", sum := "a0ba18103fc4ffbaa450e43784d568afc525fe31b7571bc2adddadbcffcaad40", func := "intaglio/intagliolaw01.ShaLarge", spec := "shaLarge", unfollowed := true, recurses := true, apart := false, narrowed := true }
def ShaLargeUptoSaid : Prop := shaLargeUptoRow.holds Try.pinned (OpenSpec.upto shaLargeSpec)

/-- 'intagliolaw02.MacLong', WHERE WHAT IT READS IS OF BULK AT MOST 1048576: true; the input reads as it did. -/
def macLongUptoRow : OpenClaim := { program := "ytelcmllfojfbfaa", sum := "a0ba18103fc4ffbaa450e43784d568afc525fe31b7571bc2adddadbcffcaad40", func := "intaglio/intagliolaw02.MacLong", spec := "macLong", unfollowed := true, recurses := true, apart := false, narrowed := true }
def MacLongUptoSaid : Prop := macLongUptoRow.holds Try.pinned (OpenSpec.upto macLongSpec)

/-- 'intagliolaw02.MacSums', WHERE WHAT IT READS IS OF BULK AT MOST 1048576: true; the input reads as it did. -/
def macSumsUptoRow : OpenClaim := { program := "ytelcmllfojfbfaa", sum := "a0ba18103fc4ffbaa450e43784d568afc525fe31b7571bc2adddadbcffcaad40", func := "intaglio/intagliolaw02.MacSums", spec := "macSums", unfollowed := true, recurses := true, apart := false, narrowed := true }
def MacSumsUptoSaid : Prop := macSumsUptoRow.holds Try.pinned (OpenSpec.upto macSumsSpec)

/-- 'intagliolaw02.MacCounts', WHERE WHAT IT READS IS OF BULK AT MOST 1048576: true; the input reads as it did. -/
def macCountsUptoRow : OpenClaim := { program := "ytelcmllfojfbfaa", sum := "a0ba18103fc4ffbaa450e43784d568afc525fe31b7571bc2adddadbcffcaad40", func := "intaglio/intagliolaw02.MacCounts", spec := "macCounts", unfollowed := true, recurses := true, apart := false, narrowed := true }
def MacCountsUptoSaid : Prop := macCountsUptoRow.holds Try.pinned (OpenSpec.upto macCountsSpec)

/-- 'intagliolaw02.MacEqual', WHERE WHAT IT READS IS OF BULK AT MOST 1048576: true; the input reads as it did. -/
def macEqualUptoRow : OpenClaim := { program := "ytelcmllfojfbfaa", sum := "a0ba18103fc4ffbaa450e43784d568afc525fe31b7571bc2adddadbcffcaad40", func := "intaglio/intagliolaw02.MacEqual", spec := "macEqual", unfollowed := true, recurses := true, apart := false, narrowed := true }
def MacEqualUptoSaid : Prop := macEqualUptoRow.holds Try.pinned (OpenSpec.upto macEqualSpec)

/-- 'intagliolaw02.MacExpands', WHERE WHAT IT READS IS OF BULK AT MOST 1048576: true; the input reads as it did. -/
def macExpandsUptoRow : OpenClaim := { program := "ytelcmllfojfbfaa", sum := "a0ba18103fc4ffbaa450e43784d568afc525fe31b7571bc2adddadbcffcaad40", func := "intaglio/intagliolaw02.MacExpands", spec := "macExpands", unfollowed := true, recurses := true, apart := false, narrowed := true }
def MacExpandsUptoSaid : Prop := macExpandsUptoRow.holds Try.pinned (OpenSpec.upto macExpandsSpec)

/-- 'intagliolaw02.MacMore', WHERE WHAT IT READS IS OF BULK AT MOST 1048576: true; the input reads as it did. -/
def macMoreUptoRow : OpenClaim := { program := "ytelcmllfojfbfaa", sum := "a0ba18103fc4ffbaa450e43784d568afc525fe31b7571bc2adddadbcffcaad40", func := "intaglio/intagliolaw02.MacMore", spec := "macMore", unfollowed := true, recurses := true, apart := false, narrowed := true }
def MacMoreUptoSaid : Prop := macMoreUptoRow.holds Try.pinned (OpenSpec.upto macMoreSpec)

/-- 'intagliolaw01.ShaTwo', WHERE WHAT IT READS IS OF BULK AT MOST 1048576: true; the input reads as it did. -/
def shaTwoUptoRow : OpenClaim := { program := "ytelcmllfojfbfaa", sum := "a0ba18103fc4ffbaa450e43784d568afc525fe31b7571bc2adddadbcffcaad40", func := "intaglio/intagliolaw01.ShaTwo", spec := "shaTwo", unfollowed := true, recurses := true, apart := false, narrowed := true }
def ShaTwoUptoSaid : Prop := shaTwoUptoRow.holds Try.pinned (OpenSpec.upto shaTwoSpec)

/-- 'intagliolaw01.ShaLeaves', WHERE WHAT IT READS IS OF BULK AT MOST 1048576: true; the input reads as it did. -/
def shaLeavesUptoRow : OpenClaim := { program := "ytelcmllfojfbfaa", sum := "a0ba18103fc4ffbaa450e43784d568afc525fe31b7571bc2adddadbcffcaad40", func := "intaglio/intagliolaw01.ShaLeaves", spec := "shaLeaves", unfollowed := true, recurses := true, apart := false, narrowed := true }
def ShaLeavesUptoSaid : Prop := shaLeavesUptoRow.holds Try.pinned (OpenSpec.upto shaLeavesSpec)

/-- 'intagliolaw01.ShaRuns', WHERE WHAT IT READS IS OF BULK AT MOST 1048576: true; the input reads as it did. -/
def shaRunsUptoRow : OpenClaim := { program := "ytelcmllfojfbfaa", sum := "a0ba18103fc4ffbaa450e43784d568afc525fe31b7571bc2adddadbcffcaad40", func := "intaglio/intagliolaw01.ShaRuns", spec := "shaRuns", unfollowed := true, recurses := true, apart := false, narrowed := true }
def ShaRunsUptoSaid : Prop := shaRunsUptoRow.holds Try.pinned (OpenSpec.upto shaRunsSpec)

/-- 'intagliolaw01.ShaApart', WHERE WHAT IT READS IS OF BULK AT MOST 1048576: true; the input reads as it did. -/
def shaApartUptoRow : OpenClaim := { program := "ytelcmllfojfbfaa", sum := "a0ba18103fc4ffbaa450e43784d568afc525fe31b7571bc2adddadbcffcaad40", func := "intaglio/intagliolaw01.ShaApart", spec := "shaApart", unfollowed := true, recurses := true, apart := false, narrowed := true }
def ShaApartUptoSaid : Prop := shaApartUptoRow.holds Try.pinned (OpenSpec.upto shaApartSpec)

/-- 'intagliolaw01.ShaFed', WHERE WHAT IT READS IS OF BULK AT MOST 1048576: true; the input reads as it did. -/
def shaFedUptoRow : OpenClaim := { program := "ytelcmllfojfbfaa", sum := "a0ba18103fc4ffbaa450e43784d568afc525fe31b7571bc2adddadbcffcaad40", func := "intaglio/intagliolaw01.ShaFed", spec := "shaFed", unfollowed := true, recurses := true, apart := false, narrowed := true }
def ShaFedUptoSaid : Prop := shaFedUptoRow.holds Try.pinned (OpenSpec.upto shaFedSpec)

/-- 'intagliolaw02.MacKeys', WHERE WHAT IT READS IS OF BULK AT MOST 1048576: true; the input reads as it did. -/
def macKeysUptoRow : OpenClaim := { program := "ytelcmllfojfbfaa", sum := "a0ba18103fc4ffbaa450e43784d568afc525fe31b7571bc2adddadbcffcaad40", func := "intaglio/intagliolaw02.MacKeys", spec := "macKeys", unfollowed := true, recurses := true, apart := false, narrowed := true }
def MacKeysUptoSaid : Prop := macKeysUptoRow.holds Try.pinned (OpenSpec.upto macKeysSpec)

end Rows
end Go.Proofs.Ytelcmllfojfbfaa
