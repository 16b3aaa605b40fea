/-
  NARROWER THAN 'FOR EVERY INPUT', by the rows' own cells (each row's printed sentence says how): WholeThought: loops, laid · TermBack: loops, laid · KnowsRefuses: loops, laid · KnowsMakes: loops, laid · KnowsGrows: loops, laid · KnowsOpens: loops, laid · KnowsFresh: loops, laid · KnowsPairs: loops, laid.
  DERIVED. THE GIVEN ROWS OF THIS SEAT. 8 by the template 'for every input the law returns true; each argument reads behind the call as it read before'; 0 by the template 'total and deterministic' (their statements: YtlpkcbkflfbclaaDoorTotals.lean).
  GIVEN WITH THE SEED: the statements are not yours to turn. If you find one false, say at which input.
  Laid BY PROGRAM, IN A SANDBOX (cutbox-rows.mjs): the forced cells as the released guide's own fill.sh prints them over the translation a47fa20ebd905384… (all of the seat's roots in one cut). By AI agents, Wed Nov 11 2026. No macro, syntax, notation, axiom, sorry.
-/
import Derived.Test.YtlpkcbkflfbclaaDoorChecked
import GoSem.PinnedTables
import GoSem.Claim
import GoSem.ClaimJoined
import GoSem.ClaimMapViews
import Derived.JoinedTies
import Derived.KernelRfl
namespace Go.Proofs.YtlpkcbkflfbclaaDoor
/- THE CELL 'sum', in the pinned program and in every row, IS THE sha256 OF THE DUMP (.gsa) THAT YtlpkcbkflfbclaaDoorProg.lean LOADS. Nothing in Lean hashes anything: it is a label: what it is worth is what the hold of that sum in a sandbox is worth. -/
noncomputable def Tryd.pinned : Pinned := { name := "ytlpkcbkflfbclaadoor", sum := "a47fa20ebd90538448743f631e79d09cae5a318cfb6167377ee1ecf5b3125699", checked := Tryd.checked }
namespace Rows
def none {H : Type} : Left H := { results := [], args := [] }

/- WHAT THE LISTED PACKAGE-LEVEL VARIABLES READ AS WHEN THE CALL BEGINS. Each datum BY PROGRAM (the guide's laid-datum.mjs) off the statement by which the dump's own 'gosem.cut.vars' lays the variable. In a bare row this is a premise. The card (YtlpkcbkflfbclaaDoorCards.lean) ties it to the program's text. -/
def laid_unicode_utf8_acceptRanges {H : Type} : DataW H := .agg [.agg [.lit (.int .u8 128), .lit (.int .u8 191)], .agg [.lit (.int .u8 160), .lit (.int .u8 191)], .agg [.lit (.int .u8 128), .lit (.int .u8 159)], .agg [.lit (.int .u8 144), .lit (.int .u8 191)], .agg [.lit (.int .u8 128), .lit (.int .u8 143)], .agg [.lit (.int .u8 0), .lit (.int .u8 0)], .agg [.lit (.int .u8 0), .lit (.int .u8 0)], .agg [.lit (.int .u8 0), .lit (.int .u8 0)], .agg [.lit (.int .u8 0), .lit (.int .u8 0)], .agg [.lit (.int .u8 0), .lit (.int .u8 0)], .agg [.lit (.int .u8 0), .lit (.int .u8 0)], .agg [.lit (.int .u8 0), .lit (.int .u8 0)], .agg [.lit (.int .u8 0), .lit (.int .u8 0)], .agg [.lit (.int .u8 0), .lit (.int .u8 0)], .agg [.lit (.int .u8 0), .lit (.int .u8 0)], .agg [.lit (.int .u8 0), .lit (.int .u8 0)]]
/-- One of Go's own tables, pinned by name: the form's constant. -/
def laid_unicode_utf8_first : DataW Unit := Go.Pinned.utf8First

/-- 'intagliotop.WholeThought': WHATEVER THE INPUT: true; the input reads as it did. -/
def wholeThoughtSpec : ChangeSpec := { name := "wholeThought", fn := fun _ => fun
  | [d1, d2] => { results := [.lit (.bool true)], args := [d1, d2] }
  | _ => none }
def wholeThoughtRow : OpenClaim := { program := "ytlpkcbkflfbclaadoor", sum := "a47fa20ebd90538448743f631e79d09cae5a318cfb6167377ee1ecf5b3125699", func := "intaglio/intagliotop.WholeThought", spec := "wholeThought", inPlace := ["internal/bytealg.abigen_runtime_cmpstring", "internal/bytealg.IndexByteString", "internal/bytealg.IndexString", "slices.overlaps[intaglio/term.Term]"], unfollowed := true, recurses := true, named := ["unicode/utf8.first", "unicode/utf8.acceptRanges", "internal/bytealg.MaxLen"], loops := true, apart := false, laid := [("unicode/utf8.acceptRanges", laid_unicode_utf8_acceptRanges), ("unicode/utf8.first", laid_unicode_utf8_first)] }
def WholeThoughtSaid : Prop := wholeThoughtRow.holds Tryd.pinned (OpenSpec.ofChange wholeThoughtSpec)

/-- ITS FALSE NEIGHBOUR: 'it returns false'. Refute it at one input. -/
def wholeThoughtWrong : ChangeSpec := { name := "wholeThought", fn := fun _ => fun
  | [d1, d2] => { results := [.lit (.bool false)], args := [d1, d2] }
  | _ => none }
def WholeThoughtWrongFalsely : Prop := wholeThoughtRow.holds Tryd.pinned (OpenSpec.ofChange wholeThoughtWrong)

/-- 'intagliolaw19.TermBack': WHATEVER THE INPUT: true; the input reads as it did. -/
def termBackSpec : ChangeSpec := { name := "termBack", fn := fun _ => fun
  | [d1, d2] => { results := [.lit (.bool true)], args := [d1, d2] }
  | _ => none }
def termBackRow : OpenClaim := { program := "ytlpkcbkflfbclaadoor", sum := "a47fa20ebd90538448743f631e79d09cae5a318cfb6167377ee1ecf5b3125699", func := "intaglio/intagliolaw19.TermBack", spec := "termBack", inPlace := ["internal/bytealg.IndexByteString", "internal/bytealg.IndexString", "internal/bytealg.abigen_runtime_cmpstring", "internal/abi.NoEscape"], unfollowed := true, recurses := true, named := ["unicode/utf8.first", "unicode/utf8.acceptRanges", "internal/bytealg.MaxLen"], loops := true, apart := false, laid := [("unicode/utf8.acceptRanges", laid_unicode_utf8_acceptRanges), ("unicode/utf8.first", laid_unicode_utf8_first)] }
def TermBackSaid : Prop := termBackRow.holds Tryd.pinned (OpenSpec.ofChange termBackSpec)

/-- ITS FALSE NEIGHBOUR: 'it returns false'. Refute it at one input. -/
def termBackWrong : ChangeSpec := { name := "termBack", fn := fun _ => fun
  | [d1, d2] => { results := [.lit (.bool false)], args := [d1, d2] }
  | _ => none }
def TermBackWrongFalsely : Prop := termBackRow.holds Tryd.pinned (OpenSpec.ofChange termBackWrong)

/-- 'intagliolaw20.KnowsRefuses': WHATEVER THE INPUT: true; the input reads as it did. -/
def knowsRefusesSpec : ChangeSpec := { name := "knowsRefuses", fn := fun _ => fun
  | [d1, d2] => { results := [.lit (.bool true)], args := [d1, d2] }
  | _ => none }
def knowsRefusesRow : OpenClaim := { program := "ytlpkcbkflfbclaadoor", sum := "a47fa20ebd90538448743f631e79d09cae5a318cfb6167377ee1ecf5b3125699", func := "intaglio/intagliolaw20.KnowsRefuses", spec := "knowsRefuses", inPlace := ["internal/bytealg.IndexByteString", "internal/bytealg.IndexString", "internal/bytealg.abigen_runtime_cmpstring", "slices.overlaps[intaglio/term.Term]"], unfollowed := true, recurses := true, named := ["unicode/utf8.first", "unicode/utf8.acceptRanges", "internal/bytealg.MaxLen"], loops := true, apart := false, laid := [("unicode/utf8.acceptRanges", laid_unicode_utf8_acceptRanges), ("unicode/utf8.first", laid_unicode_utf8_first)] }
def KnowsRefusesSaid : Prop := knowsRefusesRow.holds Tryd.pinned (OpenSpec.ofChange knowsRefusesSpec)

/-- ITS FALSE NEIGHBOUR: 'it returns false'. Refute it at one input. -/
def knowsRefusesWrong : ChangeSpec := { name := "knowsRefuses", fn := fun _ => fun
  | [d1, d2] => { results := [.lit (.bool false)], args := [d1, d2] }
  | _ => none }
def KnowsRefusesWrongFalsely : Prop := knowsRefusesRow.holds Tryd.pinned (OpenSpec.ofChange knowsRefusesWrong)

/-- 'intagliolaw20.KnowsMakes': WHATEVER THE INPUT: true; the input reads as it did. -/
def knowsMakesSpec : ChangeSpec := { name := "knowsMakes", fn := fun _ => fun
  | [d1, d2] => { results := [.lit (.bool true)], args := [d1, d2] }
  | _ => none }
def knowsMakesRow : OpenClaim := { program := "ytlpkcbkflfbclaadoor", sum := "a47fa20ebd90538448743f631e79d09cae5a318cfb6167377ee1ecf5b3125699", func := "intaglio/intagliolaw20.KnowsMakes", spec := "knowsMakes", inPlace := ["internal/bytealg.IndexByteString", "internal/bytealg.IndexString", "internal/bytealg.abigen_runtime_cmpstring", "slices.overlaps[intaglio/term.Term]"], unfollowed := true, recurses := true, named := ["unicode/utf8.first", "unicode/utf8.acceptRanges", "internal/bytealg.MaxLen"], loops := true, apart := false, laid := [("unicode/utf8.acceptRanges", laid_unicode_utf8_acceptRanges), ("unicode/utf8.first", laid_unicode_utf8_first)] }
def KnowsMakesSaid : Prop := knowsMakesRow.holds Tryd.pinned (OpenSpec.ofChange knowsMakesSpec)

/-- ITS FALSE NEIGHBOUR: 'it returns false'. Refute it at one input. -/
def knowsMakesWrong : ChangeSpec := { name := "knowsMakes", fn := fun _ => fun
  | [d1, d2] => { results := [.lit (.bool false)], args := [d1, d2] }
  | _ => none }
def KnowsMakesWrongFalsely : Prop := knowsMakesRow.holds Tryd.pinned (OpenSpec.ofChange knowsMakesWrong)

/-- 'intagliolaw20.KnowsGrows': WHATEVER THE INPUT: true; the input reads as it did. -/
def knowsGrowsSpec : ChangeSpec := { name := "knowsGrows", fn := fun _ => fun
  | [d1, d2, d3] => { results := [.lit (.bool true)], args := [d1, d2, d3] }
  | _ => none }
def knowsGrowsRow : OpenClaim := { program := "ytlpkcbkflfbclaadoor", sum := "a47fa20ebd90538448743f631e79d09cae5a318cfb6167377ee1ecf5b3125699", func := "intaglio/intagliolaw20.KnowsGrows", spec := "knowsGrows", inPlace := ["internal/bytealg.IndexByteString", "internal/bytealg.IndexString", "internal/bytealg.abigen_runtime_cmpstring", "slices.overlaps[intaglio/term.Term]"], unfollowed := true, recurses := true, named := ["unicode/utf8.first", "unicode/utf8.acceptRanges", "internal/bytealg.MaxLen"], loops := true, apart := false, laid := [("unicode/utf8.acceptRanges", laid_unicode_utf8_acceptRanges), ("unicode/utf8.first", laid_unicode_utf8_first)] }
def KnowsGrowsSaid : Prop := knowsGrowsRow.holds Tryd.pinned (OpenSpec.ofChange knowsGrowsSpec)

/-- ITS FALSE NEIGHBOUR: 'it returns false'. Refute it at one input. -/
def knowsGrowsWrong : ChangeSpec := { name := "knowsGrows", fn := fun _ => fun
  | [d1, d2, d3] => { results := [.lit (.bool false)], args := [d1, d2, d3] }
  | _ => none }
def KnowsGrowsWrongFalsely : Prop := knowsGrowsRow.holds Tryd.pinned (OpenSpec.ofChange knowsGrowsWrong)

/-- 'intagliolaw20.KnowsOpens': WHATEVER THE INPUT: true; the input reads as it did. -/
def knowsOpensSpec : ChangeSpec := { name := "knowsOpens", fn := fun _ => fun
  | [d1, d2] => { results := [.lit (.bool true)], args := [d1, d2] }
  | _ => none }
def knowsOpensRow : OpenClaim := { program := "ytlpkcbkflfbclaadoor", sum := "a47fa20ebd90538448743f631e79d09cae5a318cfb6167377ee1ecf5b3125699", func := "intaglio/intagliolaw20.KnowsOpens", spec := "knowsOpens", inPlace := ["internal/bytealg.IndexByteString", "internal/bytealg.IndexString", "internal/bytealg.abigen_runtime_cmpstring", "slices.overlaps[intaglio/term.Term]"], unfollowed := true, recurses := true, named := ["unicode/utf8.first", "unicode/utf8.acceptRanges", "internal/bytealg.MaxLen"], loops := true, apart := false, laid := [("unicode/utf8.acceptRanges", laid_unicode_utf8_acceptRanges), ("unicode/utf8.first", laid_unicode_utf8_first)] }
def KnowsOpensSaid : Prop := knowsOpensRow.holds Tryd.pinned (OpenSpec.ofChange knowsOpensSpec)

/-- ITS FALSE NEIGHBOUR: 'it returns false'. Refute it at one input. -/
def knowsOpensWrong : ChangeSpec := { name := "knowsOpens", fn := fun _ => fun
  | [d1, d2] => { results := [.lit (.bool false)], args := [d1, d2] }
  | _ => none }
def KnowsOpensWrongFalsely : Prop := knowsOpensRow.holds Tryd.pinned (OpenSpec.ofChange knowsOpensWrong)

/-- 'intagliolaw20.KnowsFresh': WHATEVER THE INPUT: true; the input reads as it did. -/
def knowsFreshSpec : ChangeSpec := { name := "knowsFresh", fn := fun _ => fun
  | [d] => { results := [.lit (.bool true)], args := [d] }
  | _ => none }
def knowsFreshRow : OpenClaim := { program := "ytlpkcbkflfbclaadoor", sum := "a47fa20ebd90538448743f631e79d09cae5a318cfb6167377ee1ecf5b3125699", func := "intaglio/intagliolaw20.KnowsFresh", spec := "knowsFresh", inPlace := ["internal/bytealg.IndexByteString", "internal/bytealg.IndexString", "internal/bytealg.abigen_runtime_cmpstring", "slices.overlaps[intaglio/term.Term]"], unfollowed := true, recurses := true, named := ["unicode/utf8.first", "unicode/utf8.acceptRanges", "internal/bytealg.MaxLen"], loops := true, apart := false, laid := [("unicode/utf8.acceptRanges", laid_unicode_utf8_acceptRanges), ("unicode/utf8.first", laid_unicode_utf8_first)] }
def KnowsFreshSaid : Prop := knowsFreshRow.holds Tryd.pinned (OpenSpec.ofChange knowsFreshSpec)

/-- ITS FALSE NEIGHBOUR: 'it returns false'. Refute it at one input. -/
def knowsFreshWrong : ChangeSpec := { name := "knowsFresh", fn := fun _ => fun
  | [d] => { results := [.lit (.bool false)], args := [d] }
  | _ => none }
def KnowsFreshWrongFalsely : Prop := knowsFreshRow.holds Tryd.pinned (OpenSpec.ofChange knowsFreshWrong)

/-- 'intagliolaw20.KnowsPairs': WHATEVER THE INPUT: true; the input reads as it did. -/
def knowsPairsSpec : ChangeSpec := { name := "knowsPairs", fn := fun _ => fun
  | [d1, d2, d3] => { results := [.lit (.bool true)], args := [d1, d2, d3] }
  | _ => none }
def knowsPairsRow : OpenClaim := { program := "ytlpkcbkflfbclaadoor", sum := "a47fa20ebd90538448743f631e79d09cae5a318cfb6167377ee1ecf5b3125699", func := "intaglio/intagliolaw20.KnowsPairs", spec := "knowsPairs", inPlace := ["internal/bytealg.IndexByteString", "internal/bytealg.IndexString", "internal/bytealg.abigen_runtime_cmpstring", "slices.overlaps[intaglio/term.Term]"], unfollowed := true, recurses := true, named := ["unicode/utf8.first", "unicode/utf8.acceptRanges", "internal/bytealg.MaxLen"], loops := true, apart := false, laid := [("unicode/utf8.acceptRanges", laid_unicode_utf8_acceptRanges), ("unicode/utf8.first", laid_unicode_utf8_first)] }
def KnowsPairsSaid : Prop := knowsPairsRow.holds Tryd.pinned (OpenSpec.ofChange knowsPairsSpec)

/-- ITS FALSE NEIGHBOUR: 'it returns false'. Refute it at one input. -/
def knowsPairsWrong : ChangeSpec := { name := "knowsPairs", fn := fun _ => fun
  | [d1, d2, d3] => { results := [.lit (.bool false)], args := [d1, d2, d3] }
  | _ => none }
def KnowsPairsWrongFalsely : Prop := knowsPairsRow.holds Tryd.pinned (OpenSpec.ofChange knowsPairsWrong)

/- THE SECOND FORM. 'bulk': how many values and letters a reading holds, each counted each time it is reached (what is shared counts as often as it is met; a slice's spare places count too). A statement '..UptoSaid' is the law's where the arguments, and the package variables that the reading takes, are together of bulk at most 1048576: NARROWER than '..Said'. Prove '..Said' where nothing that the law and all that it calls make is longer than what came in: it says more and counts as full. Else prove '..UptoSaid'. A law counts once. -/
mutual
def uptoBulk {H : Type} : DataW H → Nat
  | .lit (.string bytes) => bytes.length + 1
  | .lit _ => 1
  | .nil => 1
  | .ptr d => uptoBulk d + 1
  | .slice elems spare => uptoBulkAll elems + uptoBulkAll spare + 1
  | .agg parts => uptoBulkAll parts + 1
  | .iface _ d => uptoBulk d + 1
  | .map entries => uptoBulkEntries entries + 1
  | .held _ => 1
def uptoBulkAll {H : Type} : List (DataW H) → Nat
  | [] => 0
  | d :: r => uptoBulk d + uptoBulkAll r
def uptoBulkEntries {H : Type} : List (Lit × DataW H) → Nat
  | [] => 0
  | x :: r => uptoBulkEntry x + uptoBulkEntries r
def uptoBulkEntry {H : Type} : Lit × DataW H → Nat
  | (.string bytes, d) => bytes.length + uptoBulk d + 1
  | (_, d) => uptoBulk d + 1
 end
def uptoSmall : (H : Type) → List (DataW H) → Bool := fun _ ds => decide (uptoBulkAll ds ≤ 1048576)
def OpenSpec.upto (s : _root_.Go.ChangeSpec) : _root_.Go.OpenSpec := { _root_.Go.OpenSpec.ofChange s with cond := some uptoSmall }

/-- 'intagliotop.WholeThought', WHERE WHAT IT READS IS OF BULK AT MOST 1048576: true; the input reads as it did. -/
def wholeThoughtUptoRow : OpenClaim := { program := "ytlpkcbkflfbclaadoor", sum := "a47fa20ebd90538448743f631e79d09cae5a318cfb6167377ee1ecf5b3125699", func := "intaglio/intagliotop.WholeThought", spec := "wholeThought", inPlace := ["internal/bytealg.abigen_runtime_cmpstring", "internal/bytealg.IndexByteString", "internal/bytealg.IndexString", "slices.overlaps[intaglio/term.Term]"], unfollowed := true, recurses := true, named := ["unicode/utf8.first", "unicode/utf8.acceptRanges", "internal/bytealg.MaxLen"], loops := true, apart := false, laid := [("unicode/utf8.acceptRanges", laid_unicode_utf8_acceptRanges), ("unicode/utf8.first", laid_unicode_utf8_first)], narrowed := true }
def WholeThoughtUptoSaid : Prop := wholeThoughtUptoRow.holds Tryd.pinned (OpenSpec.upto wholeThoughtSpec)

/-- 'intagliolaw19.TermBack', WHERE WHAT IT READS IS OF BULK AT MOST 1048576: true; the input reads as it did. -/
def termBackUptoRow : OpenClaim := { program := "ytlpkcbkflfbclaadoor", sum := "a47fa20ebd90538448743f631e79d09cae5a318cfb6167377ee1ecf5b3125699", func := "intaglio/intagliolaw19.TermBack", spec := "termBack", inPlace := ["internal/bytealg.IndexByteString", "internal/bytealg.IndexString", "internal/bytealg.abigen_runtime_cmpstring", "internal/abi.NoEscape"], unfollowed := true, recurses := true, named := ["unicode/utf8.first", "unicode/utf8.acceptRanges", "internal/bytealg.MaxLen"], loops := true, apart := false, laid := [("unicode/utf8.acceptRanges", laid_unicode_utf8_acceptRanges), ("unicode/utf8.first", laid_unicode_utf8_first)], narrowed := true }
def TermBackUptoSaid : Prop := termBackUptoRow.holds Tryd.pinned (OpenSpec.upto termBackSpec)

/-- 'intagliolaw20.KnowsRefuses', WHERE WHAT IT READS IS OF BULK AT MOST 1048576: true; the input reads as it did. -/
def knowsRefusesUptoRow : OpenClaim := { program := "ytlpkcbkflfbclaadoor", sum := "a47fa20ebd90538448743f631e79d09cae5a318cfb6167377ee1ecf5b3125699", func := "intaglio/intagliolaw20.KnowsRefuses", spec := "knowsRefuses", inPlace := ["internal/bytealg.IndexByteString", "internal/bytealg.IndexString", "internal/bytealg.abigen_runtime_cmpstring", "slices.overlaps[intaglio/term.Term]"], unfollowed := true, recurses := true, named := ["unicode/utf8.first", "unicode/utf8.acceptRanges", "internal/bytealg.MaxLen"], loops := true, apart := false, laid := [("unicode/utf8.acceptRanges", laid_unicode_utf8_acceptRanges), ("unicode/utf8.first", laid_unicode_utf8_first)], narrowed := true }
def KnowsRefusesUptoSaid : Prop := knowsRefusesUptoRow.holds Tryd.pinned (OpenSpec.upto knowsRefusesSpec)

/-- 'intagliolaw20.KnowsMakes', WHERE WHAT IT READS IS OF BULK AT MOST 1048576: true; the input reads as it did. -/
def knowsMakesUptoRow : OpenClaim := { program := "ytlpkcbkflfbclaadoor", sum := "a47fa20ebd90538448743f631e79d09cae5a318cfb6167377ee1ecf5b3125699", func := "intaglio/intagliolaw20.KnowsMakes", spec := "knowsMakes", inPlace := ["internal/bytealg.IndexByteString", "internal/bytealg.IndexString", "internal/bytealg.abigen_runtime_cmpstring", "slices.overlaps[intaglio/term.Term]"], unfollowed := true, recurses := true, named := ["unicode/utf8.first", "unicode/utf8.acceptRanges", "internal/bytealg.MaxLen"], loops := true, apart := false, laid := [("unicode/utf8.acceptRanges", laid_unicode_utf8_acceptRanges), ("unicode/utf8.first", laid_unicode_utf8_first)], narrowed := true }
def KnowsMakesUptoSaid : Prop := knowsMakesUptoRow.holds Tryd.pinned (OpenSpec.upto knowsMakesSpec)

/-- 'intagliolaw20.KnowsGrows', WHERE WHAT IT READS IS OF BULK AT MOST 1048576: true; the input reads as it did. -/
def knowsGrowsUptoRow : OpenClaim := { program := "ytlpkcbkflfbclaadoor", sum := "a47fa20ebd90538448743f631e79d09cae5a318cfb6167377ee1ecf5b3125699", func := "intaglio/intagliolaw20.KnowsGrows", spec := "knowsGrows", inPlace := ["internal/bytealg.IndexByteString", "internal/bytealg.IndexString", "internal/bytealg.abigen_runtime_cmpstring", "slices.overlaps[intaglio/term.Term]"], unfollowed := true, recurses := true, named := ["unicode/utf8.first", "unicode/utf8.acceptRanges", "internal/bytealg.MaxLen"], loops := true, apart := false, laid := [("unicode/utf8.acceptRanges", laid_unicode_utf8_acceptRanges), ("unicode/utf8.first", laid_unicode_utf8_first)], narrowed := true }
def KnowsGrowsUptoSaid : Prop := knowsGrowsUptoRow.holds Tryd.pinned (OpenSpec.upto knowsGrowsSpec)

/-- 'intagliolaw20.KnowsOpens', WHERE WHAT IT READS IS OF BULK AT MOST 1048576: true; the input reads as it did. -/
def knowsOpensUptoRow : OpenClaim := { program := "ytlpkcbkflfbclaadoor", sum := "a47fa20ebd90538448743f631e79d09cae5a318cfb6167377ee1ecf5b3125699", func := "intaglio/intagliolaw20.KnowsOpens", spec := "knowsOpens", inPlace := ["internal/bytealg.IndexByteString", "internal/bytealg.IndexString", "internal/bytealg.abigen_runtime_cmpstring", "slices.overlaps[intaglio/term.Term]"], unfollowed := true, recurses := true, named := ["unicode/utf8.first", "unicode/utf8.acceptRanges", "internal/bytealg.MaxLen"], loops := true, apart := false, laid := [("unicode/utf8.acceptRanges", laid_unicode_utf8_acceptRanges), ("unicode/utf8.first", laid_unicode_utf8_first)], narrowed := true }
def KnowsOpensUptoSaid : Prop := knowsOpensUptoRow.holds Tryd.pinned (OpenSpec.upto knowsOpensSpec)

/-- 'intagliolaw20.KnowsFresh', WHERE WHAT IT READS IS OF BULK AT MOST 1048576: true; the input reads as it did. -/
def knowsFreshUptoRow : OpenClaim := { program := "ytlpkcbkflfbclaadoor", sum := "a47fa20ebd90538448743f631e79d09cae5a318cfb6167377ee1ecf5b3125699", func := "intaglio/intagliolaw20.KnowsFresh", spec := "knowsFresh", inPlace := ["internal/bytealg.IndexByteString", "internal/bytealg.IndexString", "internal/bytealg.abigen_runtime_cmpstring", "slices.overlaps[intaglio/term.Term]"], unfollowed := true, recurses := true, named := ["unicode/utf8.first", "unicode/utf8.acceptRanges", "internal/bytealg.MaxLen"], loops := true, apart := false, laid := [("unicode/utf8.acceptRanges", laid_unicode_utf8_acceptRanges), ("unicode/utf8.first", laid_unicode_utf8_first)], narrowed := true }
def KnowsFreshUptoSaid : Prop := knowsFreshUptoRow.holds Tryd.pinned (OpenSpec.upto knowsFreshSpec)

/-- 'intagliolaw20.KnowsPairs', WHERE WHAT IT READS IS OF BULK AT MOST 1048576: true; the input reads as it did. -/
def knowsPairsUptoRow : OpenClaim := { program := "ytlpkcbkflfbclaadoor", sum := "a47fa20ebd90538448743f631e79d09cae5a318cfb6167377ee1ecf5b3125699", func := "intaglio/intagliolaw20.KnowsPairs", spec := "knowsPairs", inPlace := ["internal/bytealg.IndexByteString", "internal/bytealg.IndexString", "internal/bytealg.abigen_runtime_cmpstring", "slices.overlaps[intaglio/term.Term]"], unfollowed := true, recurses := true, named := ["unicode/utf8.first", "unicode/utf8.acceptRanges", "internal/bytealg.MaxLen"], loops := true, apart := false, laid := [("unicode/utf8.acceptRanges", laid_unicode_utf8_acceptRanges), ("unicode/utf8.first", laid_unicode_utf8_first)], narrowed := true }
def KnowsPairsUptoSaid : Prop := knowsPairsUptoRow.holds Tryd.pinned (OpenSpec.upto knowsPairsSpec)

end Rows
end Go.Proofs.YtlpkcbkflfbclaaDoor
