/-
  No cell of these rows narrows 'for every input' (looked for: loops, veiled, ifaces, maps, wideKeys, modest, calm, conditions, laid).
  DERIVED. THE GIVEN ROWS OF THIS SEAT. 4 by the template 'for every input the law returns true; each argument reads behind the call as it read before'; 0 by the template 'total and deterministic' (their statements: YtdgbckfnamiebaaTotals.lean).
  GIVEN WITH THE SEED: the statements are not yours to turn. If you find one false, say at which input.
  Laid BY PROGRAM, IN A SANDBOX (cutbox-rows.mjs): the forced cells as the released guide's own fill.sh prints them over the translation 44da5d92a8f99149… (all of the seat's roots in one cut). By AI agents, Wed Nov 11 2026. No macro, syntax, notation, axiom, sorry.
-/
import Derived.Test.YtdgbckfnamiebaaChecked
import GoSem.Claim
import GoSem.ClaimJoined
import GoSem.ClaimMapViews
import Derived.JoinedTies
import Derived.KernelRfl
namespace Go.Proofs.Ytdgbckfnamiebaa
/- THE CELL 'sum', in the pinned program and in every row, IS THE sha256 OF THE DUMP (.gsa) THAT YtdgbckfnamiebaaProg.lean LOADS. Nothing in Lean hashes anything: it is a label: what it is worth is what the hold of that sum in a sandbox is worth. -/
noncomputable def Try.pinned : Pinned := { name := "ytdgbckfnamiebaa", sum := "44da5d92a8f99149c4a2b5eacf243de6e70ffd4198f0ca67f0d673a7a94dbff1", checked := Try.checked }
namespace Rows
def none {H : Type} : Left H := { results := [], args := [] }

/-- 'intagliolaw12.SafetySame': WHATEVER THE INPUT: true; the input reads as it did. -/
def safetySameSpec : ChangeSpec := { name := "safetySame", fn := fun _ => fun
  | [d1, d2] => { results := [.lit (.bool true)], args := [d1, d2] }
  | _ => none }
def safetySameRow : OpenClaim := { program := "ytdgbckfnamiebaa", sum := "44da5d92a8f99149c4a2b5eacf243de6e70ffd4198f0ca67f0d673a7a94dbff1", func := "intaglio/intagliolaw12.SafetySame", spec := "safetySame", inPlace := ["internal/abi.NoEscape"], apart := false }
def SafetySameSaid : Prop := safetySameRow.holds Try.pinned (OpenSpec.ofChange safetySameSpec)

/-- ITS FALSE NEIGHBOUR: 'it returns false'. Refute it at one input. -/
def safetySameWrong : ChangeSpec := { name := "safetySame", fn := fun _ => fun
  | [d1, d2] => { results := [.lit (.bool false)], args := [d1, d2] }
  | _ => none }
def SafetySameWrongFalsely : Prop := safetySameRow.holds Try.pinned (OpenSpec.ofChange safetySameWrong)

/-- 'intagliolaw12.SafetyGroups': WHATEVER THE INPUT: true; the input reads as it did. -/
def safetyGroupsSpec : ChangeSpec := { name := "safetyGroups", fn := fun _ => fun
  | [d1, d2] => { results := [.lit (.bool true)], args := [d1, d2] }
  | _ => none }
def safetyGroupsRow : OpenClaim := { program := "ytdgbckfnamiebaa", sum := "44da5d92a8f99149c4a2b5eacf243de6e70ffd4198f0ca67f0d673a7a94dbff1", func := "intaglio/intagliolaw12.SafetyGroups", spec := "safetyGroups", inPlace := ["internal/abi.NoEscape"], unfollowed := true, recurses := true, apart := false }
def SafetyGroupsSaid : Prop := safetyGroupsRow.holds Try.pinned (OpenSpec.ofChange safetyGroupsSpec)

/-- ITS FALSE NEIGHBOUR: 'it returns false'. Refute it at one input. -/
def safetyGroupsWrong : ChangeSpec := { name := "safetyGroups", fn := fun _ => fun
  | [d1, d2] => { results := [.lit (.bool false)], args := [d1, d2] }
  | _ => none }
def SafetyGroupsWrongFalsely : Prop := safetyGroupsRow.holds Try.pinned (OpenSpec.ofChange safetyGroupsWrong)

/-- 'intagliolaw12.SafetyNumbers': WHATEVER THE INPUT: true; the input reads as it did. -/
def safetyNumbersSpec : ChangeSpec := { name := "safetyNumbers", fn := fun _ => fun
  | [d1, d2] => { results := [.lit (.bool true)], args := [d1, d2] }
  | _ => none }
def safetyNumbersRow : OpenClaim := { program := "ytdgbckfnamiebaa", sum := "44da5d92a8f99149c4a2b5eacf243de6e70ffd4198f0ca67f0d673a7a94dbff1", func := "intaglio/intagliolaw12.SafetyNumbers", spec := "safetyNumbers", inPlace := ["internal/abi.NoEscape", "internal/bytealg.MakeNoZero"], recurses := true, apart := false }
def SafetyNumbersSaid : Prop := safetyNumbersRow.holds Try.pinned (OpenSpec.ofChange safetyNumbersSpec)

/-- ITS FALSE NEIGHBOUR: 'it returns false'. Refute it at one input. -/
def safetyNumbersWrong : ChangeSpec := { name := "safetyNumbers", fn := fun _ => fun
  | [d1, d2] => { results := [.lit (.bool false)], args := [d1, d2] }
  | _ => none }
def SafetyNumbersWrongFalsely : Prop := safetyNumbersRow.holds Try.pinned (OpenSpec.ofChange safetyNumbersWrong)

/-- 'intagliolaw12.SafetyLooks': WHATEVER THE INPUT: true; the input reads as it did. -/
def safetyLooksSpec : ChangeSpec := { name := "safetyLooks", fn := fun _ => fun
  | [d1, d2] => { results := [.lit (.bool true)], args := [d1, d2] }
  | _ => none }
def safetyLooksRow : OpenClaim := { program := "ytdgbckfnamiebaa", sum := "44da5d92a8f99149c4a2b5eacf243de6e70ffd4198f0ca67f0d673a7a94dbff1", func := "intaglio/intagliolaw12.SafetyLooks", spec := "safetyLooks", inPlace := ["internal/abi.NoEscape", "internal/bytealg.MakeNoZero"], unfollowed := true, recurses := true, apart := false }
def SafetyLooksSaid : Prop := safetyLooksRow.holds Try.pinned (OpenSpec.ofChange safetyLooksSpec)

/-- ITS FALSE NEIGHBOUR: 'it returns false'. Refute it at one input. -/
def safetyLooksWrong : ChangeSpec := { name := "safetyLooks", fn := fun _ => fun
  | [d1, d2] => { results := [.lit (.bool false)], args := [d1, d2] }
  | _ => none }
def SafetyLooksWrongFalsely : Prop := safetyLooksRow.holds Try.pinned (OpenSpec.ofChange safetyLooksWrong)

/- THE SECOND FORM. 'bulk': how many values and letters a reading holds, each counted each time it is reached (what is shared counts as often as it is met; a slice's spare places count too). A statement '..UptoSaid' is the law's where the arguments, and the package variables that the reading takes, are together of bulk at most 1048576: NARROWER than '..Said'. Prove '..Said' where nothing that the law and all that it calls make is longer than what came in: it says more and counts as full. Else prove '..UptoSaid'. A law counts once. -/
mutual
def uptoBulk {H : Type} : DataW H → Nat
  | .lit (.string bytes) => bytes.length + 1
  | .lit _ => 1
  | .nil => 1
  | .ptr d => uptoBulk d + 1
  | .slice elems spare => uptoBulkAll elems + uptoBulkAll spare + 1
  | .agg parts => uptoBulkAll parts + 1
  | .iface _ d => uptoBulk d + 1
  | .map entries => uptoBulkEntries entries + 1
  | .held _ => 1
def uptoBulkAll {H : Type} : List (DataW H) → Nat
  | [] => 0
  | d :: r => uptoBulk d + uptoBulkAll r
def uptoBulkEntries {H : Type} : List (Lit × DataW H) → Nat
  | [] => 0
  | x :: r => uptoBulkEntry x + uptoBulkEntries r
def uptoBulkEntry {H : Type} : Lit × DataW H → Nat
  | (.string bytes, d) => bytes.length + uptoBulk d + 1
  | (_, d) => uptoBulk d + 1
 end
def uptoSmall : (H : Type) → List (DataW H) → Bool := fun _ ds => decide (uptoBulkAll ds ≤ 1048576)
def OpenSpec.upto (s : _root_.Go.ChangeSpec) : _root_.Go.OpenSpec := { _root_.Go.OpenSpec.ofChange s with cond := some uptoSmall }

/-- 'intagliolaw12.SafetySame', WHERE WHAT IT READS IS OF BULK AT MOST 1048576: true; the input reads as it did. -/
def safetySameUptoRow : OpenClaim := { program := "ytdgbckfnamiebaa", sum := "44da5d92a8f99149c4a2b5eacf243de6e70ffd4198f0ca67f0d673a7a94dbff1", func := "intaglio/intagliolaw12.SafetySame", spec := "safetySame", inPlace := ["internal/abi.NoEscape"], apart := false, narrowed := true }
def SafetySameUptoSaid : Prop := safetySameUptoRow.holds Try.pinned (OpenSpec.upto safetySameSpec)

/-- 'intagliolaw12.SafetyGroups', WHERE WHAT IT READS IS OF BULK AT MOST 1048576: true; the input reads as it did. -/
def safetyGroupsUptoRow : OpenClaim := { program := "ytdgbckfnamiebaa", sum := "44da5d92a8f99149c4a2b5eacf243de6e70ffd4198f0ca67f0d673a7a94dbff1", func := "intaglio/intagliolaw12.SafetyGroups", spec := "safetyGroups", inPlace := ["internal/abi.NoEscape"], unfollowed := true, recurses := true, apart := false, narrowed := true }
def SafetyGroupsUptoSaid : Prop := safetyGroupsUptoRow.holds Try.pinned (OpenSpec.upto safetyGroupsSpec)

/-- 'intagliolaw12.SafetyNumbers', WHERE WHAT IT READS IS OF BULK AT MOST 1048576: true; the input reads as it did. -/
def safetyNumbersUptoRow : OpenClaim := { program := "ytdgbckfnamiebaa", sum := "44da5d92a8f99149c4a2b5eacf243de6e70ffd4198f0ca67f0d673a7a94dbff1", func := "intaglio/intagliolaw12.SafetyNumbers", spec := "safetyNumbers", inPlace := ["internal/abi.NoEscape", "internal/bytealg.MakeNoZero"], recurses := true, apart := false, narrowed := true }
def SafetyNumbersUptoSaid : Prop := safetyNumbersUptoRow.holds Try.pinned (OpenSpec.upto safetyNumbersSpec)

/-- 'intagliolaw12.SafetyLooks', WHERE WHAT IT READS IS OF BULK AT MOST 1048576: true; the input reads as it did. -/
def safetyLooksUptoRow : OpenClaim := { program := "ytdgbckfnamiebaa", sum := "44da5d92a8f99149c4a2b5eacf243de6e70ffd4198f0ca67f0d673a7a94dbff1", func := "intaglio/intagliolaw12.SafetyLooks", spec := "safetyLooks", inPlace := ["internal/abi.NoEscape", "internal/bytealg.MakeNoZero"], unfollowed := true, recurses := true, apart := false, narrowed := true }
def SafetyLooksUptoSaid : Prop := safetyLooksUptoRow.holds Try.pinned (OpenSpec.upto safetyLooksSpec)

end Rows
end Go.Proofs.Ytdgbckfnamiebaa
