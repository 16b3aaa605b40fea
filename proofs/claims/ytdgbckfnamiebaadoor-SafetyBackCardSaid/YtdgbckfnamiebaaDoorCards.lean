/-
  DERIVED. GIVEN WITH THE SEED: THE CARDS: each row of YtdgbckfnamiebaaDoorRows.lean that lists a variable, with what it lists TIED to the program's text (the seventh form; the later family's looks); each row that meets fmt, with fmt's text TOLD by the authors' own Lean function (tested against real Go, not proved from fmt's source: count such statements apart). THE CARD IS WHAT COUNTS. Prove the row's statement (the work); the ties are given (YtdgbckfnamiebaaDoorTie.lean); close each card by the builder's one call (the guide's Derived/Test/ToyasCard.lean, 'card_holds'). Laid BY PROGRAM, IN A SANDBOX (cutbox-door.mjs). By AI agents, Wed Nov 11 2026. No macro, syntax, notation, axiom, sorry.
-/
import Derived.Test.YtdgbckfnamiebaaDoorRows
import GoSem.ClaimSeven
namespace Go.Proofs.YtdgbckfnamiebaaDoor
namespace Rows

/-- THE TIED CARD OF 'intagliolaw12.SafetyTexts'. -/
def safetyTextsCard : Claim7 := { stood := { row := safetyTextsRow, standIns := [], harness := (true, "f0e34a2911870adf5e3a0c7df16557968ade59072f52425a4d041a95e9a35dac"), looks := false }, kinds := [], alts := [], laidByText := true, laidKinds := [.data, .pinned], laidTests := true, laidLooks := .later }
def SafetyTextsCardSaid : Prop := Claim7.holds Tryd.pinned (.plain (OpenSpec.ofChange safetyTextsSpec)) safetyTextsCard

/-- THE TIED CARD OF 'intagliolaw12.SafetyBack'. -/
def safetyBackCard : Claim7 := { stood := { row := safetyBackRow, standIns := [], harness := (true, "f0e34a2911870adf5e3a0c7df16557968ade59072f52425a4d041a95e9a35dac"), looks := false }, kinds := [], alts := [], laidByText := true, laidKinds := [.data, .pinned], laidTests := true, laidLooks := .later }
def SafetyBackCardSaid : Prop := Claim7.holds Tryd.pinned (.plain (OpenSpec.ofChange safetyBackSpec)) safetyBackCard

/-- THE SECOND FORM's CARD OF 'intagliolaw12.SafetyTexts'. -/
def safetyTextsUptoCard : Claim7 := { stood := { row := safetyTextsUptoRow, standIns := [], harness := (true, "f0e34a2911870adf5e3a0c7df16557968ade59072f52425a4d041a95e9a35dac"), looks := false }, kinds := [], alts := [], laidByText := true, laidKinds := [.data, .pinned], laidTests := true, laidLooks := .later }
def SafetyTextsUptoCardSaid : Prop := Claim7.holds Tryd.pinned (.plain (OpenSpec.upto safetyTextsSpec)) safetyTextsUptoCard

/-- THE SECOND FORM's CARD OF 'intagliolaw12.SafetyBack'. -/
def safetyBackUptoCard : Claim7 := { stood := { row := safetyBackUptoRow, standIns := [], harness := (true, "f0e34a2911870adf5e3a0c7df16557968ade59072f52425a4d041a95e9a35dac"), looks := false }, kinds := [], alts := [], laidByText := true, laidKinds := [.data, .pinned], laidTests := true, laidLooks := .later }
def SafetyBackUptoCardSaid : Prop := Claim7.holds Tryd.pinned (.plain (OpenSpec.upto safetyBackSpec)) safetyBackUptoCard
end Rows
end Go.Proofs.YtdgbckfnamiebaaDoor
