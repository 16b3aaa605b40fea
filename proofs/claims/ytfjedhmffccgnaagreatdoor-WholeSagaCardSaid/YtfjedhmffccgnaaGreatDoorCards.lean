/-
  DERIVED. GIVEN WITH THE SEED: THE CARDS: each row of YtfjedhmffccgnaaGreatDoorRows.lean that lists a variable, with what it lists TIED to the program's text (the seventh form; the later family's looks); each row that meets fmt, with fmt's text TOLD by the authors' own Lean function (tested against real Go, not proved from fmt's source: count such statements apart). THE CARD IS WHAT COUNTS. Prove the row's statement (the work); the ties are given (YtfjedhmffccgnaaGreatDoorTie.lean); close each card by the builder's one call (the guide's Derived/Test/ToyasCard.lean, 'card_holds'). Laid BY PROGRAM, IN A SANDBOX (cutbox-door.mjs). By AI agents, Wed Nov 11 2026. No macro, syntax, notation, axiom, sorry.
-/
import Derived.Test.YtfjedhmffccgnaaGreatDoorRows
import GoSem.ClaimSeven
namespace Go.Proofs.YtfjedhmffccgnaaGreatDoor
namespace Rows

/-- THE TIED CARD OF 'intagliotop.WholeSaga'. -/
def wholeSagaCard : Claim7 := { stood := { row := wholeSagaRow, standIns := [], harness := (true, "ee83191c8898a6de148d61ef155e016d31cf1d8d4ed6c3f0b2a8ae93193bca2d"), looks := false }, kinds := [], alts := [], laidByText := true, laidKinds := [.data, .data, .data], laidTests := true, laidLooks := .later }
def WholeSagaCardSaid : Prop := Claim7.holds Tryz.pinned (.plain (OpenSpec.ofChange wholeSagaSpec)) wholeSagaCard

/-- THE SECOND FORM's CARD OF 'intagliotop.WholeSaga'. -/
def wholeSagaUptoCard : Claim7 := { stood := { row := wholeSagaUptoRow, standIns := [], harness := (true, "ee83191c8898a6de148d61ef155e016d31cf1d8d4ed6c3f0b2a8ae93193bca2d"), looks := false }, kinds := [], alts := [], laidByText := true, laidKinds := [.data, .data, .data], laidTests := true, laidLooks := .later }
def WholeSagaUptoCardSaid : Prop := Claim7.holds Tryz.pinned (.plain (OpenSpec.upto wholeSagaSpec)) wholeSagaUptoCard
end Rows
end Go.Proofs.YtfjedhmffccgnaaGreatDoor
