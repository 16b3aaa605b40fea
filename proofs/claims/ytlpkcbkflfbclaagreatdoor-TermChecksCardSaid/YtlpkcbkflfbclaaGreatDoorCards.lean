/-
  DERIVED. GIVEN WITH THE SEED: THE CARDS: each row of YtlpkcbkflfbclaaGreatDoorRows.lean that lists a variable, with what it lists TIED to the program's text (the seventh form; the later family's looks); each row that meets fmt, with fmt's text TOLD by the authors' own Lean function (tested against real Go, not proved from fmt's source: count such statements apart). THE CARD IS WHAT COUNTS. Prove the row's statement (the work); the ties are given (YtlpkcbkflfbclaaGreatDoorTie.lean); close each card by the builder's one call (the guide's Derived/Test/ToyasCard.lean, 'card_holds'). Laid BY PROGRAM, IN A SANDBOX (cutbox-door.mjs). By AI agents, Wed Nov 11 2026. No macro, syntax, notation, axiom, sorry.
-/
import Derived.Test.YtlpkcbkflfbclaaGreatDoorRows
import GoSem.ClaimSeven
namespace Go.Proofs.YtlpkcbkflfbclaaGreatDoor
namespace Rows

/-- THE TIED CARD OF 'intagliolaw19.TermChecks'. -/
def termChecksCard : Claim7 := { stood := { row := termChecksRow, standIns := [], harness := (true, "4dfa971aacbacd17dcba89886eab5b4184c474d97eb10c6abdfdee3901554634"), looks := true }, kinds := [], alts := [], laidByText := true, laidKinds := [.data, .pinned], laidTests := true, laidLooks := .later }
def TermChecksCardSaid : Prop := Claim7.holds Tryz.pinned (.plain (OpenSpec.ofChange termChecksSpec)) termChecksCard

/-- THE TIED CARD OF 'intagliolaw23.SagaRuns'. -/
def sagaRunsCard : Claim7 := { stood := { row := sagaRunsRow, standIns := [], harness := (true, "4dfa971aacbacd17dcba89886eab5b4184c474d97eb10c6abdfdee3901554634"), looks := true }, kinds := [], alts := [], laidByText := true, laidKinds := [.data, .data, .data, .data, .pinned], laidTests := true, laidLooks := .later }
def SagaRunsCardSaid : Prop := Claim7.holds Tryz.pinned (.plain (OpenSpec.ofChange sagaRunsSpec)) sagaRunsCard

/-- THE TIED CARD OF 'intagliolaw23.SagaSecret'. -/
def sagaSecretCard : Claim7 := { stood := { row := sagaSecretRow, standIns := [], harness := (true, "4dfa971aacbacd17dcba89886eab5b4184c474d97eb10c6abdfdee3901554634"), looks := true }, kinds := [], alts := [], laidByText := true, laidKinds := [.data, .data, .data, .data, .pinned], laidTests := true, laidLooks := .later }
def SagaSecretCardSaid : Prop := Claim7.holds Tryz.pinned (.plain (OpenSpec.ofChange sagaSecretSpec)) sagaSecretCard

/-- THE TIED CARD OF 'intagliolaw23.SagaGone'. -/
def sagaGoneCard : Claim7 := { stood := { row := sagaGoneRow, standIns := [], harness := (true, "4dfa971aacbacd17dcba89886eab5b4184c474d97eb10c6abdfdee3901554634"), looks := true }, kinds := [], alts := [], laidByText := true, laidKinds := [.data, .data, .data, .data, .pinned], laidTests := true, laidLooks := .later }
def SagaGoneCardSaid : Prop := Claim7.holds Tryz.pinned (.plain (OpenSpec.ofChange sagaGoneSpec)) sagaGoneCard

/-- THE TIED CARD OF 'intagliolaw23.SagaMore'. -/
def sagaMoreCard : Claim7 := { stood := { row := sagaMoreRow, standIns := [], harness := (true, "4dfa971aacbacd17dcba89886eab5b4184c474d97eb10c6abdfdee3901554634"), looks := true }, kinds := [], alts := [], laidByText := true, laidKinds := [.data, .data, .data, .data, .pinned], laidTests := true, laidLooks := .later }
def SagaMoreCardSaid : Prop := Claim7.holds Tryz.pinned (.plain (OpenSpec.ofChange sagaMoreSpec)) sagaMoreCard

/-- THE TIED CARD OF 'intagliolaw23.SagaTells'. -/
def sagaTellsCard : Claim7 := { stood := { row := sagaTellsRow, standIns := [], harness := (true, "4dfa971aacbacd17dcba89886eab5b4184c474d97eb10c6abdfdee3901554634"), looks := true }, kinds := [], alts := [], laidByText := true, laidKinds := [.data, .data, .data, .data, .pinned], laidTests := true, laidLooks := .later }
def SagaTellsCardSaid : Prop := Claim7.holds Tryz.pinned (.plain (OpenSpec.ofChange sagaTellsSpec)) sagaTellsCard

/-- THE SECOND FORM's CARD OF 'intagliolaw19.TermChecks'. -/
def termChecksUptoCard : Claim7 := { stood := { row := termChecksUptoRow, standIns := [], harness := (true, "4dfa971aacbacd17dcba89886eab5b4184c474d97eb10c6abdfdee3901554634"), looks := true }, kinds := [], alts := [], laidByText := true, laidKinds := [.data, .pinned], laidTests := true, laidLooks := .later }
def TermChecksUptoCardSaid : Prop := Claim7.holds Tryz.pinned (.plain (OpenSpec.upto termChecksSpec)) termChecksUptoCard

/-- THE SECOND FORM's CARD OF 'intagliolaw23.SagaRuns'. -/
def sagaRunsUptoCard : Claim7 := { stood := { row := sagaRunsUptoRow, standIns := [], harness := (true, "4dfa971aacbacd17dcba89886eab5b4184c474d97eb10c6abdfdee3901554634"), looks := true }, kinds := [], alts := [], laidByText := true, laidKinds := [.data, .data, .data, .data, .pinned], laidTests := true, laidLooks := .later }
def SagaRunsUptoCardSaid : Prop := Claim7.holds Tryz.pinned (.plain (OpenSpec.upto sagaRunsSpec)) sagaRunsUptoCard

/-- THE SECOND FORM's CARD OF 'intagliolaw23.SagaSecret'. -/
def sagaSecretUptoCard : Claim7 := { stood := { row := sagaSecretUptoRow, standIns := [], harness := (true, "4dfa971aacbacd17dcba89886eab5b4184c474d97eb10c6abdfdee3901554634"), looks := true }, kinds := [], alts := [], laidByText := true, laidKinds := [.data, .data, .data, .data, .pinned], laidTests := true, laidLooks := .later }
def SagaSecretUptoCardSaid : Prop := Claim7.holds Tryz.pinned (.plain (OpenSpec.upto sagaSecretSpec)) sagaSecretUptoCard

/-- THE SECOND FORM's CARD OF 'intagliolaw23.SagaGone'. -/
def sagaGoneUptoCard : Claim7 := { stood := { row := sagaGoneUptoRow, standIns := [], harness := (true, "4dfa971aacbacd17dcba89886eab5b4184c474d97eb10c6abdfdee3901554634"), looks := true }, kinds := [], alts := [], laidByText := true, laidKinds := [.data, .data, .data, .data, .pinned], laidTests := true, laidLooks := .later }
def SagaGoneUptoCardSaid : Prop := Claim7.holds Tryz.pinned (.plain (OpenSpec.upto sagaGoneSpec)) sagaGoneUptoCard

/-- THE SECOND FORM's CARD OF 'intagliolaw23.SagaMore'. -/
def sagaMoreUptoCard : Claim7 := { stood := { row := sagaMoreUptoRow, standIns := [], harness := (true, "4dfa971aacbacd17dcba89886eab5b4184c474d97eb10c6abdfdee3901554634"), looks := true }, kinds := [], alts := [], laidByText := true, laidKinds := [.data, .data, .data, .data, .pinned], laidTests := true, laidLooks := .later }
def SagaMoreUptoCardSaid : Prop := Claim7.holds Tryz.pinned (.plain (OpenSpec.upto sagaMoreSpec)) sagaMoreUptoCard

/-- THE SECOND FORM's CARD OF 'intagliolaw23.SagaTells'. -/
def sagaTellsUptoCard : Claim7 := { stood := { row := sagaTellsUptoRow, standIns := [], harness := (true, "4dfa971aacbacd17dcba89886eab5b4184c474d97eb10c6abdfdee3901554634"), looks := true }, kinds := [], alts := [], laidByText := true, laidKinds := [.data, .data, .data, .data, .pinned], laidTests := true, laidLooks := .later }
def SagaTellsUptoCardSaid : Prop := Claim7.holds Tryz.pinned (.plain (OpenSpec.upto sagaTellsSpec)) sagaTellsUptoCard
end Rows
end Go.Proofs.YtlpkcbkflfbclaaGreatDoor
