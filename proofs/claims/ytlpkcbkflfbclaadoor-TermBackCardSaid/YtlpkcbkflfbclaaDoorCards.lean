/-
  DERIVED. GIVEN WITH THE SEED: THE CARDS: each row of YtlpkcbkflfbclaaDoorRows.lean that lists a variable, with what it lists TIED to the program's text (the seventh form; the later family's looks); each row that meets fmt, with fmt's text TOLD by the authors' own Lean function (tested against real Go, not proved from fmt's source: count such statements apart). THE CARD IS WHAT COUNTS. Prove the row's statement (the work); the ties are given (YtlpkcbkflfbclaaDoorTie.lean); close each card by the builder's one call (the guide's Derived/Test/ToyasCard.lean, 'card_holds'). Laid BY PROGRAM, IN A SANDBOX (cutbox-door.mjs). By AI agents, Wed Nov 11 2026. No macro, syntax, notation, axiom, sorry.
-/
import Derived.Test.YtlpkcbkflfbclaaDoorRows
import GoSem.ClaimSeven
namespace Go.Proofs.YtlpkcbkflfbclaaDoor
namespace Rows

/-- THE TIED CARD OF 'intagliotop.WholeThought'. -/
def wholeThoughtCard : Claim7 := { stood := { row := wholeThoughtRow, standIns := [], harness := (true, "20cee6cdc7d3b30b289d6ec9ef5a185ce3f9f2fc98e9b4674aa9ddc0679bdb40"), looks := true }, kinds := [], alts := [], laidByText := true, laidKinds := [.data, .pinned], laidTests := true, laidLooks := .later }
def WholeThoughtCardSaid : Prop := Claim7.holds Tryd.pinned (.plain (OpenSpec.ofChange wholeThoughtSpec)) wholeThoughtCard

/-- THE TIED CARD OF 'intagliolaw19.TermBack'. -/
def termBackCard : Claim7 := { stood := { row := termBackRow, standIns := [], harness := (true, "20cee6cdc7d3b30b289d6ec9ef5a185ce3f9f2fc98e9b4674aa9ddc0679bdb40"), looks := true }, kinds := [], alts := [], laidByText := true, laidKinds := [.data, .pinned], laidTests := true, laidLooks := .later }
def TermBackCardSaid : Prop := Claim7.holds Tryd.pinned (.plain (OpenSpec.ofChange termBackSpec)) termBackCard

/-- THE TIED CARD OF 'intagliolaw20.KnowsRefuses'. -/
def knowsRefusesCard : Claim7 := { stood := { row := knowsRefusesRow, standIns := [], harness := (true, "20cee6cdc7d3b30b289d6ec9ef5a185ce3f9f2fc98e9b4674aa9ddc0679bdb40"), looks := true }, kinds := [], alts := [], laidByText := true, laidKinds := [.data, .pinned], laidTests := true, laidLooks := .later }
def KnowsRefusesCardSaid : Prop := Claim7.holds Tryd.pinned (.plain (OpenSpec.ofChange knowsRefusesSpec)) knowsRefusesCard

/-- THE TIED CARD OF 'intagliolaw20.KnowsMakes'. -/
def knowsMakesCard : Claim7 := { stood := { row := knowsMakesRow, standIns := [], harness := (true, "20cee6cdc7d3b30b289d6ec9ef5a185ce3f9f2fc98e9b4674aa9ddc0679bdb40"), looks := true }, kinds := [], alts := [], laidByText := true, laidKinds := [.data, .pinned], laidTests := true, laidLooks := .later }
def KnowsMakesCardSaid : Prop := Claim7.holds Tryd.pinned (.plain (OpenSpec.ofChange knowsMakesSpec)) knowsMakesCard

/-- THE TIED CARD OF 'intagliolaw20.KnowsGrows'. -/
def knowsGrowsCard : Claim7 := { stood := { row := knowsGrowsRow, standIns := [], harness := (true, "20cee6cdc7d3b30b289d6ec9ef5a185ce3f9f2fc98e9b4674aa9ddc0679bdb40"), looks := true }, kinds := [], alts := [], laidByText := true, laidKinds := [.data, .pinned], laidTests := true, laidLooks := .later }
def KnowsGrowsCardSaid : Prop := Claim7.holds Tryd.pinned (.plain (OpenSpec.ofChange knowsGrowsSpec)) knowsGrowsCard

/-- THE TIED CARD OF 'intagliolaw20.KnowsOpens'. -/
def knowsOpensCard : Claim7 := { stood := { row := knowsOpensRow, standIns := [], harness := (true, "20cee6cdc7d3b30b289d6ec9ef5a185ce3f9f2fc98e9b4674aa9ddc0679bdb40"), looks := true }, kinds := [], alts := [], laidByText := true, laidKinds := [.data, .pinned], laidTests := true, laidLooks := .later }
def KnowsOpensCardSaid : Prop := Claim7.holds Tryd.pinned (.plain (OpenSpec.ofChange knowsOpensSpec)) knowsOpensCard

/-- THE TIED CARD OF 'intagliolaw20.KnowsFresh'. -/
def knowsFreshCard : Claim7 := { stood := { row := knowsFreshRow, standIns := [], harness := (true, "20cee6cdc7d3b30b289d6ec9ef5a185ce3f9f2fc98e9b4674aa9ddc0679bdb40"), looks := true }, kinds := [], alts := [], laidByText := true, laidKinds := [.data, .pinned], laidTests := true, laidLooks := .later }
def KnowsFreshCardSaid : Prop := Claim7.holds Tryd.pinned (.plain (OpenSpec.ofChange knowsFreshSpec)) knowsFreshCard

/-- THE TIED CARD OF 'intagliolaw20.KnowsPairs'. -/
def knowsPairsCard : Claim7 := { stood := { row := knowsPairsRow, standIns := [], harness := (true, "20cee6cdc7d3b30b289d6ec9ef5a185ce3f9f2fc98e9b4674aa9ddc0679bdb40"), looks := true }, kinds := [], alts := [], laidByText := true, laidKinds := [.data, .pinned], laidTests := true, laidLooks := .later }
def KnowsPairsCardSaid : Prop := Claim7.holds Tryd.pinned (.plain (OpenSpec.ofChange knowsPairsSpec)) knowsPairsCard

/-- THE SECOND FORM's CARD OF 'intagliotop.WholeThought'. -/
def wholeThoughtUptoCard : Claim7 := { stood := { row := wholeThoughtUptoRow, standIns := [], harness := (true, "20cee6cdc7d3b30b289d6ec9ef5a185ce3f9f2fc98e9b4674aa9ddc0679bdb40"), looks := true }, kinds := [], alts := [], laidByText := true, laidKinds := [.data, .pinned], laidTests := true, laidLooks := .later }
def WholeThoughtUptoCardSaid : Prop := Claim7.holds Tryd.pinned (.plain (OpenSpec.upto wholeThoughtSpec)) wholeThoughtUptoCard

/-- THE SECOND FORM's CARD OF 'intagliolaw19.TermBack'. -/
def termBackUptoCard : Claim7 := { stood := { row := termBackUptoRow, standIns := [], harness := (true, "20cee6cdc7d3b30b289d6ec9ef5a185ce3f9f2fc98e9b4674aa9ddc0679bdb40"), looks := true }, kinds := [], alts := [], laidByText := true, laidKinds := [.data, .pinned], laidTests := true, laidLooks := .later }
def TermBackUptoCardSaid : Prop := Claim7.holds Tryd.pinned (.plain (OpenSpec.upto termBackSpec)) termBackUptoCard

/-- THE SECOND FORM's CARD OF 'intagliolaw20.KnowsRefuses'. -/
def knowsRefusesUptoCard : Claim7 := { stood := { row := knowsRefusesUptoRow, standIns := [], harness := (true, "20cee6cdc7d3b30b289d6ec9ef5a185ce3f9f2fc98e9b4674aa9ddc0679bdb40"), looks := true }, kinds := [], alts := [], laidByText := true, laidKinds := [.data, .pinned], laidTests := true, laidLooks := .later }
def KnowsRefusesUptoCardSaid : Prop := Claim7.holds Tryd.pinned (.plain (OpenSpec.upto knowsRefusesSpec)) knowsRefusesUptoCard

/-- THE SECOND FORM's CARD OF 'intagliolaw20.KnowsMakes'. -/
def knowsMakesUptoCard : Claim7 := { stood := { row := knowsMakesUptoRow, standIns := [], harness := (true, "20cee6cdc7d3b30b289d6ec9ef5a185ce3f9f2fc98e9b4674aa9ddc0679bdb40"), looks := true }, kinds := [], alts := [], laidByText := true, laidKinds := [.data, .pinned], laidTests := true, laidLooks := .later }
def KnowsMakesUptoCardSaid : Prop := Claim7.holds Tryd.pinned (.plain (OpenSpec.upto knowsMakesSpec)) knowsMakesUptoCard

/-- THE SECOND FORM's CARD OF 'intagliolaw20.KnowsGrows'. -/
def knowsGrowsUptoCard : Claim7 := { stood := { row := knowsGrowsUptoRow, standIns := [], harness := (true, "20cee6cdc7d3b30b289d6ec9ef5a185ce3f9f2fc98e9b4674aa9ddc0679bdb40"), looks := true }, kinds := [], alts := [], laidByText := true, laidKinds := [.data, .pinned], laidTests := true, laidLooks := .later }
def KnowsGrowsUptoCardSaid : Prop := Claim7.holds Tryd.pinned (.plain (OpenSpec.upto knowsGrowsSpec)) knowsGrowsUptoCard

/-- THE SECOND FORM's CARD OF 'intagliolaw20.KnowsOpens'. -/
def knowsOpensUptoCard : Claim7 := { stood := { row := knowsOpensUptoRow, standIns := [], harness := (true, "20cee6cdc7d3b30b289d6ec9ef5a185ce3f9f2fc98e9b4674aa9ddc0679bdb40"), looks := true }, kinds := [], alts := [], laidByText := true, laidKinds := [.data, .pinned], laidTests := true, laidLooks := .later }
def KnowsOpensUptoCardSaid : Prop := Claim7.holds Tryd.pinned (.plain (OpenSpec.upto knowsOpensSpec)) knowsOpensUptoCard

/-- THE SECOND FORM's CARD OF 'intagliolaw20.KnowsFresh'. -/
def knowsFreshUptoCard : Claim7 := { stood := { row := knowsFreshUptoRow, standIns := [], harness := (true, "20cee6cdc7d3b30b289d6ec9ef5a185ce3f9f2fc98e9b4674aa9ddc0679bdb40"), looks := true }, kinds := [], alts := [], laidByText := true, laidKinds := [.data, .pinned], laidTests := true, laidLooks := .later }
def KnowsFreshUptoCardSaid : Prop := Claim7.holds Tryd.pinned (.plain (OpenSpec.upto knowsFreshSpec)) knowsFreshUptoCard

/-- THE SECOND FORM's CARD OF 'intagliolaw20.KnowsPairs'. -/
def knowsPairsUptoCard : Claim7 := { stood := { row := knowsPairsUptoRow, standIns := [], harness := (true, "20cee6cdc7d3b30b289d6ec9ef5a185ce3f9f2fc98e9b4674aa9ddc0679bdb40"), looks := true }, kinds := [], alts := [], laidByText := true, laidKinds := [.data, .pinned], laidTests := true, laidLooks := .later }
def KnowsPairsUptoCardSaid : Prop := Claim7.holds Tryd.pinned (.plain (OpenSpec.upto knowsPairsSpec)) knowsPairsUptoCard
end Rows
end Go.Proofs.YtlpkcbkflfbclaaDoor
