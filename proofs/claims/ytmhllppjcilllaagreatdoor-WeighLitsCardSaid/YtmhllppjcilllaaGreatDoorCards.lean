/-
  DERIVED. GIVEN WITH THE SEED: THE CARDS: each row of YtmhllppjcilllaaGreatDoorRows.lean that lists a variable, with what it lists TIED to the program's text (the seventh form; the later family's looks); each row that meets fmt, with fmt's text TOLD by the authors' own Lean function (tested against real Go, not proved from fmt's source: count such statements apart). THE CARD IS WHAT COUNTS. Prove the row's statement (the work); the ties are given (YtmhllppjcilllaaGreatDoorTie.lean); close each card by the builder's one call (the guide's Derived/Test/ToyasCard.lean, 'card_holds'). Laid BY PROGRAM, IN A SANDBOX (cutbox-door.mjs). By AI agents, Wed Nov 11 2026. No macro, syntax, notation, axiom, sorry.
-/
import Derived.Test.YtmhllppjcilllaaGreatDoorRows
import GoSem.ClaimSeven
namespace Go.Proofs.YtmhllppjcilllaaGreatDoor
namespace Rows

/-- THE TIED CARD OF 'censuslaw33.WeighTotals'. -/
def weighTotalsCard : Claim7 := { stood := { row := weighTotalsRow, standIns := [], harness := (true, "3793ace384abd9793b5f40c6a537e08c888a1a53643db10a318135647e3d0a08"), looks := false }, kinds := [], alts := [], laidByText := true, laidKinds := [.data], laidTests := true, laidLooks := .later }
def WeighTotalsCardSaid : Prop := Claim7.holds Tryz.pinned (.plain (OpenSpec.ofChange weighTotalsSpec)) weighTotalsCard

/-- THE TIED CARD OF 'censuslaw33.WeighLits'. -/
def weighLitsCard : Claim7 := { stood := { row := weighLitsRow, standIns := [], harness := (true, "3793ace384abd9793b5f40c6a537e08c888a1a53643db10a318135647e3d0a08"), looks := false }, kinds := [], alts := [], laidByText := true, laidKinds := [.data], laidTests := true, laidLooks := .later }
def WeighLitsCardSaid : Prop := Claim7.holds Tryz.pinned (.plain (OpenSpec.ofChange weighLitsSpec)) weighLitsCard

/-- THE TIED CARD OF 'censuslaw33.WeighShares'. -/
def weighSharesCard : Claim7 := { stood := { row := weighSharesRow, standIns := [], harness := (true, "3793ace384abd9793b5f40c6a537e08c888a1a53643db10a318135647e3d0a08"), looks := false }, kinds := [], alts := [], laidByText := true, laidKinds := [.data], laidTests := true, laidLooks := .later }
def WeighSharesCardSaid : Prop := Claim7.holds Tryz.pinned (.plain (OpenSpec.ofChange weighSharesSpec)) weighSharesCard

/-- THE TIED CARD OF 'censuslaw33.WeighAdds'. -/
def weighAddsCard : Claim7 := { stood := { row := weighAddsRow, standIns := [], harness := (true, "3793ace384abd9793b5f40c6a537e08c888a1a53643db10a318135647e3d0a08"), looks := false }, kinds := [], alts := [], laidByText := true, laidKinds := [.data], laidTests := true, laidLooks := .later }
def WeighAddsCardSaid : Prop := Claim7.holds Tryz.pinned (.plain (OpenSpec.ofChange weighAddsSpec)) weighAddsCard

/-- THE TIED CARD OF 'censuslaw33.WeighFactors'. -/
def weighFactorsCard : Claim7 := { stood := { row := weighFactorsRow, standIns := [], harness := (true, "3793ace384abd9793b5f40c6a537e08c888a1a53643db10a318135647e3d0a08"), looks := false }, kinds := [], alts := [], laidByText := true, laidKinds := [.data], laidTests := true, laidLooks := .later }
def WeighFactorsCardSaid : Prop := Claim7.holds Tryz.pinned (.plain (OpenSpec.ofChange weighFactorsSpec)) weighFactorsCard

/-- THE TIED CARD OF 'censuslaw33.WeighLimits'. -/
def weighLimitsCard : Claim7 := { stood := { row := weighLimitsRow, standIns := [], harness := (true, "3793ace384abd9793b5f40c6a537e08c888a1a53643db10a318135647e3d0a08"), looks := false }, kinds := [], alts := [], laidByText := true, laidKinds := [.data], laidTests := true, laidLooks := .later }
def WeighLimitsCardSaid : Prop := Claim7.holds Tryz.pinned (.plain (OpenSpec.ofChange weighLimitsSpec)) weighLimitsCard

/-- THE TIED CARD OF 'censuslaw33.WeighErrors'. -/
def weighErrorsCard : Claim7 := { stood := { row := weighErrorsRow, standIns := [], harness := (true, "3793ace384abd9793b5f40c6a537e08c888a1a53643db10a318135647e3d0a08"), looks := false }, kinds := [], alts := [], laidByText := true, laidKinds := [.data], laidTests := true, laidLooks := .later }
def WeighErrorsCardSaid : Prop := Claim7.holds Tryz.pinned (.plain (OpenSpec.ofChange weighErrorsSpec)) weighErrorsCard

/-- THE TIED CARD OF 'censuslaw33.WeighKnown'. -/
def weighKnownCard : Claim7 := { stood := { row := weighKnownRow, standIns := [], harness := (true, "3793ace384abd9793b5f40c6a537e08c888a1a53643db10a318135647e3d0a08"), looks := false }, kinds := [], alts := [], laidByText := true, laidKinds := [.data], laidTests := true, laidLooks := .later }
def WeighKnownCardSaid : Prop := Claim7.holds Tryz.pinned (.plain (OpenSpec.ofChange weighKnownSpec)) weighKnownCard

/-- THE TIED CARD OF 'censuslaw33.WeighCounts'. -/
def weighCountsCard : Claim7 := { stood := { row := weighCountsRow, standIns := [], harness := (true, "3793ace384abd9793b5f40c6a537e08c888a1a53643db10a318135647e3d0a08"), looks := false }, kinds := [], alts := [], laidByText := true, laidKinds := [.data], laidTests := true, laidLooks := .later }
def WeighCountsCardSaid : Prop := Claim7.holds Tryz.pinned (.plain (OpenSpec.ofChange weighCountsSpec)) weighCountsCard

/-- THE TIED CARD OF 'censuslaw33.WeighModels'. -/
def weighModelsCard : Claim7 := { stood := { row := weighModelsRow, standIns := [], harness := (true, "3793ace384abd9793b5f40c6a537e08c888a1a53643db10a318135647e3d0a08"), looks := false }, kinds := [], alts := [], laidByText := true, laidKinds := [.data, .data], laidTests := true, laidLooks := .later }
def WeighModelsCardSaid : Prop := Claim7.holds Tryz.pinned (.plain (OpenSpec.ofChange weighModelsSpec)) weighModelsCard

/-- THE TIED CARD OF 'censuslaw33.WeighParts'. -/
def weighPartsCard : Claim7 := { stood := { row := weighPartsRow, standIns := [], harness := (true, "3793ace384abd9793b5f40c6a537e08c888a1a53643db10a318135647e3d0a08"), looks := false }, kinds := [], alts := [], laidByText := true, laidKinds := [.data, .data], laidTests := true, laidLooks := .later }
def WeighPartsCardSaid : Prop := Claim7.holds Tryz.pinned (.plain (OpenSpec.ofChange weighPartsSpec)) weighPartsCard

/-- THE SECOND FORM's CARD OF 'censuslaw33.WeighTotals'. -/
def weighTotalsUptoCard : Claim7 := { stood := { row := weighTotalsUptoRow, standIns := [], harness := (true, "3793ace384abd9793b5f40c6a537e08c888a1a53643db10a318135647e3d0a08"), looks := false }, kinds := [], alts := [], laidByText := true, laidKinds := [.data], laidTests := true, laidLooks := .later }
def WeighTotalsUptoCardSaid : Prop := Claim7.holds Tryz.pinned (.plain (OpenSpec.upto weighTotalsSpec)) weighTotalsUptoCard

/-- THE SECOND FORM's CARD OF 'censuslaw33.WeighLits'. -/
def weighLitsUptoCard : Claim7 := { stood := { row := weighLitsUptoRow, standIns := [], harness := (true, "3793ace384abd9793b5f40c6a537e08c888a1a53643db10a318135647e3d0a08"), looks := false }, kinds := [], alts := [], laidByText := true, laidKinds := [.data], laidTests := true, laidLooks := .later }
def WeighLitsUptoCardSaid : Prop := Claim7.holds Tryz.pinned (.plain (OpenSpec.upto weighLitsSpec)) weighLitsUptoCard

/-- THE SECOND FORM's CARD OF 'censuslaw33.WeighShares'. -/
def weighSharesUptoCard : Claim7 := { stood := { row := weighSharesUptoRow, standIns := [], harness := (true, "3793ace384abd9793b5f40c6a537e08c888a1a53643db10a318135647e3d0a08"), looks := false }, kinds := [], alts := [], laidByText := true, laidKinds := [.data], laidTests := true, laidLooks := .later }
def WeighSharesUptoCardSaid : Prop := Claim7.holds Tryz.pinned (.plain (OpenSpec.upto weighSharesSpec)) weighSharesUptoCard

/-- THE SECOND FORM's CARD OF 'censuslaw33.WeighAdds'. -/
def weighAddsUptoCard : Claim7 := { stood := { row := weighAddsUptoRow, standIns := [], harness := (true, "3793ace384abd9793b5f40c6a537e08c888a1a53643db10a318135647e3d0a08"), looks := false }, kinds := [], alts := [], laidByText := true, laidKinds := [.data], laidTests := true, laidLooks := .later }
def WeighAddsUptoCardSaid : Prop := Claim7.holds Tryz.pinned (.plain (OpenSpec.upto weighAddsSpec)) weighAddsUptoCard

/-- THE SECOND FORM's CARD OF 'censuslaw33.WeighFactors'. -/
def weighFactorsUptoCard : Claim7 := { stood := { row := weighFactorsUptoRow, standIns := [], harness := (true, "3793ace384abd9793b5f40c6a537e08c888a1a53643db10a318135647e3d0a08"), looks := false }, kinds := [], alts := [], laidByText := true, laidKinds := [.data], laidTests := true, laidLooks := .later }
def WeighFactorsUptoCardSaid : Prop := Claim7.holds Tryz.pinned (.plain (OpenSpec.upto weighFactorsSpec)) weighFactorsUptoCard

/-- THE SECOND FORM's CARD OF 'censuslaw33.WeighLimits'. -/
def weighLimitsUptoCard : Claim7 := { stood := { row := weighLimitsUptoRow, standIns := [], harness := (true, "3793ace384abd9793b5f40c6a537e08c888a1a53643db10a318135647e3d0a08"), looks := false }, kinds := [], alts := [], laidByText := true, laidKinds := [.data], laidTests := true, laidLooks := .later }
def WeighLimitsUptoCardSaid : Prop := Claim7.holds Tryz.pinned (.plain (OpenSpec.upto weighLimitsSpec)) weighLimitsUptoCard

/-- THE SECOND FORM's CARD OF 'censuslaw33.WeighErrors'. -/
def weighErrorsUptoCard : Claim7 := { stood := { row := weighErrorsUptoRow, standIns := [], harness := (true, "3793ace384abd9793b5f40c6a537e08c888a1a53643db10a318135647e3d0a08"), looks := false }, kinds := [], alts := [], laidByText := true, laidKinds := [.data], laidTests := true, laidLooks := .later }
def WeighErrorsUptoCardSaid : Prop := Claim7.holds Tryz.pinned (.plain (OpenSpec.upto weighErrorsSpec)) weighErrorsUptoCard

/-- THE SECOND FORM's CARD OF 'censuslaw33.WeighKnown'. -/
def weighKnownUptoCard : Claim7 := { stood := { row := weighKnownUptoRow, standIns := [], harness := (true, "3793ace384abd9793b5f40c6a537e08c888a1a53643db10a318135647e3d0a08"), looks := false }, kinds := [], alts := [], laidByText := true, laidKinds := [.data], laidTests := true, laidLooks := .later }
def WeighKnownUptoCardSaid : Prop := Claim7.holds Tryz.pinned (.plain (OpenSpec.upto weighKnownSpec)) weighKnownUptoCard

/-- THE SECOND FORM's CARD OF 'censuslaw33.WeighCounts'. -/
def weighCountsUptoCard : Claim7 := { stood := { row := weighCountsUptoRow, standIns := [], harness := (true, "3793ace384abd9793b5f40c6a537e08c888a1a53643db10a318135647e3d0a08"), looks := false }, kinds := [], alts := [], laidByText := true, laidKinds := [.data], laidTests := true, laidLooks := .later }
def WeighCountsUptoCardSaid : Prop := Claim7.holds Tryz.pinned (.plain (OpenSpec.upto weighCountsSpec)) weighCountsUptoCard

/-- THE SECOND FORM's CARD OF 'censuslaw33.WeighModels'. -/
def weighModelsUptoCard : Claim7 := { stood := { row := weighModelsUptoRow, standIns := [], harness := (true, "3793ace384abd9793b5f40c6a537e08c888a1a53643db10a318135647e3d0a08"), looks := false }, kinds := [], alts := [], laidByText := true, laidKinds := [.data, .data], laidTests := true, laidLooks := .later }
def WeighModelsUptoCardSaid : Prop := Claim7.holds Tryz.pinned (.plain (OpenSpec.upto weighModelsSpec)) weighModelsUptoCard

/-- THE SECOND FORM's CARD OF 'censuslaw33.WeighParts'. -/
def weighPartsUptoCard : Claim7 := { stood := { row := weighPartsUptoRow, standIns := [], harness := (true, "3793ace384abd9793b5f40c6a537e08c888a1a53643db10a318135647e3d0a08"), looks := false }, kinds := [], alts := [], laidByText := true, laidKinds := [.data, .data], laidTests := true, laidLooks := .later }
def WeighPartsUptoCardSaid : Prop := Claim7.holds Tryz.pinned (.plain (OpenSpec.upto weighPartsSpec)) weighPartsUptoCard
end Rows
end Go.Proofs.YtmhllppjcilllaaGreatDoor
