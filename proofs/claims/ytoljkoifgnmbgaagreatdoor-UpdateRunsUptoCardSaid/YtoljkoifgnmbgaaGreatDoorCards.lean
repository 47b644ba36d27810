/-
  DERIVED. GIVEN WITH THE SEED: THE CARDS: each row of YtoljkoifgnmbgaaGreatDoorRows.lean that lists a variable, with what it lists TIED to the program's text (the seventh form; the later family's looks); each row that meets fmt, with fmt's text TOLD by the authors' own Lean function (tested against real Go, not proved from fmt's source: count such statements apart). THE CARD IS WHAT COUNTS. Prove the row's statement (the work); the ties are given (YtoljkoifgnmbgaaGreatDoorTie.lean); close each card by the builder's one call (the guide's Derived/Test/ToyasCard.lean, 'card_holds'). Laid BY PROGRAM, IN A SANDBOX (cutbox-door.mjs). By AI agents, Wed Nov 11 2026. No macro, syntax, notation, axiom, sorry.
-/
import Derived.Test.YtoljkoifgnmbgaaGreatDoorRows
import GoSem.ClaimSeven
namespace Go.Proofs.YtoljkoifgnmbgaaGreatDoor
namespace Rows

/-- THE TIED CARD OF 'censuslaw44.UpdateNews'. -/
def updateNewsCard : Claim7 := { stood := { row := updateNewsRow, standIns := [], harness := (true, "5d139c67bbfc809825f40a5fa431759d84c5b40256460622ee90403062862332"), looks := false }, kinds := [], alts := [], laidByText := true, laidKinds := [.data], laidTests := true, laidLooks := .later }
def UpdateNewsCardSaid : Prop := Claim7.holds Tryz.pinned (.plain (OpenSpec.ofChange updateNewsSpec)) updateNewsCard

/-- THE TIED CARD OF 'censuslaw44.UpdateRuns'. -/
def updateRunsCard : Claim7 := { stood := { row := updateRunsRow, standIns := [], harness := (true, "5d139c67bbfc809825f40a5fa431759d84c5b40256460622ee90403062862332"), looks := false }, kinds := [], alts := [], laidByText := true, laidKinds := [.data], laidTests := true, laidLooks := .later }
def UpdateRunsCardSaid : Prop := Claim7.holds Tryz.pinned (.plain (OpenSpec.ofChange updateRunsSpec)) updateRunsCard

/-- THE TIED CARD OF 'censuslaw44.UpdateNil'. -/
def updateNilCard : Claim7 := { stood := { row := updateNilRow, standIns := [], harness := (true, "5d139c67bbfc809825f40a5fa431759d84c5b40256460622ee90403062862332"), looks := false }, kinds := [], alts := [], laidByText := true, laidKinds := [.data], laidTests := true, laidLooks := .later }
def UpdateNilCardSaid : Prop := Claim7.holds Tryz.pinned (.plain (OpenSpec.ofChange updateNilSpec)) updateNilCard

/-- THE TIED CARD OF 'censuslaw44.UpdateKnown'. -/
def updateKnownCard : Claim7 := { stood := { row := updateKnownRow, standIns := [], harness := (true, "5d139c67bbfc809825f40a5fa431759d84c5b40256460622ee90403062862332"), looks := false }, kinds := [], alts := [], laidByText := true, laidKinds := [.data], laidTests := true, laidLooks := .later }
def UpdateKnownCardSaid : Prop := Claim7.holds Tryz.pinned (.plain (OpenSpec.ofChange updateKnownSpec)) updateKnownCard

/-- THE TIED CARD OF 'censuslaw44.UpdateTurned'. -/
def updateTurnedCard : Claim7 := { stood := { row := updateTurnedRow, standIns := [], harness := (true, "5d139c67bbfc809825f40a5fa431759d84c5b40256460622ee90403062862332"), looks := false }, kinds := [], alts := [], laidByText := true, laidKinds := [.data], laidTests := true, laidLooks := .later }
def UpdateTurnedCardSaid : Prop := Claim7.holds Tryz.pinned (.plain (OpenSpec.ofChange updateTurnedSpec)) updateTurnedCard

/-- THE TIED CARD OF 'censuslaw44.UpdateBack'. -/
def updateBackCard : Claim7 := { stood := { row := updateBackRow, standIns := [], harness := (true, "5d139c67bbfc809825f40a5fa431759d84c5b40256460622ee90403062862332"), looks := false }, kinds := [], alts := [], laidByText := true, laidKinds := [.data], laidTests := true, laidLooks := .later }
def UpdateBackCardSaid : Prop := Claim7.holds Tryz.pinned (.plain (OpenSpec.ofChange updateBackSpec)) updateBackCard

/-- THE TIED CARD OF 'censuslaw44.UpdateOwn'. -/
def updateOwnCard : Claim7 := { stood := { row := updateOwnRow, standIns := [], harness := (true, "5d139c67bbfc809825f40a5fa431759d84c5b40256460622ee90403062862332"), looks := false }, kinds := [], alts := [], laidByText := true, laidKinds := [.data], laidTests := true, laidLooks := .later }
def UpdateOwnCardSaid : Prop := Claim7.holds Tryz.pinned (.plain (OpenSpec.ofChange updateOwnSpec)) updateOwnCard

/-- THE TIED CARD OF 'censuslaw44.UpdateOne'. -/
def updateOneCard : Claim7 := { stood := { row := updateOneRow, standIns := [], harness := (true, "5d139c67bbfc809825f40a5fa431759d84c5b40256460622ee90403062862332"), looks := false }, kinds := [], alts := [], laidByText := true, laidKinds := [.data], laidTests := true, laidLooks := .later }
def UpdateOneCardSaid : Prop := Claim7.holds Tryz.pinned (.plain (OpenSpec.ofChange updateOneSpec)) updateOneCard

/-- THE TIED CARD OF 'censuslaw44.UpdateScratch'. -/
def updateScratchCard : Claim7 := { stood := { row := updateScratchRow, standIns := [], harness := (true, "5d139c67bbfc809825f40a5fa431759d84c5b40256460622ee90403062862332"), looks := false }, kinds := [], alts := [], laidByText := true, laidKinds := [.data], laidTests := true, laidLooks := .later }
def UpdateScratchCardSaid : Prop := Claim7.holds Tryz.pinned (.plain (OpenSpec.ofChange updateScratchSpec)) updateScratchCard

/-- THE SECOND FORM's CARD OF 'censuslaw44.UpdateNews'. -/
def updateNewsUptoCard : Claim7 := { stood := { row := updateNewsUptoRow, standIns := [], harness := (true, "5d139c67bbfc809825f40a5fa431759d84c5b40256460622ee90403062862332"), looks := false }, kinds := [], alts := [], laidByText := true, laidKinds := [.data], laidTests := true, laidLooks := .later }
def UpdateNewsUptoCardSaid : Prop := Claim7.holds Tryz.pinned (.plain (OpenSpec.upto updateNewsSpec)) updateNewsUptoCard

/-- THE SECOND FORM's CARD OF 'censuslaw44.UpdateRuns'. -/
def updateRunsUptoCard : Claim7 := { stood := { row := updateRunsUptoRow, standIns := [], harness := (true, "5d139c67bbfc809825f40a5fa431759d84c5b40256460622ee90403062862332"), looks := false }, kinds := [], alts := [], laidByText := true, laidKinds := [.data], laidTests := true, laidLooks := .later }
def UpdateRunsUptoCardSaid : Prop := Claim7.holds Tryz.pinned (.plain (OpenSpec.upto updateRunsSpec)) updateRunsUptoCard

/-- THE SECOND FORM's CARD OF 'censuslaw44.UpdateNil'. -/
def updateNilUptoCard : Claim7 := { stood := { row := updateNilUptoRow, standIns := [], harness := (true, "5d139c67bbfc809825f40a5fa431759d84c5b40256460622ee90403062862332"), looks := false }, kinds := [], alts := [], laidByText := true, laidKinds := [.data], laidTests := true, laidLooks := .later }
def UpdateNilUptoCardSaid : Prop := Claim7.holds Tryz.pinned (.plain (OpenSpec.upto updateNilSpec)) updateNilUptoCard

/-- THE SECOND FORM's CARD OF 'censuslaw44.UpdateKnown'. -/
def updateKnownUptoCard : Claim7 := { stood := { row := updateKnownUptoRow, standIns := [], harness := (true, "5d139c67bbfc809825f40a5fa431759d84c5b40256460622ee90403062862332"), looks := false }, kinds := [], alts := [], laidByText := true, laidKinds := [.data], laidTests := true, laidLooks := .later }
def UpdateKnownUptoCardSaid : Prop := Claim7.holds Tryz.pinned (.plain (OpenSpec.upto updateKnownSpec)) updateKnownUptoCard

/-- THE SECOND FORM's CARD OF 'censuslaw44.UpdateTurned'. -/
def updateTurnedUptoCard : Claim7 := { stood := { row := updateTurnedUptoRow, standIns := [], harness := (true, "5d139c67bbfc809825f40a5fa431759d84c5b40256460622ee90403062862332"), looks := false }, kinds := [], alts := [], laidByText := true, laidKinds := [.data], laidTests := true, laidLooks := .later }
def UpdateTurnedUptoCardSaid : Prop := Claim7.holds Tryz.pinned (.plain (OpenSpec.upto updateTurnedSpec)) updateTurnedUptoCard

/-- THE SECOND FORM's CARD OF 'censuslaw44.UpdateBack'. -/
def updateBackUptoCard : Claim7 := { stood := { row := updateBackUptoRow, standIns := [], harness := (true, "5d139c67bbfc809825f40a5fa431759d84c5b40256460622ee90403062862332"), looks := false }, kinds := [], alts := [], laidByText := true, laidKinds := [.data], laidTests := true, laidLooks := .later }
def UpdateBackUptoCardSaid : Prop := Claim7.holds Tryz.pinned (.plain (OpenSpec.upto updateBackSpec)) updateBackUptoCard

/-- THE SECOND FORM's CARD OF 'censuslaw44.UpdateOwn'. -/
def updateOwnUptoCard : Claim7 := { stood := { row := updateOwnUptoRow, standIns := [], harness := (true, "5d139c67bbfc809825f40a5fa431759d84c5b40256460622ee90403062862332"), looks := false }, kinds := [], alts := [], laidByText := true, laidKinds := [.data], laidTests := true, laidLooks := .later }
def UpdateOwnUptoCardSaid : Prop := Claim7.holds Tryz.pinned (.plain (OpenSpec.upto updateOwnSpec)) updateOwnUptoCard

/-- THE SECOND FORM's CARD OF 'censuslaw44.UpdateOne'. -/
def updateOneUptoCard : Claim7 := { stood := { row := updateOneUptoRow, standIns := [], harness := (true, "5d139c67bbfc809825f40a5fa431759d84c5b40256460622ee90403062862332"), looks := false }, kinds := [], alts := [], laidByText := true, laidKinds := [.data], laidTests := true, laidLooks := .later }
def UpdateOneUptoCardSaid : Prop := Claim7.holds Tryz.pinned (.plain (OpenSpec.upto updateOneSpec)) updateOneUptoCard

/-- THE SECOND FORM's CARD OF 'censuslaw44.UpdateScratch'. -/
def updateScratchUptoCard : Claim7 := { stood := { row := updateScratchUptoRow, standIns := [], harness := (true, "5d139c67bbfc809825f40a5fa431759d84c5b40256460622ee90403062862332"), looks := false }, kinds := [], alts := [], laidByText := true, laidKinds := [.data], laidTests := true, laidLooks := .later }
def UpdateScratchUptoCardSaid : Prop := Claim7.holds Tryz.pinned (.plain (OpenSpec.upto updateScratchSpec)) updateScratchUptoCard
end Rows
end Go.Proofs.YtoljkoifgnmbgaaGreatDoor
