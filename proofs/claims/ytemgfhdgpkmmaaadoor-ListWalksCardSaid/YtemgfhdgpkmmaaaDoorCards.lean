/-
  DERIVED. GIVEN WITH THE SEED: THE CARDS: each row of YtemgfhdgpkmmaaaDoorRows.lean that lists a variable, with what it lists TIED to the program's text (the seventh form; the later family's looks); each row that meets fmt, with fmt's text TOLD by the authors' own Lean function (tested against real Go, not proved from fmt's source: count such statements apart). THE CARD IS WHAT COUNTS. Prove the row's statement (the work); the ties are given (YtemgfhdgpkmmaaaDoorTie.lean); close each card by the builder's one call (the guide's Derived/Test/ToyasCard.lean, 'card_holds'). Laid BY PROGRAM, IN A SANDBOX (cutbox-door.mjs). By AI agents, Wed Nov 11 2026. No macro, syntax, notation, axiom, sorry.
-/
import Derived.Test.YtemgfhdgpkmmaaaDoorRows
import GoSem.ClaimSeven
namespace Go.Proofs.YtemgfhdgpkmmaaaDoor
namespace Rows

/-- THE TIED CARD OF 'censuslaw37.ListSeeks'. -/
def listSeeksCard : Claim7 := { stood := { row := listSeeksRow, standIns := [], harness := (true, "aa84c651969fde08d782250a1365dca56cc7bc5f4e57b27c8ae4d6a092c5627a"), looks := false }, kinds := [], alts := [], laidByText := true, laidKinds := [.data], laidTests := true, laidLooks := .later }
def ListSeeksCardSaid : Prop := Claim7.holds Tryd.pinned (.plain (OpenSpec.ofChange listSeeksSpec)) listSeeksCard

/-- THE TIED CARD OF 'censuslaw37.ListSought'. -/
def listSoughtCard : Claim7 := { stood := { row := listSoughtRow, standIns := [], harness := (true, "aa84c651969fde08d782250a1365dca56cc7bc5f4e57b27c8ae4d6a092c5627a"), looks := false }, kinds := [], alts := [], laidByText := true, laidKinds := [.data], laidTests := true, laidLooks := .later }
def ListSoughtCardSaid : Prop := Claim7.holds Tryd.pinned (.plain (OpenSpec.ofChange listSoughtSpec)) listSoughtCard

/-- THE TIED CARD OF 'censuslaw37.ListFree'. -/
def listFreeCard : Claim7 := { stood := { row := listFreeRow, standIns := [], harness := (true, "aa84c651969fde08d782250a1365dca56cc7bc5f4e57b27c8ae4d6a092c5627a"), looks := false }, kinds := [], alts := [], laidByText := true, laidKinds := [.data], laidTests := true, laidLooks := .later }
def ListFreeCardSaid : Prop := Claim7.holds Tryd.pinned (.plain (OpenSpec.ofChange listFreeSpec)) listFreeCard

/-- THE TIED CARD OF 'censuslaw37.ListKnown'. -/
def listKnownCard : Claim7 := { stood := { row := listKnownRow, standIns := [], harness := (true, "aa84c651969fde08d782250a1365dca56cc7bc5f4e57b27c8ae4d6a092c5627a"), looks := false }, kinds := [], alts := [], laidByText := true, laidKinds := [.data], laidTests := true, laidLooks := .later }
def ListKnownCardSaid : Prop := Claim7.holds Tryd.pinned (.plain (OpenSpec.ofChange listKnownSpec)) listKnownCard

/-- THE TIED CARD OF 'censuslaw37.ListWalks'. -/
def listWalksCard : Claim7 := { stood := { row := listWalksRow, standIns := [], harness := (true, "aa84c651969fde08d782250a1365dca56cc7bc5f4e57b27c8ae4d6a092c5627a"), looks := false }, kinds := [], alts := [], laidByText := true, laidKinds := [.data], laidTests := true, laidLooks := .later }
def ListWalksCardSaid : Prop := Claim7.holds Tryd.pinned (.plain (OpenSpec.ofChange listWalksSpec)) listWalksCard

/-- THE TIED CARD OF 'censuslaw37.ListAll'. -/
def listAllCard : Claim7 := { stood := { row := listAllRow, standIns := [], harness := (true, "aa84c651969fde08d782250a1365dca56cc7bc5f4e57b27c8ae4d6a092c5627a"), looks := false }, kinds := [], alts := [], laidByText := true, laidKinds := [.data], laidTests := true, laidLooks := .later }
def ListAllCardSaid : Prop := Claim7.holds Tryd.pinned (.plain (OpenSpec.ofChange listAllSpec)) listAllCard

/-- THE TIED CARD OF 'censuslaw37.ListSteps'. -/
def listStepsCard : Claim7 := { stood := { row := listStepsRow, standIns := [], harness := (true, "aa84c651969fde08d782250a1365dca56cc7bc5f4e57b27c8ae4d6a092c5627a"), looks := false }, kinds := [], alts := [], laidByText := true, laidKinds := [.data], laidTests := true, laidLooks := .later }
def ListStepsCardSaid : Prop := Claim7.holds Tryd.pinned (.plain (OpenSpec.ofChange listStepsSpec)) listStepsCard

/-- THE TIED CARD OF 'censuslaw37.ListNone'. -/
def listNoneCard : Claim7 := { stood := { row := listNoneRow, standIns := [], harness := (true, "aa84c651969fde08d782250a1365dca56cc7bc5f4e57b27c8ae4d6a092c5627a"), looks := false }, kinds := [], alts := [], laidByText := true, laidKinds := [.data], laidTests := true, laidLooks := .later }
def ListNoneCardSaid : Prop := Claim7.holds Tryd.pinned (.plain (OpenSpec.ofChange listNoneSpec)) listNoneCard

/-- THE TIED CARD OF 'censuslaw37.ListPlaces'. -/
def listPlacesCard : Claim7 := { stood := { row := listPlacesRow, standIns := [], harness := (true, "aa84c651969fde08d782250a1365dca56cc7bc5f4e57b27c8ae4d6a092c5627a"), looks := false }, kinds := [], alts := [], laidByText := true, laidKinds := [.data, .data], laidTests := true, laidLooks := .later }
def ListPlacesCardSaid : Prop := Claim7.holds Tryd.pinned (.plain (OpenSpec.ofChange listPlacesSpec)) listPlacesCard

/-- THE SECOND FORM's CARD OF 'censuslaw37.ListSeeks'. -/
def listSeeksUptoCard : Claim7 := { stood := { row := listSeeksUptoRow, standIns := [], harness := (true, "aa84c651969fde08d782250a1365dca56cc7bc5f4e57b27c8ae4d6a092c5627a"), looks := false }, kinds := [], alts := [], laidByText := true, laidKinds := [.data], laidTests := true, laidLooks := .later }
def ListSeeksUptoCardSaid : Prop := Claim7.holds Tryd.pinned (.plain (OpenSpec.upto listSeeksSpec)) listSeeksUptoCard

/-- THE SECOND FORM's CARD OF 'censuslaw37.ListSought'. -/
def listSoughtUptoCard : Claim7 := { stood := { row := listSoughtUptoRow, standIns := [], harness := (true, "aa84c651969fde08d782250a1365dca56cc7bc5f4e57b27c8ae4d6a092c5627a"), looks := false }, kinds := [], alts := [], laidByText := true, laidKinds := [.data], laidTests := true, laidLooks := .later }
def ListSoughtUptoCardSaid : Prop := Claim7.holds Tryd.pinned (.plain (OpenSpec.upto listSoughtSpec)) listSoughtUptoCard

/-- THE SECOND FORM's CARD OF 'censuslaw37.ListFree'. -/
def listFreeUptoCard : Claim7 := { stood := { row := listFreeUptoRow, standIns := [], harness := (true, "aa84c651969fde08d782250a1365dca56cc7bc5f4e57b27c8ae4d6a092c5627a"), looks := false }, kinds := [], alts := [], laidByText := true, laidKinds := [.data], laidTests := true, laidLooks := .later }
def ListFreeUptoCardSaid : Prop := Claim7.holds Tryd.pinned (.plain (OpenSpec.upto listFreeSpec)) listFreeUptoCard

/-- THE SECOND FORM's CARD OF 'censuslaw37.ListKnown'. -/
def listKnownUptoCard : Claim7 := { stood := { row := listKnownUptoRow, standIns := [], harness := (true, "aa84c651969fde08d782250a1365dca56cc7bc5f4e57b27c8ae4d6a092c5627a"), looks := false }, kinds := [], alts := [], laidByText := true, laidKinds := [.data], laidTests := true, laidLooks := .later }
def ListKnownUptoCardSaid : Prop := Claim7.holds Tryd.pinned (.plain (OpenSpec.upto listKnownSpec)) listKnownUptoCard

/-- THE SECOND FORM's CARD OF 'censuslaw37.ListWalks'. -/
def listWalksUptoCard : Claim7 := { stood := { row := listWalksUptoRow, standIns := [], harness := (true, "aa84c651969fde08d782250a1365dca56cc7bc5f4e57b27c8ae4d6a092c5627a"), looks := false }, kinds := [], alts := [], laidByText := true, laidKinds := [.data], laidTests := true, laidLooks := .later }
def ListWalksUptoCardSaid : Prop := Claim7.holds Tryd.pinned (.plain (OpenSpec.upto listWalksSpec)) listWalksUptoCard

/-- THE SECOND FORM's CARD OF 'censuslaw37.ListAll'. -/
def listAllUptoCard : Claim7 := { stood := { row := listAllUptoRow, standIns := [], harness := (true, "aa84c651969fde08d782250a1365dca56cc7bc5f4e57b27c8ae4d6a092c5627a"), looks := false }, kinds := [], alts := [], laidByText := true, laidKinds := [.data], laidTests := true, laidLooks := .later }
def ListAllUptoCardSaid : Prop := Claim7.holds Tryd.pinned (.plain (OpenSpec.upto listAllSpec)) listAllUptoCard

/-- THE SECOND FORM's CARD OF 'censuslaw37.ListSteps'. -/
def listStepsUptoCard : Claim7 := { stood := { row := listStepsUptoRow, standIns := [], harness := (true, "aa84c651969fde08d782250a1365dca56cc7bc5f4e57b27c8ae4d6a092c5627a"), looks := false }, kinds := [], alts := [], laidByText := true, laidKinds := [.data], laidTests := true, laidLooks := .later }
def ListStepsUptoCardSaid : Prop := Claim7.holds Tryd.pinned (.plain (OpenSpec.upto listStepsSpec)) listStepsUptoCard

/-- THE SECOND FORM's CARD OF 'censuslaw37.ListNone'. -/
def listNoneUptoCard : Claim7 := { stood := { row := listNoneUptoRow, standIns := [], harness := (true, "aa84c651969fde08d782250a1365dca56cc7bc5f4e57b27c8ae4d6a092c5627a"), looks := false }, kinds := [], alts := [], laidByText := true, laidKinds := [.data], laidTests := true, laidLooks := .later }
def ListNoneUptoCardSaid : Prop := Claim7.holds Tryd.pinned (.plain (OpenSpec.upto listNoneSpec)) listNoneUptoCard

/-- THE SECOND FORM's CARD OF 'censuslaw37.ListPlaces'. -/
def listPlacesUptoCard : Claim7 := { stood := { row := listPlacesUptoRow, standIns := [], harness := (true, "aa84c651969fde08d782250a1365dca56cc7bc5f4e57b27c8ae4d6a092c5627a"), looks := false }, kinds := [], alts := [], laidByText := true, laidKinds := [.data, .data], laidTests := true, laidLooks := .later }
def ListPlacesUptoCardSaid : Prop := Claim7.holds Tryd.pinned (.plain (OpenSpec.upto listPlacesSpec)) listPlacesUptoCard
end Rows
end Go.Proofs.YtemgfhdgpkmmaaaDoor
