/-
  DERIVED. GIVEN WITH THE SEED: THE CARDS: each row of YtcgejdlfiemjaaaDoorRows.lean that lists a variable, with what it lists TIED to the program's text (the seventh form; the later family's looks); each row that meets fmt, with fmt's text TOLD by the authors' own Lean function (tested against real Go, not proved from fmt's source: count such statements apart). THE CARD IS WHAT COUNTS. Prove the row's statement (the work); the ties are given (YtcgejdlfiemjaaaDoorTie.lean); close each card by the builder's one call (the guide's Derived/Test/ToyasCard.lean, 'card_holds'). Laid BY PROGRAM, IN A SANDBOX (cutbox-door.mjs). By AI agents, Wed Nov 11 2026. No macro, syntax, notation, axiom, sorry.
-/
import Derived.Test.YtcgejdlfiemjaaaDoorRows
import GoSem.ClaimSeven
namespace Go.Proofs.YtcgejdlfiemjaaaDoor
namespace Rows

/-- THE TIED CARD OF 'censuslaw32.CountCounts'. -/
def countCountsCard : Claim7 := { stood := { row := countCountsRow, standIns := [], harness := (true, "85ecfc7d05e5c7f05d237d9b56251a6bc9cba72aad35caea971f1988ffd5b5bf"), looks := false }, kinds := [], alts := [], laidByText := true, laidKinds := [.data], laidTests := true, laidLooks := .later }
def CountCountsCardSaid : Prop := Claim7.holds Tryd.pinned (.plain (OpenSpec.ofChange countCountsSpec)) countCountsCard

/-- THE TIED CARD OF 'censuslaw32.CountLits'. -/
def countLitsCard : Claim7 := { stood := { row := countLitsRow, standIns := [], harness := (true, "85ecfc7d05e5c7f05d237d9b56251a6bc9cba72aad35caea971f1988ffd5b5bf"), looks := false }, kinds := [], alts := [], laidByText := true, laidKinds := [.data], laidTests := true, laidLooks := .later }
def CountLitsCardSaid : Prop := Claim7.holds Tryd.pinned (.plain (OpenSpec.ofChange countLitsSpec)) countLitsCard

/-- THE TIED CARD OF 'censuslaw32.CountCards'. -/
def countCardsCard : Claim7 := { stood := { row := countCardsRow, standIns := [], harness := (true, "85ecfc7d05e5c7f05d237d9b56251a6bc9cba72aad35caea971f1988ffd5b5bf"), looks := false }, kinds := [], alts := [], laidByText := true, laidKinds := [.data], laidTests := true, laidLooks := .later }
def CountCardsCardSaid : Prop := Claim7.holds Tryd.pinned (.plain (OpenSpec.ofChange countCardsSpec)) countCardsCard

/-- THE TIED CARD OF 'censuslaw32.CountAdds'. -/
def countAddsCard : Claim7 := { stood := { row := countAddsRow, standIns := [], harness := (true, "85ecfc7d05e5c7f05d237d9b56251a6bc9cba72aad35caea971f1988ffd5b5bf"), looks := false }, kinds := [], alts := [], laidByText := true, laidKinds := [.data], laidTests := true, laidLooks := .later }
def CountAddsCardSaid : Prop := Claim7.holds Tryd.pinned (.plain (OpenSpec.ofChange countAddsSpec)) countAddsCard

/-- THE TIED CARD OF 'censuslaw32.CountMore'. -/
def countMoreCard : Claim7 := { stood := { row := countMoreRow, standIns := [], harness := (true, "85ecfc7d05e5c7f05d237d9b56251a6bc9cba72aad35caea971f1988ffd5b5bf"), looks := false }, kinds := [], alts := [], laidByText := true, laidKinds := [.data], laidTests := true, laidLooks := .later }
def CountMoreCardSaid : Prop := Claim7.holds Tryd.pinned (.plain (OpenSpec.ofChange countMoreSpec)) countMoreCard

/-- THE TIED CARD OF 'censuslaw32.CountKnown'. -/
def countKnownCard : Claim7 := { stood := { row := countKnownRow, standIns := [], harness := (true, "85ecfc7d05e5c7f05d237d9b56251a6bc9cba72aad35caea971f1988ffd5b5bf"), looks := false }, kinds := [], alts := [], laidByText := true, laidKinds := [.data], laidTests := true, laidLooks := .later }
def CountKnownCardSaid : Prop := Claim7.holds Tryd.pinned (.plain (OpenSpec.ofChange countKnownSpec)) countKnownCard

/-- THE TIED CARD OF 'censuslaw32.CountModels'. -/
def countModelsCard : Claim7 := { stood := { row := countModelsRow, standIns := [], harness := (true, "85ecfc7d05e5c7f05d237d9b56251a6bc9cba72aad35caea971f1988ffd5b5bf"), looks := false }, kinds := [], alts := [], laidByText := true, laidKinds := [.data], laidTests := true, laidLooks := .later }
def CountModelsCardSaid : Prop := Claim7.holds Tryd.pinned (.plain (OpenSpec.ofChange countModelsSpec)) countModelsCard

/-- THE SECOND FORM's CARD OF 'censuslaw32.CountCounts'. -/
def countCountsUptoCard : Claim7 := { stood := { row := countCountsUptoRow, standIns := [], harness := (true, "85ecfc7d05e5c7f05d237d9b56251a6bc9cba72aad35caea971f1988ffd5b5bf"), looks := false }, kinds := [], alts := [], laidByText := true, laidKinds := [.data], laidTests := true, laidLooks := .later }
def CountCountsUptoCardSaid : Prop := Claim7.holds Tryd.pinned (.plain (OpenSpec.upto countCountsSpec)) countCountsUptoCard

/-- THE SECOND FORM's CARD OF 'censuslaw32.CountLits'. -/
def countLitsUptoCard : Claim7 := { stood := { row := countLitsUptoRow, standIns := [], harness := (true, "85ecfc7d05e5c7f05d237d9b56251a6bc9cba72aad35caea971f1988ffd5b5bf"), looks := false }, kinds := [], alts := [], laidByText := true, laidKinds := [.data], laidTests := true, laidLooks := .later }
def CountLitsUptoCardSaid : Prop := Claim7.holds Tryd.pinned (.plain (OpenSpec.upto countLitsSpec)) countLitsUptoCard

/-- THE SECOND FORM's CARD OF 'censuslaw32.CountCards'. -/
def countCardsUptoCard : Claim7 := { stood := { row := countCardsUptoRow, standIns := [], harness := (true, "85ecfc7d05e5c7f05d237d9b56251a6bc9cba72aad35caea971f1988ffd5b5bf"), looks := false }, kinds := [], alts := [], laidByText := true, laidKinds := [.data], laidTests := true, laidLooks := .later }
def CountCardsUptoCardSaid : Prop := Claim7.holds Tryd.pinned (.plain (OpenSpec.upto countCardsSpec)) countCardsUptoCard

/-- THE SECOND FORM's CARD OF 'censuslaw32.CountAdds'. -/
def countAddsUptoCard : Claim7 := { stood := { row := countAddsUptoRow, standIns := [], harness := (true, "85ecfc7d05e5c7f05d237d9b56251a6bc9cba72aad35caea971f1988ffd5b5bf"), looks := false }, kinds := [], alts := [], laidByText := true, laidKinds := [.data], laidTests := true, laidLooks := .later }
def CountAddsUptoCardSaid : Prop := Claim7.holds Tryd.pinned (.plain (OpenSpec.upto countAddsSpec)) countAddsUptoCard

/-- THE SECOND FORM's CARD OF 'censuslaw32.CountMore'. -/
def countMoreUptoCard : Claim7 := { stood := { row := countMoreUptoRow, standIns := [], harness := (true, "85ecfc7d05e5c7f05d237d9b56251a6bc9cba72aad35caea971f1988ffd5b5bf"), looks := false }, kinds := [], alts := [], laidByText := true, laidKinds := [.data], laidTests := true, laidLooks := .later }
def CountMoreUptoCardSaid : Prop := Claim7.holds Tryd.pinned (.plain (OpenSpec.upto countMoreSpec)) countMoreUptoCard

/-- THE SECOND FORM's CARD OF 'censuslaw32.CountKnown'. -/
def countKnownUptoCard : Claim7 := { stood := { row := countKnownUptoRow, standIns := [], harness := (true, "85ecfc7d05e5c7f05d237d9b56251a6bc9cba72aad35caea971f1988ffd5b5bf"), looks := false }, kinds := [], alts := [], laidByText := true, laidKinds := [.data], laidTests := true, laidLooks := .later }
def CountKnownUptoCardSaid : Prop := Claim7.holds Tryd.pinned (.plain (OpenSpec.upto countKnownSpec)) countKnownUptoCard

/-- THE SECOND FORM's CARD OF 'censuslaw32.CountModels'. -/
def countModelsUptoCard : Claim7 := { stood := { row := countModelsUptoRow, standIns := [], harness := (true, "85ecfc7d05e5c7f05d237d9b56251a6bc9cba72aad35caea971f1988ffd5b5bf"), looks := false }, kinds := [], alts := [], laidByText := true, laidKinds := [.data], laidTests := true, laidLooks := .later }
def CountModelsUptoCardSaid : Prop := Claim7.holds Tryd.pinned (.plain (OpenSpec.upto countModelsSpec)) countModelsUptoCard
end Rows
end Go.Proofs.YtcgejdlfiemjaaaDoor
