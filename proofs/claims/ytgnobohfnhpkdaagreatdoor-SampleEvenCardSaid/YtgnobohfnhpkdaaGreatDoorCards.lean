/-
  DERIVED. GIVEN WITH THE SEED: THE CARDS: each row of YtgnobohfnhpkdaaGreatDoorRows.lean that lists a variable, with what it lists TIED to the program's text (the seventh form; the later family's looks); each row that meets fmt, with fmt's text TOLD by the authors' own Lean function (tested against real Go, not proved from fmt's source: count such statements apart). THE CARD IS WHAT COUNTS. Prove the row's statement (the work); the ties are given (YtgnobohfnhpkdaaGreatDoorTie.lean); close each card by the builder's one call (the guide's Derived/Test/ToyasCard.lean, 'card_holds'). Laid BY PROGRAM, IN A SANDBOX (cutbox-door.mjs). By AI agents, Wed Nov 11 2026. No macro, syntax, notation, axiom, sorry.
-/
import Derived.Test.YtgnobohfnhpkdaaGreatDoorRows
import GoSem.ClaimSeven
namespace Go.Proofs.YtgnobohfnhpkdaaGreatDoor
namespace Rows

/-- THE TIED CARD OF 'censuslaw36.SampleDraws'. -/
def sampleDrawsCard : Claim7 := { stood := { row := sampleDrawsRow, standIns := [], harness := (true, "04e72802614371b4757d7bb829e4a63368b51bdf21196414107a5f7d98c7cbac"), looks := false }, kinds := [], alts := [], laidByText := true, laidKinds := [.data], laidTests := true, laidLooks := .later }
def SampleDrawsCardSaid : Prop := Claim7.holds Tryz.pinned (.plain (OpenSpec.ofChange sampleDrawsSpec)) sampleDrawsCard

/-- THE TIED CARD OF 'censuslaw36.SampleNeeds'. -/
def sampleNeedsCard : Claim7 := { stood := { row := sampleNeedsRow, standIns := [], harness := (true, "04e72802614371b4757d7bb829e4a63368b51bdf21196414107a5f7d98c7cbac"), looks := false }, kinds := [], alts := [], laidByText := true, laidKinds := [.data], laidTests := true, laidLooks := .later }
def SampleNeedsCardSaid : Prop := Claim7.holds Tryz.pinned (.plain (OpenSpec.ofChange sampleNeedsSpec)) sampleNeedsCard

/-- THE TIED CARD OF 'censuslaw36.SampleUniform'. -/
def sampleUniformCard : Claim7 := { stood := { row := sampleUniformRow, standIns := [], harness := (true, "04e72802614371b4757d7bb829e4a63368b51bdf21196414107a5f7d98c7cbac"), looks := false }, kinds := [], alts := [], laidByText := true, laidKinds := [.data], laidTests := true, laidLooks := .later }
def SampleUniformCardSaid : Prop := Claim7.holds Tryz.pinned (.plain (OpenSpec.ofChange sampleUniformSpec)) sampleUniformCard

/-- THE TIED CARD OF 'censuslaw36.SampleWeighs'. -/
def sampleWeighsCard : Claim7 := { stood := { row := sampleWeighsRow, standIns := [], harness := (true, "04e72802614371b4757d7bb829e4a63368b51bdf21196414107a5f7d98c7cbac"), looks := false }, kinds := [], alts := [], laidByText := true, laidKinds := [.data], laidTests := true, laidLooks := .later }
def SampleWeighsCardSaid : Prop := Claim7.holds Tryz.pinned (.plain (OpenSpec.ofChange sampleWeighsSpec)) sampleWeighsCard

/-- THE TIED CARD OF 'censuslaw36.SampleModel'. -/
def sampleModelCard : Claim7 := { stood := { row := sampleModelRow, standIns := [], harness := (true, "04e72802614371b4757d7bb829e4a63368b51bdf21196414107a5f7d98c7cbac"), looks := false }, kinds := [], alts := [], laidByText := true, laidKinds := [.data], laidTests := true, laidLooks := .later }
def SampleModelCardSaid : Prop := Claim7.holds Tryz.pinned (.plain (OpenSpec.ofChange sampleModelSpec)) sampleModelCard

/-- THE TIED CARD OF 'censuslaw36.SampleEven'. -/
def sampleEvenCard : Claim7 := { stood := { row := sampleEvenRow, standIns := [], harness := (true, "04e72802614371b4757d7bb829e4a63368b51bdf21196414107a5f7d98c7cbac"), looks := false }, kinds := [], alts := [], laidByText := true, laidKinds := [.data], laidTests := true, laidLooks := .later }
def SampleEvenCardSaid : Prop := Claim7.holds Tryz.pinned (.plain (OpenSpec.ofChange sampleEvenSpec)) sampleEvenCard

/-- THE TIED CARD OF 'censuslaw36.SampleKnown'. -/
def sampleKnownCard : Claim7 := { stood := { row := sampleKnownRow, standIns := [], harness := (true, "04e72802614371b4757d7bb829e4a63368b51bdf21196414107a5f7d98c7cbac"), looks := false }, kinds := [], alts := [], laidByText := true, laidKinds := [.data], laidTests := true, laidLooks := .later }
def SampleKnownCardSaid : Prop := Claim7.holds Tryz.pinned (.plain (OpenSpec.ofChange sampleKnownSpec)) sampleKnownCard

/-- THE SECOND FORM's CARD OF 'censuslaw36.SampleDraws'. -/
def sampleDrawsUptoCard : Claim7 := { stood := { row := sampleDrawsUptoRow, standIns := [], harness := (true, "04e72802614371b4757d7bb829e4a63368b51bdf21196414107a5f7d98c7cbac"), looks := false }, kinds := [], alts := [], laidByText := true, laidKinds := [.data], laidTests := true, laidLooks := .later }
def SampleDrawsUptoCardSaid : Prop := Claim7.holds Tryz.pinned (.plain (OpenSpec.upto sampleDrawsSpec)) sampleDrawsUptoCard

/-- THE SECOND FORM's CARD OF 'censuslaw36.SampleNeeds'. -/
def sampleNeedsUptoCard : Claim7 := { stood := { row := sampleNeedsUptoRow, standIns := [], harness := (true, "04e72802614371b4757d7bb829e4a63368b51bdf21196414107a5f7d98c7cbac"), looks := false }, kinds := [], alts := [], laidByText := true, laidKinds := [.data], laidTests := true, laidLooks := .later }
def SampleNeedsUptoCardSaid : Prop := Claim7.holds Tryz.pinned (.plain (OpenSpec.upto sampleNeedsSpec)) sampleNeedsUptoCard

/-- THE SECOND FORM's CARD OF 'censuslaw36.SampleUniform'. -/
def sampleUniformUptoCard : Claim7 := { stood := { row := sampleUniformUptoRow, standIns := [], harness := (true, "04e72802614371b4757d7bb829e4a63368b51bdf21196414107a5f7d98c7cbac"), looks := false }, kinds := [], alts := [], laidByText := true, laidKinds := [.data], laidTests := true, laidLooks := .later }
def SampleUniformUptoCardSaid : Prop := Claim7.holds Tryz.pinned (.plain (OpenSpec.upto sampleUniformSpec)) sampleUniformUptoCard

/-- THE SECOND FORM's CARD OF 'censuslaw36.SampleWeighs'. -/
def sampleWeighsUptoCard : Claim7 := { stood := { row := sampleWeighsUptoRow, standIns := [], harness := (true, "04e72802614371b4757d7bb829e4a63368b51bdf21196414107a5f7d98c7cbac"), looks := false }, kinds := [], alts := [], laidByText := true, laidKinds := [.data], laidTests := true, laidLooks := .later }
def SampleWeighsUptoCardSaid : Prop := Claim7.holds Tryz.pinned (.plain (OpenSpec.upto sampleWeighsSpec)) sampleWeighsUptoCard

/-- THE SECOND FORM's CARD OF 'censuslaw36.SampleModel'. -/
def sampleModelUptoCard : Claim7 := { stood := { row := sampleModelUptoRow, standIns := [], harness := (true, "04e72802614371b4757d7bb829e4a63368b51bdf21196414107a5f7d98c7cbac"), looks := false }, kinds := [], alts := [], laidByText := true, laidKinds := [.data], laidTests := true, laidLooks := .later }
def SampleModelUptoCardSaid : Prop := Claim7.holds Tryz.pinned (.plain (OpenSpec.upto sampleModelSpec)) sampleModelUptoCard

/-- THE SECOND FORM's CARD OF 'censuslaw36.SampleEven'. -/
def sampleEvenUptoCard : Claim7 := { stood := { row := sampleEvenUptoRow, standIns := [], harness := (true, "04e72802614371b4757d7bb829e4a63368b51bdf21196414107a5f7d98c7cbac"), looks := false }, kinds := [], alts := [], laidByText := true, laidKinds := [.data], laidTests := true, laidLooks := .later }
def SampleEvenUptoCardSaid : Prop := Claim7.holds Tryz.pinned (.plain (OpenSpec.upto sampleEvenSpec)) sampleEvenUptoCard

/-- THE SECOND FORM's CARD OF 'censuslaw36.SampleKnown'. -/
def sampleKnownUptoCard : Claim7 := { stood := { row := sampleKnownUptoRow, standIns := [], harness := (true, "04e72802614371b4757d7bb829e4a63368b51bdf21196414107a5f7d98c7cbac"), looks := false }, kinds := [], alts := [], laidByText := true, laidKinds := [.data], laidTests := true, laidLooks := .later }
def SampleKnownUptoCardSaid : Prop := Claim7.holds Tryz.pinned (.plain (OpenSpec.upto sampleKnownSpec)) sampleKnownUptoCard
end Rows
end Go.Proofs.YtgnobohfnhpkdaaGreatDoor
