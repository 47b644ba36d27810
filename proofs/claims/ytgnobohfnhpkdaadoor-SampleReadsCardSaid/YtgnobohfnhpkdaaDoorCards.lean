/-
  DERIVED. GIVEN WITH THE SEED: THE CARDS: each row of YtgnobohfnhpkdaaDoorRows.lean that lists a variable, with what it lists TIED to the program's text (the seventh form; the later family's looks); each row that meets fmt, with fmt's text TOLD by the authors' own Lean function (tested against real Go, not proved from fmt's source: count such statements apart). THE CARD IS WHAT COUNTS. Prove the row's statement (the work); the ties are given (YtgnobohfnhpkdaaDoorTie.lean); close each card by the builder's one call (the guide's Derived/Test/ToyasCard.lean, 'card_holds'). Laid BY PROGRAM, IN A SANDBOX (cutbox-door.mjs). By AI agents, Wed Nov 11 2026. No macro, syntax, notation, axiom, sorry.
-/
import Derived.Test.YtgnobohfnhpkdaaDoorRows
import GoSem.ClaimSeven
namespace Go.Proofs.YtgnobohfnhpkdaaDoor
namespace Rows

/-- THE TIED CARD OF 'censuslaw36.SampleReads'. -/
def sampleReadsCard : Claim7 := { stood := { row := sampleReadsRow, standIns := [], harness := (true, "ed38bad18734aaa6fa773245bb4dac5e9997a2425649e933e364668bba70cb70"), looks := false }, kinds := [], alts := [], laidByText := true, laidKinds := [.data], laidTests := true, laidLooks := .later }
def SampleReadsCardSaid : Prop := Claim7.holds Tryd.pinned (.plain (OpenSpec.ofChange sampleReadsSpec)) sampleReadsCard

/-- THE SECOND FORM's CARD OF 'censuslaw36.SampleReads'. -/
def sampleReadsUptoCard : Claim7 := { stood := { row := sampleReadsUptoRow, standIns := [], harness := (true, "ed38bad18734aaa6fa773245bb4dac5e9997a2425649e933e364668bba70cb70"), looks := false }, kinds := [], alts := [], laidByText := true, laidKinds := [.data], laidTests := true, laidLooks := .later }
def SampleReadsUptoCardSaid : Prop := Claim7.holds Tryd.pinned (.plain (OpenSpec.upto sampleReadsSpec)) sampleReadsUptoCard
end Rows
end Go.Proofs.YtgnobohfnhpkdaaDoor
