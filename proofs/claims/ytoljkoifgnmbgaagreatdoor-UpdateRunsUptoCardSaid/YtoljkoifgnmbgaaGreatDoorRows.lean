/-
  NARROWER THAN 'FOR EVERY INPUT', by the rows' own cells (each row's printed sentence says how): UpdateNews: laid · UpdateRuns: laid · UpdateNil: laid · UpdateKnown: laid · UpdateTurned: laid · UpdateBack: laid · UpdateOwn: laid · UpdateOne: laid · UpdateScratch: laid.
  DERIVED. THE GIVEN ROWS OF THIS SEAT. 9 by the template 'for every input the law returns true; each argument reads behind the call as it read before'; 0 by the template 'total and deterministic' (their statements: YtoljkoifgnmbgaaGreatDoorTotals.lean).
  GIVEN WITH THE SEED: the statements are not yours to turn. If you find one false, say at which input.
  Laid BY PROGRAM, IN A SANDBOX (cutbox-rows.mjs): the forced cells as the released guide's own fill.sh prints them over the translation 3d3116ca8b97c0b7… (all of the seat's roots in one cut). By AI agents, Wed Nov 11 2026. No macro, syntax, notation, axiom, sorry.
-/
import Derived.Test.YtoljkoifgnmbgaaGreatDoorChecked
import GoSem.Claim
import GoSem.ClaimJoined
import GoSem.ClaimMapViews
import Derived.JoinedTies
import Derived.KernelRfl
namespace Go.Proofs.YtoljkoifgnmbgaaGreatDoor
/- THE CELL 'sum', in the pinned program and in every row, IS THE sha256 OF THE DUMP (.gsa) THAT YtoljkoifgnmbgaaGreatDoorProg.lean LOADS. Nothing in Lean hashes anything: it is a label: what it is worth is what the hold of that sum in a sandbox is worth. -/
noncomputable def Tryz.pinned : Pinned := { name := "ytoljkoifgnmbgaagreatdoor", sum := "3d3116ca8b97c0b7aac35e32f4ed324b52491e99b38caeb0cb4e3bfdb3e1902f", checked := Tryz.checked }
namespace Rows
def none {H : Type} : Left H := { results := [], args := [] }

/- WHAT THE LISTED PACKAGE-LEVEL VARIABLES READ AS WHEN THE CALL BEGINS. Each datum BY PROGRAM (the guide's laid-datum.mjs) off the statement by which the dump's own 'gosem.cut.vars' lays the variable. In a bare row this is a premise. The card (YtoljkoifgnmbgaaGreatDoorCards.lean) ties it to the program's text. -/
def laid_math_bits_deBruijn64tab {H : Type} : DataW H := .agg [.lit (.int .u8 0), .lit (.int .u8 1), .lit (.int .u8 56), .lit (.int .u8 2), .lit (.int .u8 57), .lit (.int .u8 49), .lit (.int .u8 28), .lit (.int .u8 3), .lit (.int .u8 61), .lit (.int .u8 58), .lit (.int .u8 42), .lit (.int .u8 50), .lit (.int .u8 38), .lit (.int .u8 29), .lit (.int .u8 17), .lit (.int .u8 4), .lit (.int .u8 62), .lit (.int .u8 47), .lit (.int .u8 59), .lit (.int .u8 36), .lit (.int .u8 45), .lit (.int .u8 43), .lit (.int .u8 51), .lit (.int .u8 22), .lit (.int .u8 53), .lit (.int .u8 39), .lit (.int .u8 33), .lit (.int .u8 30), .lit (.int .u8 24), .lit (.int .u8 18), .lit (.int .u8 12), .lit (.int .u8 5), .lit (.int .u8 63), .lit (.int .u8 55), .lit (.int .u8 48), .lit (.int .u8 27), .lit (.int .u8 60), .lit (.int .u8 41), .lit (.int .u8 37), .lit (.int .u8 16), .lit (.int .u8 46), .lit (.int .u8 35), .lit (.int .u8 44), .lit (.int .u8 21), .lit (.int .u8 52), .lit (.int .u8 32), .lit (.int .u8 23), .lit (.int .u8 11), .lit (.int .u8 54), .lit (.int .u8 26), .lit (.int .u8 40), .lit (.int .u8 15), .lit (.int .u8 34), .lit (.int .u8 20), .lit (.int .u8 31), .lit (.int .u8 10), .lit (.int .u8 25), .lit (.int .u8 14), .lit (.int .u8 19), .lit (.int .u8 9), .lit (.int .u8 13), .lit (.int .u8 8), .lit (.int .u8 7), .lit (.int .u8 6)]

/-- 'censuslaw44.UpdateNews': WHATEVER THE INPUT: true; the input reads as it did. -/
def updateNewsSpec : ChangeSpec := { name := "updateNews", fn := fun _ => fun
  | [d1, d2, d3] => { results := [.lit (.bool true)], args := [d1, d2, d3] }
  | _ => none }
def updateNewsRow : OpenClaim := { program := "ytoljkoifgnmbgaagreatdoor", sum := "3d3116ca8b97c0b7aac35e32f4ed324b52491e99b38caeb0cb4e3bfdb3e1902f", func := "census/censuslaw44.UpdateNews", spec := "updateNews", inPlace := ["internal/bytealg.IndexByteString", "internal/bytealg.IndexString", "internal/abi.NoEscape"], unfollowed := true, recurses := true, named := ["internal/bytealg.MaxLen", "math/bits.deBruijn64tab"], apart := false, laid := [("math/bits.deBruijn64tab", laid_math_bits_deBruijn64tab)] }
def UpdateNewsSaid : Prop := updateNewsRow.holds Tryz.pinned (OpenSpec.ofChange updateNewsSpec)

/-- ITS FALSE NEIGHBOUR: 'it returns false'. Refute it at one input. -/
def updateNewsWrong : ChangeSpec := { name := "updateNews", fn := fun _ => fun
  | [d1, d2, d3] => { results := [.lit (.bool false)], args := [d1, d2, d3] }
  | _ => none }
def UpdateNewsWrongFalsely : Prop := updateNewsRow.holds Tryz.pinned (OpenSpec.ofChange updateNewsWrong)

/-- 'censuslaw44.UpdateRuns': WHATEVER THE INPUT: true; the input reads as it did. -/
def updateRunsSpec : ChangeSpec := { name := "updateRuns", fn := fun _ => fun
  | [d1, d2, d3, d4] => { results := [.lit (.bool true)], args := [d1, d2, d3, d4] }
  | _ => none }
def updateRunsRow : OpenClaim := { program := "ytoljkoifgnmbgaagreatdoor", sum := "3d3116ca8b97c0b7aac35e32f4ed324b52491e99b38caeb0cb4e3bfdb3e1902f", func := "census/censuslaw44.UpdateRuns", spec := "updateRuns", inPlace := ["internal/bytealg.IndexByteString", "internal/bytealg.IndexString", "internal/abi.NoEscape"], unfollowed := true, recurses := true, named := ["internal/bytealg.MaxLen", "math/bits.deBruijn64tab"], apart := false, laid := [("math/bits.deBruijn64tab", laid_math_bits_deBruijn64tab)] }
def UpdateRunsSaid : Prop := updateRunsRow.holds Tryz.pinned (OpenSpec.ofChange updateRunsSpec)

/-- ITS FALSE NEIGHBOUR: 'it returns false'. Refute it at one input. -/
def updateRunsWrong : ChangeSpec := { name := "updateRuns", fn := fun _ => fun
  | [d1, d2, d3, d4] => { results := [.lit (.bool false)], args := [d1, d2, d3, d4] }
  | _ => none }
def UpdateRunsWrongFalsely : Prop := updateRunsRow.holds Tryz.pinned (OpenSpec.ofChange updateRunsWrong)

/-- 'censuslaw44.UpdateNil': WHATEVER THE INPUT: true; the input reads as it did. -/
def updateNilSpec : ChangeSpec := { name := "updateNil", fn := fun _ => fun
  | [d] => { results := [.lit (.bool true)], args := [d] }
  | _ => none }
def updateNilRow : OpenClaim := { program := "ytoljkoifgnmbgaagreatdoor", sum := "3d3116ca8b97c0b7aac35e32f4ed324b52491e99b38caeb0cb4e3bfdb3e1902f", func := "census/censuslaw44.UpdateNil", spec := "updateNil", inPlace := ["internal/bytealg.IndexByteString", "internal/bytealg.IndexString", "internal/abi.NoEscape"], unfollowed := true, recurses := true, named := ["math/bits.deBruijn64tab", "internal/bytealg.MaxLen"], apart := false, laid := [("math/bits.deBruijn64tab", laid_math_bits_deBruijn64tab)] }
def UpdateNilSaid : Prop := updateNilRow.holds Tryz.pinned (OpenSpec.ofChange updateNilSpec)

/-- ITS FALSE NEIGHBOUR: 'it returns false'. Refute it at one input. -/
def updateNilWrong : ChangeSpec := { name := "updateNil", fn := fun _ => fun
  | [d] => { results := [.lit (.bool false)], args := [d] }
  | _ => none }
def UpdateNilWrongFalsely : Prop := updateNilRow.holds Tryz.pinned (OpenSpec.ofChange updateNilWrong)

/-- 'censuslaw44.UpdateKnown': WHATEVER THE INPUT: true; the input reads as it did. -/
def updateKnownSpec : ChangeSpec := { name := "updateKnown", fn := fun _ => fun
  | [] => { results := [.lit (.bool true)], args := [] }
  | _ => none }
def updateKnownRow : OpenClaim := { program := "ytoljkoifgnmbgaagreatdoor", sum := "3d3116ca8b97c0b7aac35e32f4ed324b52491e99b38caeb0cb4e3bfdb3e1902f", func := "census/censuslaw44.UpdateKnown", spec := "updateKnown", inPlace := ["internal/bytealg.IndexByteString", "internal/bytealg.IndexString", "internal/abi.NoEscape"], unfollowed := true, recurses := true, named := ["internal/bytealg.MaxLen", "math/bits.deBruijn64tab"], apart := false, laid := [("math/bits.deBruijn64tab", laid_math_bits_deBruijn64tab)] }
def UpdateKnownSaid : Prop := updateKnownRow.holds Tryz.pinned (OpenSpec.ofChange updateKnownSpec)

/-- ITS FALSE NEIGHBOUR: 'it returns false'. Refute it at one input. -/
def updateKnownWrong : ChangeSpec := { name := "updateKnown", fn := fun _ => fun
  | [] => { results := [.lit (.bool false)], args := [] }
  | _ => none }
def UpdateKnownWrongFalsely : Prop := updateKnownRow.holds Tryz.pinned (OpenSpec.ofChange updateKnownWrong)

/-- 'censuslaw44.UpdateTurned': WHATEVER THE INPUT: true; the input reads as it did. -/
def updateTurnedSpec : ChangeSpec := { name := "updateTurned", fn := fun _ => fun
  | [d1, d2, d3, d4] => { results := [.lit (.bool true)], args := [d1, d2, d3, d4] }
  | _ => none }
def updateTurnedRow : OpenClaim := { program := "ytoljkoifgnmbgaagreatdoor", sum := "3d3116ca8b97c0b7aac35e32f4ed324b52491e99b38caeb0cb4e3bfdb3e1902f", func := "census/censuslaw44.UpdateTurned", spec := "updateTurned", inPlace := ["internal/bytealg.IndexByteString", "internal/bytealg.IndexString", "internal/abi.NoEscape"], unfollowed := true, recurses := true, named := ["internal/bytealg.MaxLen", "math/bits.deBruijn64tab"], apart := false, laid := [("math/bits.deBruijn64tab", laid_math_bits_deBruijn64tab)] }
def UpdateTurnedSaid : Prop := updateTurnedRow.holds Tryz.pinned (OpenSpec.ofChange updateTurnedSpec)

/-- ITS FALSE NEIGHBOUR: 'it returns false'. Refute it at one input. -/
def updateTurnedWrong : ChangeSpec := { name := "updateTurned", fn := fun _ => fun
  | [d1, d2, d3, d4] => { results := [.lit (.bool false)], args := [d1, d2, d3, d4] }
  | _ => none }
def UpdateTurnedWrongFalsely : Prop := updateTurnedRow.holds Tryz.pinned (OpenSpec.ofChange updateTurnedWrong)

/-- 'censuslaw44.UpdateBack': WHATEVER THE INPUT: true; the input reads as it did. -/
def updateBackSpec : ChangeSpec := { name := "updateBack", fn := fun _ => fun
  | [d1, d2, d3, d4, d5] => { results := [.lit (.bool true)], args := [d1, d2, d3, d4, d5] }
  | _ => none }
def updateBackRow : OpenClaim := { program := "ytoljkoifgnmbgaagreatdoor", sum := "3d3116ca8b97c0b7aac35e32f4ed324b52491e99b38caeb0cb4e3bfdb3e1902f", func := "census/censuslaw44.UpdateBack", spec := "updateBack", inPlace := ["internal/bytealg.IndexByteString", "internal/bytealg.IndexString", "internal/abi.NoEscape"], unfollowed := true, recurses := true, named := ["internal/bytealg.MaxLen", "math/bits.deBruijn64tab"], apart := false, laid := [("math/bits.deBruijn64tab", laid_math_bits_deBruijn64tab)] }
def UpdateBackSaid : Prop := updateBackRow.holds Tryz.pinned (OpenSpec.ofChange updateBackSpec)

/-- ITS FALSE NEIGHBOUR: 'it returns false'. Refute it at one input. -/
def updateBackWrong : ChangeSpec := { name := "updateBack", fn := fun _ => fun
  | [d1, d2, d3, d4, d5] => { results := [.lit (.bool false)], args := [d1, d2, d3, d4, d5] }
  | _ => none }
def UpdateBackWrongFalsely : Prop := updateBackRow.holds Tryz.pinned (OpenSpec.ofChange updateBackWrong)

/-- 'censuslaw44.UpdateOwn': WHATEVER THE INPUT: true; the input reads as it did. -/
def updateOwnSpec : ChangeSpec := { name := "updateOwn", fn := fun _ => fun
  | [d1, d2, d3, d4] => { results := [.lit (.bool true)], args := [d1, d2, d3, d4] }
  | _ => none }
def updateOwnRow : OpenClaim := { program := "ytoljkoifgnmbgaagreatdoor", sum := "3d3116ca8b97c0b7aac35e32f4ed324b52491e99b38caeb0cb4e3bfdb3e1902f", func := "census/censuslaw44.UpdateOwn", spec := "updateOwn", inPlace := ["internal/bytealg.IndexByteString", "internal/bytealg.IndexString", "internal/abi.NoEscape"], unfollowed := true, recurses := true, named := ["internal/bytealg.MaxLen", "math/bits.deBruijn64tab"], apart := false, laid := [("math/bits.deBruijn64tab", laid_math_bits_deBruijn64tab)] }
def UpdateOwnSaid : Prop := updateOwnRow.holds Tryz.pinned (OpenSpec.ofChange updateOwnSpec)

/-- ITS FALSE NEIGHBOUR: 'it returns false'. Refute it at one input. -/
def updateOwnWrong : ChangeSpec := { name := "updateOwn", fn := fun _ => fun
  | [d1, d2, d3, d4] => { results := [.lit (.bool false)], args := [d1, d2, d3, d4] }
  | _ => none }
def UpdateOwnWrongFalsely : Prop := updateOwnRow.holds Tryz.pinned (OpenSpec.ofChange updateOwnWrong)

/-- 'censuslaw44.UpdateOne': WHATEVER THE INPUT: true; the input reads as it did. -/
def updateOneSpec : ChangeSpec := { name := "updateOne", fn := fun _ => fun
  | [d1, d2] => { results := [.lit (.bool true)], args := [d1, d2] }
  | _ => none }
def updateOneRow : OpenClaim := { program := "ytoljkoifgnmbgaagreatdoor", sum := "3d3116ca8b97c0b7aac35e32f4ed324b52491e99b38caeb0cb4e3bfdb3e1902f", func := "census/censuslaw44.UpdateOne", spec := "updateOne", inPlace := ["internal/bytealg.IndexByteString", "internal/bytealg.IndexString", "internal/abi.NoEscape"], unfollowed := true, recurses := true, named := ["internal/bytealg.MaxLen", "math/bits.deBruijn64tab"], apart := false, laid := [("math/bits.deBruijn64tab", laid_math_bits_deBruijn64tab)] }
def UpdateOneSaid : Prop := updateOneRow.holds Tryz.pinned (OpenSpec.ofChange updateOneSpec)

/-- ITS FALSE NEIGHBOUR: 'it returns false'. Refute it at one input. -/
def updateOneWrong : ChangeSpec := { name := "updateOne", fn := fun _ => fun
  | [d1, d2] => { results := [.lit (.bool false)], args := [d1, d2] }
  | _ => none }
def UpdateOneWrongFalsely : Prop := updateOneRow.holds Tryz.pinned (OpenSpec.ofChange updateOneWrong)

/-- 'censuslaw44.UpdateScratch': WHATEVER THE INPUT: true; the input reads as it did. -/
def updateScratchSpec : ChangeSpec := { name := "updateScratch", fn := fun _ => fun
  | [d1, d2, d3, d4] => { results := [.lit (.bool true)], args := [d1, d2, d3, d4] }
  | _ => none }
def updateScratchRow : OpenClaim := { program := "ytoljkoifgnmbgaagreatdoor", sum := "3d3116ca8b97c0b7aac35e32f4ed324b52491e99b38caeb0cb4e3bfdb3e1902f", func := "census/censuslaw44.UpdateScratch", spec := "updateScratch", inPlace := ["internal/bytealg.IndexByteString", "internal/bytealg.IndexString", "internal/abi.NoEscape"], unfollowed := true, recurses := true, named := ["internal/bytealg.MaxLen", "math/bits.deBruijn64tab"], apart := false, laid := [("math/bits.deBruijn64tab", laid_math_bits_deBruijn64tab)] }
def UpdateScratchSaid : Prop := updateScratchRow.holds Tryz.pinned (OpenSpec.ofChange updateScratchSpec)

/-- ITS FALSE NEIGHBOUR: 'it returns false'. Refute it at one input. -/
def updateScratchWrong : ChangeSpec := { name := "updateScratch", fn := fun _ => fun
  | [d1, d2, d3, d4] => { results := [.lit (.bool false)], args := [d1, d2, d3, d4] }
  | _ => none }
def UpdateScratchWrongFalsely : Prop := updateScratchRow.holds Tryz.pinned (OpenSpec.ofChange updateScratchWrong)

/- THE SECOND FORM. 'bulk': how many values and letters a reading holds, each counted each time it is reached (what is shared counts as often as it is met; a slice's spare places count too). A statement '..UptoSaid' is the law's where the arguments, and the package variables that the reading takes, are together of bulk at most 1048576: NARROWER than '..Said'. Prove '..Said' where nothing that the law and all that it calls make is longer than what came in: it says more and counts as full. Else prove '..UptoSaid'. A law counts once. -/
mutual
def uptoBulk {H : Type} : DataW H → Nat
  | .lit (.string bytes) => bytes.length + 1
  | .lit _ => 1
  | .nil => 1
  | .ptr d => uptoBulk d + 1
  | .slice elems spare => uptoBulkAll elems + uptoBulkAll spare + 1
  | .agg parts => uptoBulkAll parts + 1
  | .iface _ d => uptoBulk d + 1
  | .map entries => uptoBulkEntries entries + 1
  | .held _ => 1
def uptoBulkAll {H : Type} : List (DataW H) → Nat
  | [] => 0
  | d :: r => uptoBulk d + uptoBulkAll r
def uptoBulkEntries {H : Type} : List (Lit × DataW H) → Nat
  | [] => 0
  | x :: r => uptoBulkEntry x + uptoBulkEntries r
def uptoBulkEntry {H : Type} : Lit × DataW H → Nat
  | (.string bytes, d) => bytes.length + uptoBulk d + 1
  | (_, d) => uptoBulk d + 1
 end
def uptoSmall : (H : Type) → List (DataW H) → Bool := fun _ ds => decide (uptoBulkAll ds ≤ 1048576)
def OpenSpec.upto (s : _root_.Go.ChangeSpec) : _root_.Go.OpenSpec := { _root_.Go.OpenSpec.ofChange s with cond := some uptoSmall }

/-- 'censuslaw44.UpdateNews', WHERE WHAT IT READS IS OF BULK AT MOST 1048576: true; the input reads as it did. -/
def updateNewsUptoRow : OpenClaim := { program := "ytoljkoifgnmbgaagreatdoor", sum := "3d3116ca8b97c0b7aac35e32f4ed324b52491e99b38caeb0cb4e3bfdb3e1902f", func := "census/censuslaw44.UpdateNews", spec := "updateNews", inPlace := ["internal/bytealg.IndexByteString", "internal/bytealg.IndexString", "internal/abi.NoEscape"], unfollowed := true, recurses := true, named := ["internal/bytealg.MaxLen", "math/bits.deBruijn64tab"], apart := false, laid := [("math/bits.deBruijn64tab", laid_math_bits_deBruijn64tab)], narrowed := true }
def UpdateNewsUptoSaid : Prop := updateNewsUptoRow.holds Tryz.pinned (OpenSpec.upto updateNewsSpec)

/-- 'censuslaw44.UpdateRuns', WHERE WHAT IT READS IS OF BULK AT MOST 1048576: true; the input reads as it did. -/
def updateRunsUptoRow : OpenClaim := { program := "ytoljkoifgnmbgaagreatdoor", sum := "3d3116ca8b97c0b7aac35e32f4ed324b52491e99b38caeb0cb4e3bfdb3e1902f", func := "census/censuslaw44.UpdateRuns", spec := "updateRuns", inPlace := ["internal/bytealg.IndexByteString", "internal/bytealg.IndexString", "internal/abi.NoEscape"], unfollowed := true, recurses := true, named := ["internal/bytealg.MaxLen", "math/bits.deBruijn64tab"], apart := false, laid := [("math/bits.deBruijn64tab", laid_math_bits_deBruijn64tab)], narrowed := true }
def UpdateRunsUptoSaid : Prop := updateRunsUptoRow.holds Tryz.pinned (OpenSpec.upto updateRunsSpec)

/-- 'censuslaw44.UpdateNil', WHERE WHAT IT READS IS OF BULK AT MOST 1048576: true; the input reads as it did. -/
def updateNilUptoRow : OpenClaim := { program := "ytoljkoifgnmbgaagreatdoor", sum := "3d3116ca8b97c0b7aac35e32f4ed324b52491e99b38caeb0cb4e3bfdb3e1902f", func := "census/censuslaw44.UpdateNil", spec := "updateNil", inPlace := ["internal/bytealg.IndexByteString", "internal/bytealg.IndexString", "internal/abi.NoEscape"], unfollowed := true, recurses := true, named := ["math/bits.deBruijn64tab", "internal/bytealg.MaxLen"], apart := false, laid := [("math/bits.deBruijn64tab", laid_math_bits_deBruijn64tab)], narrowed := true }
def UpdateNilUptoSaid : Prop := updateNilUptoRow.holds Tryz.pinned (OpenSpec.upto updateNilSpec)

/-- 'censuslaw44.UpdateKnown', WHERE WHAT IT READS IS OF BULK AT MOST 1048576: true; the input reads as it did. -/
def updateKnownUptoRow : OpenClaim := { program := "ytoljkoifgnmbgaagreatdoor", sum := "3d3116ca8b97c0b7aac35e32f4ed324b52491e99b38caeb0cb4e3bfdb3e1902f", func := "census/censuslaw44.UpdateKnown", spec := "updateKnown", inPlace := ["internal/bytealg.IndexByteString", "internal/bytealg.IndexString", "internal/abi.NoEscape"], unfollowed := true, recurses := true, named := ["internal/bytealg.MaxLen", "math/bits.deBruijn64tab"], apart := false, laid := [("math/bits.deBruijn64tab", laid_math_bits_deBruijn64tab)], narrowed := true }
def UpdateKnownUptoSaid : Prop := updateKnownUptoRow.holds Tryz.pinned (OpenSpec.upto updateKnownSpec)

/-- 'censuslaw44.UpdateTurned', WHERE WHAT IT READS IS OF BULK AT MOST 1048576: true; the input reads as it did. -/
def updateTurnedUptoRow : OpenClaim := { program := "ytoljkoifgnmbgaagreatdoor", sum := "3d3116ca8b97c0b7aac35e32f4ed324b52491e99b38caeb0cb4e3bfdb3e1902f", func := "census/censuslaw44.UpdateTurned", spec := "updateTurned", inPlace := ["internal/bytealg.IndexByteString", "internal/bytealg.IndexString", "internal/abi.NoEscape"], unfollowed := true, recurses := true, named := ["internal/bytealg.MaxLen", "math/bits.deBruijn64tab"], apart := false, laid := [("math/bits.deBruijn64tab", laid_math_bits_deBruijn64tab)], narrowed := true }
def UpdateTurnedUptoSaid : Prop := updateTurnedUptoRow.holds Tryz.pinned (OpenSpec.upto updateTurnedSpec)

/-- 'censuslaw44.UpdateBack', WHERE WHAT IT READS IS OF BULK AT MOST 1048576: true; the input reads as it did. -/
def updateBackUptoRow : OpenClaim := { program := "ytoljkoifgnmbgaagreatdoor", sum := "3d3116ca8b97c0b7aac35e32f4ed324b52491e99b38caeb0cb4e3bfdb3e1902f", func := "census/censuslaw44.UpdateBack", spec := "updateBack", inPlace := ["internal/bytealg.IndexByteString", "internal/bytealg.IndexString", "internal/abi.NoEscape"], unfollowed := true, recurses := true, named := ["internal/bytealg.MaxLen", "math/bits.deBruijn64tab"], apart := false, laid := [("math/bits.deBruijn64tab", laid_math_bits_deBruijn64tab)], narrowed := true }
def UpdateBackUptoSaid : Prop := updateBackUptoRow.holds Tryz.pinned (OpenSpec.upto updateBackSpec)

/-- 'censuslaw44.UpdateOwn', WHERE WHAT IT READS IS OF BULK AT MOST 1048576: true; the input reads as it did. -/
def updateOwnUptoRow : OpenClaim := { program := "ytoljkoifgnmbgaagreatdoor", sum := "3d3116ca8b97c0b7aac35e32f4ed324b52491e99b38caeb0cb4e3bfdb3e1902f", func := "census/censuslaw44.UpdateOwn", spec := "updateOwn", inPlace := ["internal/bytealg.IndexByteString", "internal/bytealg.IndexString", "internal/abi.NoEscape"], unfollowed := true, recurses := true, named := ["internal/bytealg.MaxLen", "math/bits.deBruijn64tab"], apart := false, laid := [("math/bits.deBruijn64tab", laid_math_bits_deBruijn64tab)], narrowed := true }
def UpdateOwnUptoSaid : Prop := updateOwnUptoRow.holds Tryz.pinned (OpenSpec.upto updateOwnSpec)

/-- 'censuslaw44.UpdateOne', WHERE WHAT IT READS IS OF BULK AT MOST 1048576: true; the input reads as it did. -/
def updateOneUptoRow : OpenClaim := { program := "ytoljkoifgnmbgaagreatdoor", sum := "3d3116ca8b97c0b7aac35e32f4ed324b52491e99b38caeb0cb4e3bfdb3e1902f", func := "census/censuslaw44.UpdateOne", spec := "updateOne", inPlace := ["internal/bytealg.IndexByteString", "internal/bytealg.IndexString", "internal/abi.NoEscape"], unfollowed := true, recurses := true, named := ["internal/bytealg.MaxLen", "math/bits.deBruijn64tab"], apart := false, laid := [("math/bits.deBruijn64tab", laid_math_bits_deBruijn64tab)], narrowed := true }
def UpdateOneUptoSaid : Prop := updateOneUptoRow.holds Tryz.pinned (OpenSpec.upto updateOneSpec)

/-- 'censuslaw44.UpdateScratch', WHERE WHAT IT READS IS OF BULK AT MOST 1048576: true; the input reads as it did. -/
def updateScratchUptoRow : OpenClaim := { program := "ytoljkoifgnmbgaagreatdoor", sum := "3d3116ca8b97c0b7aac35e32f4ed324b52491e99b38caeb0cb4e3bfdb3e1902f", func := "census/censuslaw44.UpdateScratch", spec := "updateScratch", inPlace := ["internal/bytealg.IndexByteString", "internal/bytealg.IndexString", "internal/abi.NoEscape"], unfollowed := true, recurses := true, named := ["internal/bytealg.MaxLen", "math/bits.deBruijn64tab"], apart := false, laid := [("math/bits.deBruijn64tab", laid_math_bits_deBruijn64tab)], narrowed := true }
def UpdateScratchUptoSaid : Prop := updateScratchUptoRow.holds Tryz.pinned (OpenSpec.upto updateScratchSpec)

end Rows
end Go.Proofs.YtoljkoifgnmbgaaGreatDoor
