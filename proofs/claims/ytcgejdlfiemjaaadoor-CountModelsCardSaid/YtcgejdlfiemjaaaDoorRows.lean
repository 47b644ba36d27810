/-
  NARROWER THAN 'FOR EVERY INPUT', by the rows' own cells (each row's printed sentence says how): CountCounts: laid · CountLits: laid · CountCards: laid · CountAdds: laid · CountMore: laid · CountKnown: laid · CountModels: laid.
  DERIVED. THE GIVEN ROWS OF THIS SEAT. 7 by the template 'for every input the law returns true; each argument reads behind the call as it read before'; 0 by the template 'total and deterministic' (their statements: YtcgejdlfiemjaaaDoorTotals.lean).
  GIVEN WITH THE SEED: the statements are not yours to turn. If you find one false, say at which input.
  Laid BY PROGRAM, IN A SANDBOX (cutbox-rows.mjs): the forced cells as the released guide's own fill.sh prints them over the translation fa22d9ee560d069d… (all of the seat's roots in one cut). By AI agents, Wed Nov 11 2026. No macro, syntax, notation, axiom, sorry.
-/
import Derived.Test.YtcgejdlfiemjaaaDoorChecked
import GoSem.Claim
import GoSem.ClaimJoined
import GoSem.ClaimMapViews
import Derived.JoinedTies
import Derived.KernelRfl
namespace Go.Proofs.YtcgejdlfiemjaaaDoor
/- THE CELL 'sum', in the pinned program and in every row, IS THE sha256 OF THE DUMP (.gsa) THAT YtcgejdlfiemjaaaDoorProg.lean LOADS. Nothing in Lean hashes anything: it is a label: what it is worth is what the hold of that sum in a sandbox is worth. -/
noncomputable def Tryd.pinned : Pinned := { name := "ytcgejdlfiemjaaadoor", sum := "fa22d9ee560d069d1f8af57ff57287faa304da163ab578237a8e69cc2bd0af72", checked := Tryd.checked }
namespace Rows
def none {H : Type} : Left H := { results := [], args := [] }

/- WHAT THE LISTED PACKAGE-LEVEL VARIABLES READ AS WHEN THE CALL BEGINS. Each datum BY PROGRAM (the guide's laid-datum.mjs) off the statement by which the dump's own 'gosem.cut.vars' lays the variable. In a bare row this is a premise. The card (YtcgejdlfiemjaaaDoorCards.lean) ties it to the program's text. -/
def laid_math_bits_deBruijn64tab {H : Type} : DataW H := .agg [.lit (.int .u8 0), .lit (.int .u8 1), .lit (.int .u8 56), .lit (.int .u8 2), .lit (.int .u8 57), .lit (.int .u8 49), .lit (.int .u8 28), .lit (.int .u8 3), .lit (.int .u8 61), .lit (.int .u8 58), .lit (.int .u8 42), .lit (.int .u8 50), .lit (.int .u8 38), .lit (.int .u8 29), .lit (.int .u8 17), .lit (.int .u8 4), .lit (.int .u8 62), .lit (.int .u8 47), .lit (.int .u8 59), .lit (.int .u8 36), .lit (.int .u8 45), .lit (.int .u8 43), .lit (.int .u8 51), .lit (.int .u8 22), .lit (.int .u8 53), .lit (.int .u8 39), .lit (.int .u8 33), .lit (.int .u8 30), .lit (.int .u8 24), .lit (.int .u8 18), .lit (.int .u8 12), .lit (.int .u8 5), .lit (.int .u8 63), .lit (.int .u8 55), .lit (.int .u8 48), .lit (.int .u8 27), .lit (.int .u8 60), .lit (.int .u8 41), .lit (.int .u8 37), .lit (.int .u8 16), .lit (.int .u8 46), .lit (.int .u8 35), .lit (.int .u8 44), .lit (.int .u8 21), .lit (.int .u8 52), .lit (.int .u8 32), .lit (.int .u8 23), .lit (.int .u8 11), .lit (.int .u8 54), .lit (.int .u8 26), .lit (.int .u8 40), .lit (.int .u8 15), .lit (.int .u8 34), .lit (.int .u8 20), .lit (.int .u8 31), .lit (.int .u8 10), .lit (.int .u8 25), .lit (.int .u8 14), .lit (.int .u8 19), .lit (.int .u8 9), .lit (.int .u8 13), .lit (.int .u8 8), .lit (.int .u8 7), .lit (.int .u8 6)]

/-- 'censuslaw32.CountCounts': WHATEVER THE INPUT: true; the input reads as it did. -/
def countCountsSpec : ChangeSpec := { name := "countCounts", fn := fun _ => fun
  | [d] => { results := [.lit (.bool true)], args := [d] }
  | _ => none }
def countCountsRow : OpenClaim := { program := "ytcgejdlfiemjaaadoor", sum := "fa22d9ee560d069d1f8af57ff57287faa304da163ab578237a8e69cc2bd0af72", func := "census/censuslaw32.CountCounts", spec := "countCounts", inPlace := ["internal/abi.NoEscape"], unfollowed := true, recurses := true, named := ["math/bits.deBruijn64tab"], apart := false, laid := [("math/bits.deBruijn64tab", laid_math_bits_deBruijn64tab)] }
def CountCountsSaid : Prop := countCountsRow.holds Tryd.pinned (OpenSpec.ofChange countCountsSpec)

/-- ITS FALSE NEIGHBOUR: 'it returns false'. Refute it at one input. -/
def countCountsWrong : ChangeSpec := { name := "countCounts", fn := fun _ => fun
  | [d] => { results := [.lit (.bool false)], args := [d] }
  | _ => none }
def CountCountsWrongFalsely : Prop := countCountsRow.holds Tryd.pinned (OpenSpec.ofChange countCountsWrong)

/-- 'censuslaw32.CountLits': WHATEVER THE INPUT: true; the input reads as it did. -/
def countLitsSpec : ChangeSpec := { name := "countLits", fn := fun _ => fun
  | [d] => { results := [.lit (.bool true)], args := [d] }
  | _ => none }
def countLitsRow : OpenClaim := { program := "ytcgejdlfiemjaaadoor", sum := "fa22d9ee560d069d1f8af57ff57287faa304da163ab578237a8e69cc2bd0af72", func := "census/censuslaw32.CountLits", spec := "countLits", inPlace := ["internal/abi.NoEscape"], unfollowed := true, recurses := true, named := ["math/bits.deBruijn64tab"], apart := false, laid := [("math/bits.deBruijn64tab", laid_math_bits_deBruijn64tab)] }
def CountLitsSaid : Prop := countLitsRow.holds Tryd.pinned (OpenSpec.ofChange countLitsSpec)

/-- ITS FALSE NEIGHBOUR: 'it returns false'. Refute it at one input. -/
def countLitsWrong : ChangeSpec := { name := "countLits", fn := fun _ => fun
  | [d] => { results := [.lit (.bool false)], args := [d] }
  | _ => none }
def CountLitsWrongFalsely : Prop := countLitsRow.holds Tryd.pinned (OpenSpec.ofChange countLitsWrong)

/-- 'censuslaw32.CountCards': WHATEVER THE INPUT: true; the input reads as it did. -/
def countCardsSpec : ChangeSpec := { name := "countCards", fn := fun _ => fun
  | [d] => { results := [.lit (.bool true)], args := [d] }
  | _ => none }
def countCardsRow : OpenClaim := { program := "ytcgejdlfiemjaaadoor", sum := "fa22d9ee560d069d1f8af57ff57287faa304da163ab578237a8e69cc2bd0af72", func := "census/censuslaw32.CountCards", spec := "countCards", inPlace := ["internal/abi.NoEscape"], unfollowed := true, recurses := true, named := ["math/bits.deBruijn64tab"], apart := false, laid := [("math/bits.deBruijn64tab", laid_math_bits_deBruijn64tab)] }
def CountCardsSaid : Prop := countCardsRow.holds Tryd.pinned (OpenSpec.ofChange countCardsSpec)

/-- ITS FALSE NEIGHBOUR: 'it returns false'. Refute it at one input. -/
def countCardsWrong : ChangeSpec := { name := "countCards", fn := fun _ => fun
  | [d] => { results := [.lit (.bool false)], args := [d] }
  | _ => none }
def CountCardsWrongFalsely : Prop := countCardsRow.holds Tryd.pinned (OpenSpec.ofChange countCardsWrong)

/-- 'censuslaw32.CountAdds': WHATEVER THE INPUT: true; the input reads as it did. -/
def countAddsSpec : ChangeSpec := { name := "countAdds", fn := fun _ => fun
  | [d] => { results := [.lit (.bool true)], args := [d] }
  | _ => none }
def countAddsRow : OpenClaim := { program := "ytcgejdlfiemjaaadoor", sum := "fa22d9ee560d069d1f8af57ff57287faa304da163ab578237a8e69cc2bd0af72", func := "census/censuslaw32.CountAdds", spec := "countAdds", inPlace := ["internal/abi.NoEscape"], unfollowed := true, recurses := true, named := ["math/bits.deBruijn64tab"], apart := false, laid := [("math/bits.deBruijn64tab", laid_math_bits_deBruijn64tab)] }
def CountAddsSaid : Prop := countAddsRow.holds Tryd.pinned (OpenSpec.ofChange countAddsSpec)

/-- ITS FALSE NEIGHBOUR: 'it returns false'. Refute it at one input. -/
def countAddsWrong : ChangeSpec := { name := "countAdds", fn := fun _ => fun
  | [d] => { results := [.lit (.bool false)], args := [d] }
  | _ => none }
def CountAddsWrongFalsely : Prop := countAddsRow.holds Tryd.pinned (OpenSpec.ofChange countAddsWrong)

/-- 'censuslaw32.CountMore': WHATEVER THE INPUT: true; the input reads as it did. -/
def countMoreSpec : ChangeSpec := { name := "countMore", fn := fun _ => fun
  | [d] => { results := [.lit (.bool true)], args := [d] }
  | _ => none }
def countMoreRow : OpenClaim := { program := "ytcgejdlfiemjaaadoor", sum := "fa22d9ee560d069d1f8af57ff57287faa304da163ab578237a8e69cc2bd0af72", func := "census/censuslaw32.CountMore", spec := "countMore", inPlace := ["internal/abi.NoEscape"], unfollowed := true, recurses := true, named := ["math/bits.deBruijn64tab"], apart := false, laid := [("math/bits.deBruijn64tab", laid_math_bits_deBruijn64tab)] }
def CountMoreSaid : Prop := countMoreRow.holds Tryd.pinned (OpenSpec.ofChange countMoreSpec)

/-- ITS FALSE NEIGHBOUR: 'it returns false'. Refute it at one input. -/
def countMoreWrong : ChangeSpec := { name := "countMore", fn := fun _ => fun
  | [d] => { results := [.lit (.bool false)], args := [d] }
  | _ => none }
def CountMoreWrongFalsely : Prop := countMoreRow.holds Tryd.pinned (OpenSpec.ofChange countMoreWrong)

/-- 'censuslaw32.CountKnown': WHATEVER THE INPUT: true; the input reads as it did. -/
def countKnownSpec : ChangeSpec := { name := "countKnown", fn := fun _ => fun
  | [] => { results := [.lit (.bool true)], args := [] }
  | _ => none }
def countKnownRow : OpenClaim := { program := "ytcgejdlfiemjaaadoor", sum := "fa22d9ee560d069d1f8af57ff57287faa304da163ab578237a8e69cc2bd0af72", func := "census/censuslaw32.CountKnown", spec := "countKnown", inPlace := ["internal/abi.NoEscape"], unfollowed := true, recurses := true, named := ["math/bits.deBruijn64tab"], apart := false, laid := [("math/bits.deBruijn64tab", laid_math_bits_deBruijn64tab)] }
def CountKnownSaid : Prop := countKnownRow.holds Tryd.pinned (OpenSpec.ofChange countKnownSpec)

/-- ITS FALSE NEIGHBOUR: 'it returns false'. Refute it at one input. -/
def countKnownWrong : ChangeSpec := { name := "countKnown", fn := fun _ => fun
  | [] => { results := [.lit (.bool false)], args := [] }
  | _ => none }
def CountKnownWrongFalsely : Prop := countKnownRow.holds Tryd.pinned (OpenSpec.ofChange countKnownWrong)

/-- 'censuslaw32.CountModels': WHATEVER THE INPUT: true; the input reads as it did. -/
def countModelsSpec : ChangeSpec := { name := "countModels", fn := fun _ => fun
  | [d] => { results := [.lit (.bool true)], args := [d] }
  | _ => none }
def countModelsRow : OpenClaim := { program := "ytcgejdlfiemjaaadoor", sum := "fa22d9ee560d069d1f8af57ff57287faa304da163ab578237a8e69cc2bd0af72", func := "census/censuslaw32.CountModels", spec := "countModels", inPlace := ["internal/abi.NoEscape"], unfollowed := true, recurses := true, named := ["math/bits.deBruijn64tab"], apart := false, laid := [("math/bits.deBruijn64tab", laid_math_bits_deBruijn64tab)] }
def CountModelsSaid : Prop := countModelsRow.holds Tryd.pinned (OpenSpec.ofChange countModelsSpec)

/-- ITS FALSE NEIGHBOUR: 'it returns false'. Refute it at one input. -/
def countModelsWrong : ChangeSpec := { name := "countModels", fn := fun _ => fun
  | [d] => { results := [.lit (.bool false)], args := [d] }
  | _ => none }
def CountModelsWrongFalsely : Prop := countModelsRow.holds Tryd.pinned (OpenSpec.ofChange countModelsWrong)

/- THE SECOND FORM. 'bulk': how many values and letters a reading holds, each counted each time it is reached (what is shared counts as often as it is met; a slice's spare places count too). A statement '..UptoSaid' is the law's where the arguments, and the package variables that the reading takes, are together of bulk at most 1048576: NARROWER than '..Said'. Prove '..Said' where nothing that the law and all that it calls make is longer than what came in: it says more and counts as full. Else prove '..UptoSaid'. A law counts once. -/
mutual
def uptoBulk {H : Type} : DataW H → Nat
  | .lit (.string bytes) => bytes.length + 1
  | .lit _ => 1
  | .nil => 1
  | .ptr d => uptoBulk d + 1
  | .slice elems spare => uptoBulkAll elems + uptoBulkAll spare + 1
  | .agg parts => uptoBulkAll parts + 1
  | .iface _ d => uptoBulk d + 1
  | .map entries => uptoBulkEntries entries + 1
  | .held _ => 1
def uptoBulkAll {H : Type} : List (DataW H) → Nat
  | [] => 0
  | d :: r => uptoBulk d + uptoBulkAll r
def uptoBulkEntries {H : Type} : List (Lit × DataW H) → Nat
  | [] => 0
  | x :: r => uptoBulkEntry x + uptoBulkEntries r
def uptoBulkEntry {H : Type} : Lit × DataW H → Nat
  | (.string bytes, d) => bytes.length + uptoBulk d + 1
  | (_, d) => uptoBulk d + 1
 end
def uptoSmall : (H : Type) → List (DataW H) → Bool := fun _ ds => decide (uptoBulkAll ds ≤ 1048576)
def OpenSpec.upto (s : _root_.Go.ChangeSpec) : _root_.Go.OpenSpec := { _root_.Go.OpenSpec.ofChange s with cond := some uptoSmall }

/-- 'censuslaw32.CountCounts', WHERE WHAT IT READS IS OF BULK AT MOST 1048576: true; the input reads as it did. -/
def countCountsUptoRow : OpenClaim := { program := "ytcgejdlfiemjaaadoor", sum := "fa22d9ee560d069d1f8af57ff57287faa304da163ab578237a8e69cc2bd0af72", func := "census/censuslaw32.CountCounts", spec := "countCounts", inPlace := ["internal/abi.NoEscape"], unfollowed := true, recurses := true, named := ["math/bits.deBruijn64tab"], apart := false, laid := [("math/bits.deBruijn64tab", laid_math_bits_deBruijn64tab)], narrowed := true }
def CountCountsUptoSaid : Prop := countCountsUptoRow.holds Tryd.pinned (OpenSpec.upto countCountsSpec)

/-- 'censuslaw32.CountLits', WHERE WHAT IT READS IS OF BULK AT MOST 1048576: true; the input reads as it did. -/
def countLitsUptoRow : OpenClaim := { program := "ytcgejdlfiemjaaadoor", sum := "fa22d9ee560d069d1f8af57ff57287faa304da163ab578237a8e69cc2bd0af72", func := "census/censuslaw32.CountLits", spec := "countLits", inPlace := ["internal/abi.NoEscape"], unfollowed := true, recurses := true, named := ["math/bits.deBruijn64tab"], apart := false, laid := [("math/bits.deBruijn64tab", laid_math_bits_deBruijn64tab)], narrowed := true }
def CountLitsUptoSaid : Prop := countLitsUptoRow.holds Tryd.pinned (OpenSpec.upto countLitsSpec)

/-- 'censuslaw32.CountCards', WHERE WHAT IT READS IS OF BULK AT MOST 1048576: true; the input reads as it did. -/
def countCardsUptoRow : OpenClaim := { program := "ytcgejdlfiemjaaadoor", sum := "fa22d9ee560d069d1f8af57ff57287faa304da163ab578237a8e69cc2bd0af72", func := "census/censuslaw32.CountCards", spec := "countCards", inPlace := ["internal/abi.NoEscape"], unfollowed := true, recurses := true, named := ["math/bits.deBruijn64tab"], apart := false, laid := [("math/bits.deBruijn64tab", laid_math_bits_deBruijn64tab)], narrowed := true }
def CountCardsUptoSaid : Prop := countCardsUptoRow.holds Tryd.pinned (OpenSpec.upto countCardsSpec)

/-- 'censuslaw32.CountAdds', WHERE WHAT IT READS IS OF BULK AT MOST 1048576: true; the input reads as it did. -/
def countAddsUptoRow : OpenClaim := { program := "ytcgejdlfiemjaaadoor", sum := "fa22d9ee560d069d1f8af57ff57287faa304da163ab578237a8e69cc2bd0af72", func := "census/censuslaw32.CountAdds", spec := "countAdds", inPlace := ["internal/abi.NoEscape"], unfollowed := true, recurses := true, named := ["math/bits.deBruijn64tab"], apart := false, laid := [("math/bits.deBruijn64tab", laid_math_bits_deBruijn64tab)], narrowed := true }
def CountAddsUptoSaid : Prop := countAddsUptoRow.holds Tryd.pinned (OpenSpec.upto countAddsSpec)

/-- 'censuslaw32.CountMore', WHERE WHAT IT READS IS OF BULK AT MOST 1048576: true; the input reads as it did. -/
def countMoreUptoRow : OpenClaim := { program := "ytcgejdlfiemjaaadoor", sum := "fa22d9ee560d069d1f8af57ff57287faa304da163ab578237a8e69cc2bd0af72", func := "census/censuslaw32.CountMore", spec := "countMore", inPlace := ["internal/abi.NoEscape"], unfollowed := true, recurses := true, named := ["math/bits.deBruijn64tab"], apart := false, laid := [("math/bits.deBruijn64tab", laid_math_bits_deBruijn64tab)], narrowed := true }
def CountMoreUptoSaid : Prop := countMoreUptoRow.holds Tryd.pinned (OpenSpec.upto countMoreSpec)

/-- 'censuslaw32.CountKnown', WHERE WHAT IT READS IS OF BULK AT MOST 1048576: true; the input reads as it did. -/
def countKnownUptoRow : OpenClaim := { program := "ytcgejdlfiemjaaadoor", sum := "fa22d9ee560d069d1f8af57ff57287faa304da163ab578237a8e69cc2bd0af72", func := "census/censuslaw32.CountKnown", spec := "countKnown", inPlace := ["internal/abi.NoEscape"], unfollowed := true, recurses := true, named := ["math/bits.deBruijn64tab"], apart := false, laid := [("math/bits.deBruijn64tab", laid_math_bits_deBruijn64tab)], narrowed := true }
def CountKnownUptoSaid : Prop := countKnownUptoRow.holds Tryd.pinned (OpenSpec.upto countKnownSpec)

/-- 'censuslaw32.CountModels', WHERE WHAT IT READS IS OF BULK AT MOST 1048576: true; the input reads as it did. -/
def countModelsUptoRow : OpenClaim := { program := "ytcgejdlfiemjaaadoor", sum := "fa22d9ee560d069d1f8af57ff57287faa304da163ab578237a8e69cc2bd0af72", func := "census/censuslaw32.CountModels", spec := "countModels", inPlace := ["internal/abi.NoEscape"], unfollowed := true, recurses := true, named := ["math/bits.deBruijn64tab"], apart := false, laid := [("math/bits.deBruijn64tab", laid_math_bits_deBruijn64tab)], narrowed := true }
def CountModelsUptoSaid : Prop := countModelsUptoRow.holds Tryd.pinned (OpenSpec.upto countModelsSpec)

end Rows
end Go.Proofs.YtcgejdlfiemjaaaDoor
