/-
  NARROWER THAN 'FOR EVERY INPUT', by the rows' own cells (each row's printed sentence says how): WeighTotals: laid · WeighLits: laid · WeighShares: laid · WeighAdds: laid · WeighFactors: laid · WeighLimits: laid · WeighErrors: laid · WeighKnown: laid · WeighCounts: laid · WeighModels: laid · WeighParts: laid.
  DERIVED. THE GIVEN ROWS OF THIS SEAT. 11 by the template 'for every input the law returns true; each argument reads behind the call as it read before'; 0 by the template 'total and deterministic' (their statements: YtmhllppjcilllaaGreatDoorTotals.lean).
  GIVEN WITH THE SEED: the statements are not yours to turn. If you find one false, say at which input.
  Laid BY PROGRAM, IN A SANDBOX (cutbox-rows.mjs): the forced cells as the released guide's own fill.sh prints them over the translation f5d72acc93620bc4… (all of the seat's roots in one cut). By AI agents, Wed Nov 11 2026. No macro, syntax, notation, axiom, sorry.
-/
import Derived.Test.YtmhllppjcilllaaGreatDoorChecked
import GoSem.Claim
import GoSem.ClaimJoined
import GoSem.ClaimMapViews
import Derived.JoinedTies
import Derived.KernelRfl
namespace Go.Proofs.YtmhllppjcilllaaGreatDoor
/- THE CELL 'sum', in the pinned program and in every row, IS THE sha256 OF THE DUMP (.gsa) THAT YtmhllppjcilllaaGreatDoorProg.lean LOADS. Nothing in Lean hashes anything: it is a label: what it is worth is what the hold of that sum in a sandbox is worth. -/
noncomputable def Tryz.pinned : Pinned := { name := "ytmhllppjcilllaagreatdoor", sum := "f5d72acc93620bc4c6d3fd8a81b973a1f1042b6d4077fcf9b22030a861cb4fab", checked := Tryz.checked }
namespace Rows
def none {H : Type} : Left H := { results := [], args := [] }

/- WHAT THE LISTED PACKAGE-LEVEL VARIABLES READ AS WHEN THE CALL BEGINS. Each datum BY PROGRAM (the guide's laid-datum.mjs) off the statement by which the dump's own 'gosem.cut.vars' lays the variable. In a bare row this is a premise. The card (YtmhllppjcilllaaGreatDoorCards.lean) ties it to the program's text. -/
def laid_math_bits_deBruijn64tab {H : Type} : DataW H := .agg [.lit (.int .u8 0), .lit (.int .u8 1), .lit (.int .u8 56), .lit (.int .u8 2), .lit (.int .u8 57), .lit (.int .u8 49), .lit (.int .u8 28), .lit (.int .u8 3), .lit (.int .u8 61), .lit (.int .u8 58), .lit (.int .u8 42), .lit (.int .u8 50), .lit (.int .u8 38), .lit (.int .u8 29), .lit (.int .u8 17), .lit (.int .u8 4), .lit (.int .u8 62), .lit (.int .u8 47), .lit (.int .u8 59), .lit (.int .u8 36), .lit (.int .u8 45), .lit (.int .u8 43), .lit (.int .u8 51), .lit (.int .u8 22), .lit (.int .u8 53), .lit (.int .u8 39), .lit (.int .u8 33), .lit (.int .u8 30), .lit (.int .u8 24), .lit (.int .u8 18), .lit (.int .u8 12), .lit (.int .u8 5), .lit (.int .u8 63), .lit (.int .u8 55), .lit (.int .u8 48), .lit (.int .u8 27), .lit (.int .u8 60), .lit (.int .u8 41), .lit (.int .u8 37), .lit (.int .u8 16), .lit (.int .u8 46), .lit (.int .u8 35), .lit (.int .u8 44), .lit (.int .u8 21), .lit (.int .u8 52), .lit (.int .u8 32), .lit (.int .u8 23), .lit (.int .u8 11), .lit (.int .u8 54), .lit (.int .u8 26), .lit (.int .u8 40), .lit (.int .u8 15), .lit (.int .u8 34), .lit (.int .u8 20), .lit (.int .u8 31), .lit (.int .u8 10), .lit (.int .u8 25), .lit (.int .u8 14), .lit (.int .u8 19), .lit (.int .u8 9), .lit (.int .u8 13), .lit (.int .u8 8), .lit (.int .u8 7), .lit (.int .u8 6)]
def laid_census_shape_patterns {H : Type} : DataW H := .agg [.lit (.int .u64 12297829382473034410), .lit (.int .u64 14757395258967641292), .lit (.int .u64 17361641481138401520), .lit (.int .u64 18374966859414961920), .lit (.int .u64 18446462603027742720), .lit (.int .u64 18446744069414584320)]

/-- 'censuslaw33.WeighTotals': WHATEVER THE INPUT: true; the input reads as it did. -/
def weighTotalsSpec : ChangeSpec := { name := "weighTotals", fn := fun _ => fun
  | [d] => { results := [.lit (.bool true)], args := [d] }
  | _ => none }
def weighTotalsRow : OpenClaim := { program := "ytmhllppjcilllaagreatdoor", sum := "f5d72acc93620bc4c6d3fd8a81b973a1f1042b6d4077fcf9b22030a861cb4fab", func := "census/censuslaw33.WeighTotals", spec := "weighTotals", inPlace := ["internal/abi.NoEscape"], unfollowed := true, recurses := true, named := ["math/bits.deBruijn64tab"], apart := false, laid := [("math/bits.deBruijn64tab", laid_math_bits_deBruijn64tab)] }
def WeighTotalsSaid : Prop := weighTotalsRow.holds Tryz.pinned (OpenSpec.ofChange weighTotalsSpec)

/-- ITS FALSE NEIGHBOUR: 'it returns false'. Refute it at one input. -/
def weighTotalsWrong : ChangeSpec := { name := "weighTotals", fn := fun _ => fun
  | [d] => { results := [.lit (.bool false)], args := [d] }
  | _ => none }
def WeighTotalsWrongFalsely : Prop := weighTotalsRow.holds Tryz.pinned (OpenSpec.ofChange weighTotalsWrong)

/-- 'censuslaw33.WeighLits': WHATEVER THE INPUT: true; the input reads as it did. -/
def weighLitsSpec : ChangeSpec := { name := "weighLits", fn := fun _ => fun
  | [d] => { results := [.lit (.bool true)], args := [d] }
  | _ => none }
def weighLitsRow : OpenClaim := { program := "ytmhllppjcilllaagreatdoor", sum := "f5d72acc93620bc4c6d3fd8a81b973a1f1042b6d4077fcf9b22030a861cb4fab", func := "census/censuslaw33.WeighLits", spec := "weighLits", inPlace := ["internal/abi.NoEscape"], unfollowed := true, recurses := true, named := ["math/bits.deBruijn64tab"], apart := false, laid := [("math/bits.deBruijn64tab", laid_math_bits_deBruijn64tab)] }
def WeighLitsSaid : Prop := weighLitsRow.holds Tryz.pinned (OpenSpec.ofChange weighLitsSpec)

/-- ITS FALSE NEIGHBOUR: 'it returns false'. Refute it at one input. -/
def weighLitsWrong : ChangeSpec := { name := "weighLits", fn := fun _ => fun
  | [d] => { results := [.lit (.bool false)], args := [d] }
  | _ => none }
def WeighLitsWrongFalsely : Prop := weighLitsRow.holds Tryz.pinned (OpenSpec.ofChange weighLitsWrong)

/-- 'censuslaw33.WeighShares': WHATEVER THE INPUT: true; the input reads as it did. -/
def weighSharesSpec : ChangeSpec := { name := "weighShares", fn := fun _ => fun
  | [d] => { results := [.lit (.bool true)], args := [d] }
  | _ => none }
def weighSharesRow : OpenClaim := { program := "ytmhllppjcilllaagreatdoor", sum := "f5d72acc93620bc4c6d3fd8a81b973a1f1042b6d4077fcf9b22030a861cb4fab", func := "census/censuslaw33.WeighShares", spec := "weighShares", inPlace := ["internal/abi.NoEscape"], unfollowed := true, recurses := true, named := ["math/bits.deBruijn64tab"], apart := false, laid := [("math/bits.deBruijn64tab", laid_math_bits_deBruijn64tab)] }
def WeighSharesSaid : Prop := weighSharesRow.holds Tryz.pinned (OpenSpec.ofChange weighSharesSpec)

/-- ITS FALSE NEIGHBOUR: 'it returns false'. Refute it at one input. -/
def weighSharesWrong : ChangeSpec := { name := "weighShares", fn := fun _ => fun
  | [d] => { results := [.lit (.bool false)], args := [d] }
  | _ => none }
def WeighSharesWrongFalsely : Prop := weighSharesRow.holds Tryz.pinned (OpenSpec.ofChange weighSharesWrong)

/-- 'censuslaw33.WeighAdds': WHATEVER THE INPUT: true; the input reads as it did. -/
def weighAddsSpec : ChangeSpec := { name := "weighAdds", fn := fun _ => fun
  | [d1, d2, d3, d4] => { results := [.lit (.bool true)], args := [d1, d2, d3, d4] }
  | _ => none }
def weighAddsRow : OpenClaim := { program := "ytmhllppjcilllaagreatdoor", sum := "f5d72acc93620bc4c6d3fd8a81b973a1f1042b6d4077fcf9b22030a861cb4fab", func := "census/censuslaw33.WeighAdds", spec := "weighAdds", inPlace := ["internal/abi.NoEscape"], unfollowed := true, recurses := true, named := ["math/bits.deBruijn64tab"], apart := false, laid := [("math/bits.deBruijn64tab", laid_math_bits_deBruijn64tab)] }
def WeighAddsSaid : Prop := weighAddsRow.holds Tryz.pinned (OpenSpec.ofChange weighAddsSpec)

/-- ITS FALSE NEIGHBOUR: 'it returns false'. Refute it at one input. -/
def weighAddsWrong : ChangeSpec := { name := "weighAdds", fn := fun _ => fun
  | [d1, d2, d3, d4] => { results := [.lit (.bool false)], args := [d1, d2, d3, d4] }
  | _ => none }
def WeighAddsWrongFalsely : Prop := weighAddsRow.holds Tryz.pinned (OpenSpec.ofChange weighAddsWrong)

/-- 'censuslaw33.WeighFactors': WHATEVER THE INPUT: true; the input reads as it did. -/
def weighFactorsSpec : ChangeSpec := { name := "weighFactors", fn := fun _ => fun
  | [d1, d2, d3, d4] => { results := [.lit (.bool true)], args := [d1, d2, d3, d4] }
  | _ => none }
def weighFactorsRow : OpenClaim := { program := "ytmhllppjcilllaagreatdoor", sum := "f5d72acc93620bc4c6d3fd8a81b973a1f1042b6d4077fcf9b22030a861cb4fab", func := "census/censuslaw33.WeighFactors", spec := "weighFactors", inPlace := ["internal/abi.NoEscape"], unfollowed := true, recurses := true, named := ["math/bits.deBruijn64tab"], apart := false, laid := [("math/bits.deBruijn64tab", laid_math_bits_deBruijn64tab)] }
def WeighFactorsSaid : Prop := weighFactorsRow.holds Tryz.pinned (OpenSpec.ofChange weighFactorsSpec)

/-- ITS FALSE NEIGHBOUR: 'it returns false'. Refute it at one input. -/
def weighFactorsWrong : ChangeSpec := { name := "weighFactors", fn := fun _ => fun
  | [d1, d2, d3, d4] => { results := [.lit (.bool false)], args := [d1, d2, d3, d4] }
  | _ => none }
def WeighFactorsWrongFalsely : Prop := weighFactorsRow.holds Tryz.pinned (OpenSpec.ofChange weighFactorsWrong)

/-- 'censuslaw33.WeighLimits': WHATEVER THE INPUT: true; the input reads as it did. -/
def weighLimitsSpec : ChangeSpec := { name := "weighLimits", fn := fun _ => fun
  | [d1, d2] => { results := [.lit (.bool true)], args := [d1, d2] }
  | _ => none }
def weighLimitsRow : OpenClaim := { program := "ytmhllppjcilllaagreatdoor", sum := "f5d72acc93620bc4c6d3fd8a81b973a1f1042b6d4077fcf9b22030a861cb4fab", func := "census/censuslaw33.WeighLimits", spec := "weighLimits", inPlace := ["internal/abi.NoEscape"], unfollowed := true, recurses := true, named := ["math/bits.deBruijn64tab"], apart := false, laid := [("math/bits.deBruijn64tab", laid_math_bits_deBruijn64tab)] }
def WeighLimitsSaid : Prop := weighLimitsRow.holds Tryz.pinned (OpenSpec.ofChange weighLimitsSpec)

/-- ITS FALSE NEIGHBOUR: 'it returns false'. Refute it at one input. -/
def weighLimitsWrong : ChangeSpec := { name := "weighLimits", fn := fun _ => fun
  | [d1, d2] => { results := [.lit (.bool false)], args := [d1, d2] }
  | _ => none }
def WeighLimitsWrongFalsely : Prop := weighLimitsRow.holds Tryz.pinned (OpenSpec.ofChange weighLimitsWrong)

/-- 'censuslaw33.WeighErrors': WHATEVER THE INPUT: true; the input reads as it did. -/
def weighErrorsSpec : ChangeSpec := { name := "weighErrors", fn := fun _ => fun
  | [d1, d2, d3, d4] => { results := [.lit (.bool true)], args := [d1, d2, d3, d4] }
  | _ => none }
def weighErrorsRow : OpenClaim := { program := "ytmhllppjcilllaagreatdoor", sum := "f5d72acc93620bc4c6d3fd8a81b973a1f1042b6d4077fcf9b22030a861cb4fab", func := "census/censuslaw33.WeighErrors", spec := "weighErrors", inPlace := ["internal/abi.NoEscape"], unfollowed := true, recurses := true, named := ["math/bits.deBruijn64tab"], apart := false, laid := [("math/bits.deBruijn64tab", laid_math_bits_deBruijn64tab)] }
def WeighErrorsSaid : Prop := weighErrorsRow.holds Tryz.pinned (OpenSpec.ofChange weighErrorsSpec)

/-- ITS FALSE NEIGHBOUR: 'it returns false'. Refute it at one input. -/
def weighErrorsWrong : ChangeSpec := { name := "weighErrors", fn := fun _ => fun
  | [d1, d2, d3, d4] => { results := [.lit (.bool false)], args := [d1, d2, d3, d4] }
  | _ => none }
def WeighErrorsWrongFalsely : Prop := weighErrorsRow.holds Tryz.pinned (OpenSpec.ofChange weighErrorsWrong)

/-- 'censuslaw33.WeighKnown': WHATEVER THE INPUT: true; the input reads as it did. -/
def weighKnownSpec : ChangeSpec := { name := "weighKnown", fn := fun _ => fun
  | [] => { results := [.lit (.bool true)], args := [] }
  | _ => none }
def weighKnownRow : OpenClaim := { program := "ytmhllppjcilllaagreatdoor", sum := "f5d72acc93620bc4c6d3fd8a81b973a1f1042b6d4077fcf9b22030a861cb4fab", func := "census/censuslaw33.WeighKnown", spec := "weighKnown", inPlace := ["internal/abi.NoEscape"], unfollowed := true, recurses := true, named := ["math/bits.deBruijn64tab"], apart := false, laid := [("math/bits.deBruijn64tab", laid_math_bits_deBruijn64tab)] }
def WeighKnownSaid : Prop := weighKnownRow.holds Tryz.pinned (OpenSpec.ofChange weighKnownSpec)

/-- ITS FALSE NEIGHBOUR: 'it returns false'. Refute it at one input. -/
def weighKnownWrong : ChangeSpec := { name := "weighKnown", fn := fun _ => fun
  | [] => { results := [.lit (.bool false)], args := [] }
  | _ => none }
def WeighKnownWrongFalsely : Prop := weighKnownRow.holds Tryz.pinned (OpenSpec.ofChange weighKnownWrong)

/-- 'censuslaw33.WeighCounts': WHATEVER THE INPUT: true; the input reads as it did. -/
def weighCountsSpec : ChangeSpec := { name := "weighCounts", fn := fun _ => fun
  | [d] => { results := [.lit (.bool true)], args := [d] }
  | _ => none }
def weighCountsRow : OpenClaim := { program := "ytmhllppjcilllaagreatdoor", sum := "f5d72acc93620bc4c6d3fd8a81b973a1f1042b6d4077fcf9b22030a861cb4fab", func := "census/censuslaw33.WeighCounts", spec := "weighCounts", inPlace := ["internal/abi.NoEscape"], unfollowed := true, recurses := true, named := ["math/bits.deBruijn64tab"], apart := false, laid := [("math/bits.deBruijn64tab", laid_math_bits_deBruijn64tab)] }
def WeighCountsSaid : Prop := weighCountsRow.holds Tryz.pinned (OpenSpec.ofChange weighCountsSpec)

/-- ITS FALSE NEIGHBOUR: 'it returns false'. Refute it at one input. -/
def weighCountsWrong : ChangeSpec := { name := "weighCounts", fn := fun _ => fun
  | [d] => { results := [.lit (.bool false)], args := [d] }
  | _ => none }
def WeighCountsWrongFalsely : Prop := weighCountsRow.holds Tryz.pinned (OpenSpec.ofChange weighCountsWrong)

/-- 'censuslaw33.WeighModels': WHATEVER THE INPUT: true; the input reads as it did. -/
def weighModelsSpec : ChangeSpec := { name := "weighModels", fn := fun _ => fun
  | [d] => { results := [.lit (.bool true)], args := [d] }
  | _ => none }
def weighModelsRow : OpenClaim := { program := "ytmhllppjcilllaagreatdoor", sum := "f5d72acc93620bc4c6d3fd8a81b973a1f1042b6d4077fcf9b22030a861cb4fab", func := "census/censuslaw33.WeighModels", spec := "weighModels", inPlace := ["internal/abi.NoEscape"], unfollowed := true, recurses := true, named := ["census/shape.patterns", "math/bits.deBruijn64tab"], apart := false, laid := [("math/bits.deBruijn64tab", laid_math_bits_deBruijn64tab), ("census/shape.patterns", laid_census_shape_patterns)] }
def WeighModelsSaid : Prop := weighModelsRow.holds Tryz.pinned (OpenSpec.ofChange weighModelsSpec)

/-- ITS FALSE NEIGHBOUR: 'it returns false'. Refute it at one input. -/
def weighModelsWrong : ChangeSpec := { name := "weighModels", fn := fun _ => fun
  | [d] => { results := [.lit (.bool false)], args := [d] }
  | _ => none }
def WeighModelsWrongFalsely : Prop := weighModelsRow.holds Tryz.pinned (OpenSpec.ofChange weighModelsWrong)

/-- 'censuslaw33.WeighParts': WHATEVER THE INPUT: true; the input reads as it did. -/
def weighPartsSpec : ChangeSpec := { name := "weighParts", fn := fun _ => fun
  | [d1, d2, d3] => { results := [.lit (.bool true)], args := [d1, d2, d3] }
  | _ => none }
def weighPartsRow : OpenClaim := { program := "ytmhllppjcilllaagreatdoor", sum := "f5d72acc93620bc4c6d3fd8a81b973a1f1042b6d4077fcf9b22030a861cb4fab", func := "census/censuslaw33.WeighParts", spec := "weighParts", inPlace := ["internal/abi.NoEscape"], unfollowed := true, recurses := true, named := ["census/shape.patterns", "math/bits.deBruijn64tab"], apart := false, laid := [("math/bits.deBruijn64tab", laid_math_bits_deBruijn64tab), ("census/shape.patterns", laid_census_shape_patterns)] }
def WeighPartsSaid : Prop := weighPartsRow.holds Tryz.pinned (OpenSpec.ofChange weighPartsSpec)

/-- ITS FALSE NEIGHBOUR: 'it returns false'. Refute it at one input. -/
def weighPartsWrong : ChangeSpec := { name := "weighParts", fn := fun _ => fun
  | [d1, d2, d3] => { results := [.lit (.bool false)], args := [d1, d2, d3] }
  | _ => none }
def WeighPartsWrongFalsely : Prop := weighPartsRow.holds Tryz.pinned (OpenSpec.ofChange weighPartsWrong)

/- THE SECOND FORM. 'bulk': how many values and letters a reading holds, each counted each time it is reached (what is shared counts as often as it is met; a slice's spare places count too). A statement '..UptoSaid' is the law's where the arguments, and the package variables that the reading takes, are together of bulk at most 1048576: NARROWER than '..Said'. Prove '..Said' where nothing that the law and all that it calls make is longer than what came in: it says more and counts as full. Else prove '..UptoSaid'. A law counts once. -/
mutual
def uptoBulk {H : Type} : DataW H → Nat
  | .lit (.string bytes) => bytes.length + 1
  | .lit _ => 1
  | .nil => 1
  | .ptr d => uptoBulk d + 1
  | .slice elems spare => uptoBulkAll elems + uptoBulkAll spare + 1
  | .agg parts => uptoBulkAll parts + 1
  | .iface _ d => uptoBulk d + 1
  | .map entries => uptoBulkEntries entries + 1
  | .held _ => 1
def uptoBulkAll {H : Type} : List (DataW H) → Nat
  | [] => 0
  | d :: r => uptoBulk d + uptoBulkAll r
def uptoBulkEntries {H : Type} : List (Lit × DataW H) → Nat
  | [] => 0
  | x :: r => uptoBulkEntry x + uptoBulkEntries r
def uptoBulkEntry {H : Type} : Lit × DataW H → Nat
  | (.string bytes, d) => bytes.length + uptoBulk d + 1
  | (_, d) => uptoBulk d + 1
 end
def uptoSmall : (H : Type) → List (DataW H) → Bool := fun _ ds => decide (uptoBulkAll ds ≤ 1048576)
def OpenSpec.upto (s : _root_.Go.ChangeSpec) : _root_.Go.OpenSpec := { _root_.Go.OpenSpec.ofChange s with cond := some uptoSmall }

/-- 'censuslaw33.WeighTotals', WHERE WHAT IT READS IS OF BULK AT MOST 1048576: true; the input reads as it did. -/
def weighTotalsUptoRow : OpenClaim := { program := "ytmhllppjcilllaagreatdoor", sum := "f5d72acc93620bc4c6d3fd8a81b973a1f1042b6d4077fcf9b22030a861cb4fab", func := "census/censuslaw33.WeighTotals", spec := "weighTotals", inPlace := ["internal/abi.NoEscape"], unfollowed := true, recurses := true, named := ["math/bits.deBruijn64tab"], apart := false, laid := [("math/bits.deBruijn64tab", laid_math_bits_deBruijn64tab)], narrowed := true }
def WeighTotalsUptoSaid : Prop := weighTotalsUptoRow.holds Tryz.pinned (OpenSpec.upto weighTotalsSpec)

/-- 'censuslaw33.WeighLits', WHERE WHAT IT READS IS OF BULK AT MOST 1048576: true; the input reads as it did. -/
def weighLitsUptoRow : OpenClaim := { program := "ytmhllppjcilllaagreatdoor", sum := "f5d72acc93620bc4c6d3fd8a81b973a1f1042b6d4077fcf9b22030a861cb4fab", func := "census/censuslaw33.WeighLits", spec := "weighLits", inPlace := ["internal/abi.NoEscape"], unfollowed := true, recurses := true, named := ["math/bits.deBruijn64tab"], apart := false, laid := [("math/bits.deBruijn64tab", laid_math_bits_deBruijn64tab)], narrowed := true }
def WeighLitsUptoSaid : Prop := weighLitsUptoRow.holds Tryz.pinned (OpenSpec.upto weighLitsSpec)

/-- 'censuslaw33.WeighShares', WHERE WHAT IT READS IS OF BULK AT MOST 1048576: true; the input reads as it did. -/
def weighSharesUptoRow : OpenClaim := { program := "ytmhllppjcilllaagreatdoor", sum := "f5d72acc93620bc4c6d3fd8a81b973a1f1042b6d4077fcf9b22030a861cb4fab", func := "census/censuslaw33.WeighShares", spec := "weighShares", inPlace := ["internal/abi.NoEscape"], unfollowed := true, recurses := true, named := ["math/bits.deBruijn64tab"], apart := false, laid := [("math/bits.deBruijn64tab", laid_math_bits_deBruijn64tab)], narrowed := true }
def WeighSharesUptoSaid : Prop := weighSharesUptoRow.holds Tryz.pinned (OpenSpec.upto weighSharesSpec)

/-- 'censuslaw33.WeighAdds', WHERE WHAT IT READS IS OF BULK AT MOST 1048576: true; the input reads as it did. -/
def weighAddsUptoRow : OpenClaim := { program := "ytmhllppjcilllaagreatdoor", sum := "f5d72acc93620bc4c6d3fd8a81b973a1f1042b6d4077fcf9b22030a861cb4fab", func := "census/censuslaw33.WeighAdds", spec := "weighAdds", inPlace := ["internal/abi.NoEscape"], unfollowed := true, recurses := true, named := ["math/bits.deBruijn64tab"], apart := false, laid := [("math/bits.deBruijn64tab", laid_math_bits_deBruijn64tab)], narrowed := true }
def WeighAddsUptoSaid : Prop := weighAddsUptoRow.holds Tryz.pinned (OpenSpec.upto weighAddsSpec)

/-- 'censuslaw33.WeighFactors', WHERE WHAT IT READS IS OF BULK AT MOST 1048576: true; the input reads as it did. -/
def weighFactorsUptoRow : OpenClaim := { program := "ytmhllppjcilllaagreatdoor", sum := "f5d72acc93620bc4c6d3fd8a81b973a1f1042b6d4077fcf9b22030a861cb4fab", func := "census/censuslaw33.WeighFactors", spec := "weighFactors", inPlace := ["internal/abi.NoEscape"], unfollowed := true, recurses := true, named := ["math/bits.deBruijn64tab"], apart := false, laid := [("math/bits.deBruijn64tab", laid_math_bits_deBruijn64tab)], narrowed := true }
def WeighFactorsUptoSaid : Prop := weighFactorsUptoRow.holds Tryz.pinned (OpenSpec.upto weighFactorsSpec)

/-- 'censuslaw33.WeighLimits', WHERE WHAT IT READS IS OF BULK AT MOST 1048576: true; the input reads as it did. -/
def weighLimitsUptoRow : OpenClaim := { program := "ytmhllppjcilllaagreatdoor", sum := "f5d72acc93620bc4c6d3fd8a81b973a1f1042b6d4077fcf9b22030a861cb4fab", func := "census/censuslaw33.WeighLimits", spec := "weighLimits", inPlace := ["internal/abi.NoEscape"], unfollowed := true, recurses := true, named := ["math/bits.deBruijn64tab"], apart := false, laid := [("math/bits.deBruijn64tab", laid_math_bits_deBruijn64tab)], narrowed := true }
def WeighLimitsUptoSaid : Prop := weighLimitsUptoRow.holds Tryz.pinned (OpenSpec.upto weighLimitsSpec)

/-- 'censuslaw33.WeighErrors', WHERE WHAT IT READS IS OF BULK AT MOST 1048576: true; the input reads as it did. -/
def weighErrorsUptoRow : OpenClaim := { program := "ytmhllppjcilllaagreatdoor", sum := "f5d72acc93620bc4c6d3fd8a81b973a1f1042b6d4077fcf9b22030a861cb4fab", func := "census/censuslaw33.WeighErrors", spec := "weighErrors", inPlace := ["internal/abi.NoEscape"], unfollowed := true, recurses := true, named := ["math/bits.deBruijn64tab"], apart := false, laid := [("math/bits.deBruijn64tab", laid_math_bits_deBruijn64tab)], narrowed := true }
def WeighErrorsUptoSaid : Prop := weighErrorsUptoRow.holds Tryz.pinned (OpenSpec.upto weighErrorsSpec)

/-- 'censuslaw33.WeighKnown', WHERE WHAT IT READS IS OF BULK AT MOST 1048576: true; the input reads as it did. -/
def weighKnownUptoRow : OpenClaim := { program := "ytmhllppjcilllaagreatdoor", sum := "f5d72acc93620bc4c6d3fd8a81b973a1f1042b6d4077fcf9b22030a861cb4fab", func := "census/censuslaw33.WeighKnown", spec := "weighKnown", inPlace := ["internal/abi.NoEscape"], unfollowed := true, recurses := true, named := ["math/bits.deBruijn64tab"], apart := false, laid := [("math/bits.deBruijn64tab", laid_math_bits_deBruijn64tab)], narrowed := true }
def WeighKnownUptoSaid : Prop := weighKnownUptoRow.holds Tryz.pinned (OpenSpec.upto weighKnownSpec)

/-- 'censuslaw33.WeighCounts', WHERE WHAT IT READS IS OF BULK AT MOST 1048576: true; the input reads as it did. -/
def weighCountsUptoRow : OpenClaim := { program := "ytmhllppjcilllaagreatdoor", sum := "f5d72acc93620bc4c6d3fd8a81b973a1f1042b6d4077fcf9b22030a861cb4fab", func := "census/censuslaw33.WeighCounts", spec := "weighCounts", inPlace := ["internal/abi.NoEscape"], unfollowed := true, recurses := true, named := ["math/bits.deBruijn64tab"], apart := false, laid := [("math/bits.deBruijn64tab", laid_math_bits_deBruijn64tab)], narrowed := true }
def WeighCountsUptoSaid : Prop := weighCountsUptoRow.holds Tryz.pinned (OpenSpec.upto weighCountsSpec)

/-- 'censuslaw33.WeighModels', WHERE WHAT IT READS IS OF BULK AT MOST 1048576: true; the input reads as it did. -/
def weighModelsUptoRow : OpenClaim := { program := "ytmhllppjcilllaagreatdoor", sum := "f5d72acc93620bc4c6d3fd8a81b973a1f1042b6d4077fcf9b22030a861cb4fab", func := "census/censuslaw33.WeighModels", spec := "weighModels", inPlace := ["internal/abi.NoEscape"], unfollowed := true, recurses := true, named := ["census/shape.patterns", "math/bits.deBruijn64tab"], apart := false, laid := [("math/bits.deBruijn64tab", laid_math_bits_deBruijn64tab), ("census/shape.patterns", laid_census_shape_patterns)], narrowed := true }
def WeighModelsUptoSaid : Prop := weighModelsUptoRow.holds Tryz.pinned (OpenSpec.upto weighModelsSpec)

/-- 'censuslaw33.WeighParts', WHERE WHAT IT READS IS OF BULK AT MOST 1048576: true; the input reads as it did. -/
def weighPartsUptoRow : OpenClaim := { program := "ytmhllppjcilllaagreatdoor", sum := "f5d72acc93620bc4c6d3fd8a81b973a1f1042b6d4077fcf9b22030a861cb4fab", func := "census/censuslaw33.WeighParts", spec := "weighParts", inPlace := ["internal/abi.NoEscape"], unfollowed := true, recurses := true, named := ["census/shape.patterns", "math/bits.deBruijn64tab"], apart := false, laid := [("math/bits.deBruijn64tab", laid_math_bits_deBruijn64tab), ("census/shape.patterns", laid_census_shape_patterns)], narrowed := true }
def WeighPartsUptoSaid : Prop := weighPartsUptoRow.holds Tryz.pinned (OpenSpec.upto weighPartsSpec)

end Rows
end Go.Proofs.YtmhllppjcilllaaGreatDoor
