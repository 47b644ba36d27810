/-
  NARROWER THAN 'FOR EVERY INPUT', by the rows' own cells (each row's printed sentence says how): SampleDraws: laid · SampleNeeds: laid · SampleUniform: laid · SampleWeighs: laid · SampleModel: laid · SampleEven: laid · SampleKnown: laid.
  DERIVED. THE GIVEN ROWS OF THIS SEAT. 7 by the template 'for every input the law returns true; each argument reads behind the call as it read before'; 0 by the template 'total and deterministic' (their statements: YtgnobohfnhpkdaaGreatDoorTotals.lean).
  GIVEN WITH THE SEED: the statements are not yours to turn. If you find one false, say at which input.
  Laid BY PROGRAM, IN A SANDBOX (cutbox-rows.mjs): the forced cells as the released guide's own fill.sh prints them over the translation 548f22d728ebfdd3… (all of the seat's roots in one cut). By AI agents, Wed Nov 11 2026. No macro, syntax, notation, axiom, sorry.
-/
import Derived.Test.YtgnobohfnhpkdaaGreatDoorChecked
import GoSem.Claim
import GoSem.ClaimJoined
import GoSem.ClaimMapViews
import Derived.JoinedTies
import Derived.KernelRfl
namespace Go.Proofs.YtgnobohfnhpkdaaGreatDoor
/- THE CELL 'sum', in the pinned program and in every row, IS THE sha256 OF THE DUMP (.gsa) THAT YtgnobohfnhpkdaaGreatDoorProg.lean LOADS. Nothing in Lean hashes anything: it is a label: what it is worth is what the hold of that sum in a sandbox is worth. -/
noncomputable def Tryz.pinned : Pinned := { name := "ytgnobohfnhpkdaagreatdoor", sum := "548f22d728ebfdd32a0274be2cf3a7df6b3b7aa121d351ee3685900e426f672f", checked := Tryz.checked }
namespace Rows
def none {H : Type} : Left H := { results := [], args := [] }

/- WHAT THE LISTED PACKAGE-LEVEL VARIABLES READ AS WHEN THE CALL BEGINS. Each datum BY PROGRAM (the guide's laid-datum.mjs) off the statement by which the dump's own 'gosem.cut.vars' lays the variable. In a bare row this is a premise. The card (YtgnobohfnhpkdaaGreatDoorCards.lean) ties it to the program's text. -/
def laid_math_bits_deBruijn64tab {H : Type} : DataW H := .agg [.lit (.int .u8 0), .lit (.int .u8 1), .lit (.int .u8 56), .lit (.int .u8 2), .lit (.int .u8 57), .lit (.int .u8 49), .lit (.int .u8 28), .lit (.int .u8 3), .lit (.int .u8 61), .lit (.int .u8 58), .lit (.int .u8 42), .lit (.int .u8 50), .lit (.int .u8 38), .lit (.int .u8 29), .lit (.int .u8 17), .lit (.int .u8 4), .lit (.int .u8 62), .lit (.int .u8 47), .lit (.int .u8 59), .lit (.int .u8 36), .lit (.int .u8 45), .lit (.int .u8 43), .lit (.int .u8 51), .lit (.int .u8 22), .lit (.int .u8 53), .lit (.int .u8 39), .lit (.int .u8 33), .lit (.int .u8 30), .lit (.int .u8 24), .lit (.int .u8 18), .lit (.int .u8 12), .lit (.int .u8 5), .lit (.int .u8 63), .lit (.int .u8 55), .lit (.int .u8 48), .lit (.int .u8 27), .lit (.int .u8 60), .lit (.int .u8 41), .lit (.int .u8 37), .lit (.int .u8 16), .lit (.int .u8 46), .lit (.int .u8 35), .lit (.int .u8 44), .lit (.int .u8 21), .lit (.int .u8 52), .lit (.int .u8 32), .lit (.int .u8 23), .lit (.int .u8 11), .lit (.int .u8 54), .lit (.int .u8 26), .lit (.int .u8 40), .lit (.int .u8 15), .lit (.int .u8 34), .lit (.int .u8 20), .lit (.int .u8 31), .lit (.int .u8 10), .lit (.int .u8 25), .lit (.int .u8 14), .lit (.int .u8 19), .lit (.int .u8 9), .lit (.int .u8 13), .lit (.int .u8 8), .lit (.int .u8 7), .lit (.int .u8 6)]

/-- 'censuslaw36.SampleDraws': WHATEVER THE INPUT: true; the input reads as it did. -/
def sampleDrawsSpec : ChangeSpec := { name := "sampleDraws", fn := fun _ => fun
  | [d1, d2] => { results := [.lit (.bool true)], args := [d1, d2] }
  | _ => none }
def sampleDrawsRow : OpenClaim := { program := "ytgnobohfnhpkdaagreatdoor", sum := "548f22d728ebfdd32a0274be2cf3a7df6b3b7aa121d351ee3685900e426f672f", func := "census/censuslaw36.SampleDraws", spec := "sampleDraws", unfollowed := true, recurses := true, named := ["math/bits.deBruijn64tab"], apart := false, laid := [("math/bits.deBruijn64tab", laid_math_bits_deBruijn64tab)] }
def SampleDrawsSaid : Prop := sampleDrawsRow.holds Tryz.pinned (OpenSpec.ofChange sampleDrawsSpec)

/-- ITS FALSE NEIGHBOUR: 'it returns false'. Refute it at one input. -/
def sampleDrawsWrong : ChangeSpec := { name := "sampleDraws", fn := fun _ => fun
  | [d1, d2] => { results := [.lit (.bool false)], args := [d1, d2] }
  | _ => none }
def SampleDrawsWrongFalsely : Prop := sampleDrawsRow.holds Tryz.pinned (OpenSpec.ofChange sampleDrawsWrong)

/-- 'censuslaw36.SampleNeeds': WHATEVER THE INPUT: true; the input reads as it did. -/
def sampleNeedsSpec : ChangeSpec := { name := "sampleNeeds", fn := fun _ => fun
  | [d] => { results := [.lit (.bool true)], args := [d] }
  | _ => none }
def sampleNeedsRow : OpenClaim := { program := "ytgnobohfnhpkdaagreatdoor", sum := "548f22d728ebfdd32a0274be2cf3a7df6b3b7aa121d351ee3685900e426f672f", func := "census/censuslaw36.SampleNeeds", spec := "sampleNeeds", unfollowed := true, recurses := true, named := ["math/bits.deBruijn64tab"], apart := false, laid := [("math/bits.deBruijn64tab", laid_math_bits_deBruijn64tab)] }
def SampleNeedsSaid : Prop := sampleNeedsRow.holds Tryz.pinned (OpenSpec.ofChange sampleNeedsSpec)

/-- ITS FALSE NEIGHBOUR: 'it returns false'. Refute it at one input. -/
def sampleNeedsWrong : ChangeSpec := { name := "sampleNeeds", fn := fun _ => fun
  | [d] => { results := [.lit (.bool false)], args := [d] }
  | _ => none }
def SampleNeedsWrongFalsely : Prop := sampleNeedsRow.holds Tryz.pinned (OpenSpec.ofChange sampleNeedsWrong)

/-- 'censuslaw36.SampleUniform': WHATEVER THE INPUT: true; the input reads as it did. -/
def sampleUniformSpec : ChangeSpec := { name := "sampleUniform", fn := fun _ => fun
  | [d] => { results := [.lit (.bool true)], args := [d] }
  | _ => none }
def sampleUniformRow : OpenClaim := { program := "ytgnobohfnhpkdaagreatdoor", sum := "548f22d728ebfdd32a0274be2cf3a7df6b3b7aa121d351ee3685900e426f672f", func := "census/censuslaw36.SampleUniform", spec := "sampleUniform", unfollowed := true, recurses := true, named := ["math/bits.deBruijn64tab"], apart := false, laid := [("math/bits.deBruijn64tab", laid_math_bits_deBruijn64tab)] }
def SampleUniformSaid : Prop := sampleUniformRow.holds Tryz.pinned (OpenSpec.ofChange sampleUniformSpec)

/-- ITS FALSE NEIGHBOUR: 'it returns false'. Refute it at one input. -/
def sampleUniformWrong : ChangeSpec := { name := "sampleUniform", fn := fun _ => fun
  | [d] => { results := [.lit (.bool false)], args := [d] }
  | _ => none }
def SampleUniformWrongFalsely : Prop := sampleUniformRow.holds Tryz.pinned (OpenSpec.ofChange sampleUniformWrong)

/-- 'censuslaw36.SampleWeighs': WHATEVER THE INPUT: true; the input reads as it did. -/
def sampleWeighsSpec : ChangeSpec := { name := "sampleWeighs", fn := fun _ => fun
  | [d1, d2, d3, d4] => { results := [.lit (.bool true)], args := [d1, d2, d3, d4] }
  | _ => none }
def sampleWeighsRow : OpenClaim := { program := "ytgnobohfnhpkdaagreatdoor", sum := "548f22d728ebfdd32a0274be2cf3a7df6b3b7aa121d351ee3685900e426f672f", func := "census/censuslaw36.SampleWeighs", spec := "sampleWeighs", inPlace := ["internal/bytealg.IndexByteString", "internal/bytealg.IndexString", "internal/abi.NoEscape"], unfollowed := true, recurses := true, named := ["math/bits.deBruijn64tab", "internal/bytealg.MaxLen"], apart := false, laid := [("math/bits.deBruijn64tab", laid_math_bits_deBruijn64tab)] }
def SampleWeighsSaid : Prop := sampleWeighsRow.holds Tryz.pinned (OpenSpec.ofChange sampleWeighsSpec)

/-- ITS FALSE NEIGHBOUR: 'it returns false'. Refute it at one input. -/
def sampleWeighsWrong : ChangeSpec := { name := "sampleWeighs", fn := fun _ => fun
  | [d1, d2, d3, d4] => { results := [.lit (.bool false)], args := [d1, d2, d3, d4] }
  | _ => none }
def SampleWeighsWrongFalsely : Prop := sampleWeighsRow.holds Tryz.pinned (OpenSpec.ofChange sampleWeighsWrong)

/-- 'censuslaw36.SampleModel': WHATEVER THE INPUT: true; the input reads as it did. -/
def sampleModelSpec : ChangeSpec := { name := "sampleModel", fn := fun _ => fun
  | [d1, d2, d3, d4] => { results := [.lit (.bool true)], args := [d1, d2, d3, d4] }
  | _ => none }
def sampleModelRow : OpenClaim := { program := "ytgnobohfnhpkdaagreatdoor", sum := "548f22d728ebfdd32a0274be2cf3a7df6b3b7aa121d351ee3685900e426f672f", func := "census/censuslaw36.SampleModel", spec := "sampleModel", inPlace := ["internal/bytealg.IndexByteString", "internal/bytealg.IndexString", "internal/abi.NoEscape"], unfollowed := true, recurses := true, named := ["math/bits.deBruijn64tab", "internal/bytealg.MaxLen"], apart := false, laid := [("math/bits.deBruijn64tab", laid_math_bits_deBruijn64tab)] }
def SampleModelSaid : Prop := sampleModelRow.holds Tryz.pinned (OpenSpec.ofChange sampleModelSpec)

/-- ITS FALSE NEIGHBOUR: 'it returns false'. Refute it at one input. -/
def sampleModelWrong : ChangeSpec := { name := "sampleModel", fn := fun _ => fun
  | [d1, d2, d3, d4] => { results := [.lit (.bool false)], args := [d1, d2, d3, d4] }
  | _ => none }
def SampleModelWrongFalsely : Prop := sampleModelRow.holds Tryz.pinned (OpenSpec.ofChange sampleModelWrong)

/-- 'censuslaw36.SampleEven': WHATEVER THE INPUT: true; the input reads as it did. -/
def sampleEvenSpec : ChangeSpec := { name := "sampleEven", fn := fun _ => fun
  | [d1, d2, d3] => { results := [.lit (.bool true)], args := [d1, d2, d3] }
  | _ => none }
def sampleEvenRow : OpenClaim := { program := "ytgnobohfnhpkdaagreatdoor", sum := "548f22d728ebfdd32a0274be2cf3a7df6b3b7aa121d351ee3685900e426f672f", func := "census/censuslaw36.SampleEven", spec := "sampleEven", inPlace := ["internal/bytealg.IndexByteString", "internal/bytealg.IndexString", "internal/abi.NoEscape"], unfollowed := true, recurses := true, named := ["math/bits.deBruijn64tab", "internal/bytealg.MaxLen"], apart := false, laid := [("math/bits.deBruijn64tab", laid_math_bits_deBruijn64tab)] }
def SampleEvenSaid : Prop := sampleEvenRow.holds Tryz.pinned (OpenSpec.ofChange sampleEvenSpec)

/-- ITS FALSE NEIGHBOUR: 'it returns false'. Refute it at one input. -/
def sampleEvenWrong : ChangeSpec := { name := "sampleEven", fn := fun _ => fun
  | [d1, d2, d3] => { results := [.lit (.bool false)], args := [d1, d2, d3] }
  | _ => none }
def SampleEvenWrongFalsely : Prop := sampleEvenRow.holds Tryz.pinned (OpenSpec.ofChange sampleEvenWrong)

/-- 'censuslaw36.SampleKnown': WHATEVER THE INPUT: true; the input reads as it did. -/
def sampleKnownSpec : ChangeSpec := { name := "sampleKnown", fn := fun _ => fun
  | [] => { results := [.lit (.bool true)], args := [] }
  | _ => none }
def sampleKnownRow : OpenClaim := { program := "ytgnobohfnhpkdaagreatdoor", sum := "548f22d728ebfdd32a0274be2cf3a7df6b3b7aa121d351ee3685900e426f672f", func := "census/censuslaw36.SampleKnown", spec := "sampleKnown", inPlace := ["internal/bytealg.IndexByteString", "internal/bytealg.IndexString", "internal/abi.NoEscape"], unfollowed := true, recurses := true, named := ["math/bits.deBruijn64tab", "internal/bytealg.MaxLen"], apart := false, laid := [("math/bits.deBruijn64tab", laid_math_bits_deBruijn64tab)] }
def SampleKnownSaid : Prop := sampleKnownRow.holds Tryz.pinned (OpenSpec.ofChange sampleKnownSpec)

/-- ITS FALSE NEIGHBOUR: 'it returns false'. Refute it at one input. -/
def sampleKnownWrong : ChangeSpec := { name := "sampleKnown", fn := fun _ => fun
  | [] => { results := [.lit (.bool false)], args := [] }
  | _ => none }
def SampleKnownWrongFalsely : Prop := sampleKnownRow.holds Tryz.pinned (OpenSpec.ofChange sampleKnownWrong)

/- THE SECOND FORM. 'bulk': how many values and letters a reading holds, each counted each time it is reached (what is shared counts as often as it is met; a slice's spare places count too). A statement '..UptoSaid' is the law's where the arguments, and the package variables that the reading takes, are together of bulk at most 1048576: NARROWER than '..Said'. Prove '..Said' where nothing that the law and all that it calls make is longer than what came in: it says more and counts as full. Else prove '..UptoSaid'. A law counts once. -/
mutual
def uptoBulk {H : Type} : DataW H → Nat
  | .lit (.string bytes) => bytes.length + 1
  | .lit _ => 1
  | .nil => 1
  | .ptr d => uptoBulk d + 1
  | .slice elems spare => uptoBulkAll elems + uptoBulkAll spare + 1
  | .agg parts => uptoBulkAll parts + 1
  | .iface _ d => uptoBulk d + 1
  | .map entries => uptoBulkEntries entries + 1
  | .held _ => 1
def uptoBulkAll {H : Type} : List (DataW H) → Nat
  | [] => 0
  | d :: r => uptoBulk d + uptoBulkAll r
def uptoBulkEntries {H : Type} : List (Lit × DataW H) → Nat
  | [] => 0
  | x :: r => uptoBulkEntry x + uptoBulkEntries r
def uptoBulkEntry {H : Type} : Lit × DataW H → Nat
  | (.string bytes, d) => bytes.length + uptoBulk d + 1
  | (_, d) => uptoBulk d + 1
 end
def uptoSmall : (H : Type) → List (DataW H) → Bool := fun _ ds => decide (uptoBulkAll ds ≤ 1048576)
def OpenSpec.upto (s : _root_.Go.ChangeSpec) : _root_.Go.OpenSpec := { _root_.Go.OpenSpec.ofChange s with cond := some uptoSmall }

/-- 'censuslaw36.SampleDraws', WHERE WHAT IT READS IS OF BULK AT MOST 1048576: true; the input reads as it did. -/
def sampleDrawsUptoRow : OpenClaim := { program := "ytgnobohfnhpkdaagreatdoor", sum := "548f22d728ebfdd32a0274be2cf3a7df6b3b7aa121d351ee3685900e426f672f", func := "census/censuslaw36.SampleDraws", spec := "sampleDraws", unfollowed := true, recurses := true, named := ["math/bits.deBruijn64tab"], apart := false, laid := [("math/bits.deBruijn64tab", laid_math_bits_deBruijn64tab)], narrowed := true }
def SampleDrawsUptoSaid : Prop := sampleDrawsUptoRow.holds Tryz.pinned (OpenSpec.upto sampleDrawsSpec)

/-- 'censuslaw36.SampleNeeds', WHERE WHAT IT READS IS OF BULK AT MOST 1048576: true; the input reads as it did. -/
def sampleNeedsUptoRow : OpenClaim := { program := "ytgnobohfnhpkdaagreatdoor", sum := "548f22d728ebfdd32a0274be2cf3a7df6b3b7aa121d351ee3685900e426f672f", func := "census/censuslaw36.SampleNeeds", spec := "sampleNeeds", unfollowed := true, recurses := true, named := ["math/bits.deBruijn64tab"], apart := false, laid := [("math/bits.deBruijn64tab", laid_math_bits_deBruijn64tab)], narrowed := true }
def SampleNeedsUptoSaid : Prop := sampleNeedsUptoRow.holds Tryz.pinned (OpenSpec.upto sampleNeedsSpec)

/-- 'censuslaw36.SampleUniform', WHERE WHAT IT READS IS OF BULK AT MOST 1048576: true; the input reads as it did. -/
def sampleUniformUptoRow : OpenClaim := { program := "ytgnobohfnhpkdaagreatdoor", sum := "548f22d728ebfdd32a0274be2cf3a7df6b3b7aa121d351ee3685900e426f672f", func := "census/censuslaw36.SampleUniform", spec := "sampleUniform", unfollowed := true, recurses := true, named := ["math/bits.deBruijn64tab"], apart := false, laid := [("math/bits.deBruijn64tab", laid_math_bits_deBruijn64tab)], narrowed := true }
def SampleUniformUptoSaid : Prop := sampleUniformUptoRow.holds Tryz.pinned (OpenSpec.upto sampleUniformSpec)

/-- 'censuslaw36.SampleWeighs', WHERE WHAT IT READS IS OF BULK AT MOST 1048576: true; the input reads as it did. -/
def sampleWeighsUptoRow : OpenClaim := { program := "ytgnobohfnhpkdaagreatdoor", sum := "548f22d728ebfdd32a0274be2cf3a7df6b3b7aa121d351ee3685900e426f672f", func := "census/censuslaw36.SampleWeighs", spec := "sampleWeighs", inPlace := ["internal/bytealg.IndexByteString", "internal/bytealg.IndexString", "internal/abi.NoEscape"], unfollowed := true, recurses := true, named := ["math/bits.deBruijn64tab", "internal/bytealg.MaxLen"], apart := false, laid := [("math/bits.deBruijn64tab", laid_math_bits_deBruijn64tab)], narrowed := true }
def SampleWeighsUptoSaid : Prop := sampleWeighsUptoRow.holds Tryz.pinned (OpenSpec.upto sampleWeighsSpec)

/-- 'censuslaw36.SampleModel', WHERE WHAT IT READS IS OF BULK AT MOST 1048576: true; the input reads as it did. -/
def sampleModelUptoRow : OpenClaim := { program := "ytgnobohfnhpkdaagreatdoor", sum := "548f22d728ebfdd32a0274be2cf3a7df6b3b7aa121d351ee3685900e426f672f", func := "census/censuslaw36.SampleModel", spec := "sampleModel", inPlace := ["internal/bytealg.IndexByteString", "internal/bytealg.IndexString", "internal/abi.NoEscape"], unfollowed := true, recurses := true, named := ["math/bits.deBruijn64tab", "internal/bytealg.MaxLen"], apart := false, laid := [("math/bits.deBruijn64tab", laid_math_bits_deBruijn64tab)], narrowed := true }
def SampleModelUptoSaid : Prop := sampleModelUptoRow.holds Tryz.pinned (OpenSpec.upto sampleModelSpec)

/-- 'censuslaw36.SampleEven', WHERE WHAT IT READS IS OF BULK AT MOST 1048576: true; the input reads as it did. -/
def sampleEvenUptoRow : OpenClaim := { program := "ytgnobohfnhpkdaagreatdoor", sum := "548f22d728ebfdd32a0274be2cf3a7df6b3b7aa121d351ee3685900e426f672f", func := "census/censuslaw36.SampleEven", spec := "sampleEven", inPlace := ["internal/bytealg.IndexByteString", "internal/bytealg.IndexString", "internal/abi.NoEscape"], unfollowed := true, recurses := true, named := ["math/bits.deBruijn64tab", "internal/bytealg.MaxLen"], apart := false, laid := [("math/bits.deBruijn64tab", laid_math_bits_deBruijn64tab)], narrowed := true }
def SampleEvenUptoSaid : Prop := sampleEvenUptoRow.holds Tryz.pinned (OpenSpec.upto sampleEvenSpec)

/-- 'censuslaw36.SampleKnown', WHERE WHAT IT READS IS OF BULK AT MOST 1048576: true; the input reads as it did. -/
def sampleKnownUptoRow : OpenClaim := { program := "ytgnobohfnhpkdaagreatdoor", sum := "548f22d728ebfdd32a0274be2cf3a7df6b3b7aa121d351ee3685900e426f672f", func := "census/censuslaw36.SampleKnown", spec := "sampleKnown", inPlace := ["internal/bytealg.IndexByteString", "internal/bytealg.IndexString", "internal/abi.NoEscape"], unfollowed := true, recurses := true, named := ["math/bits.deBruijn64tab", "internal/bytealg.MaxLen"], apart := false, laid := [("math/bits.deBruijn64tab", laid_math_bits_deBruijn64tab)], narrowed := true }
def SampleKnownUptoSaid : Prop := sampleKnownUptoRow.holds Tryz.pinned (OpenSpec.upto sampleKnownSpec)

end Rows
end Go.Proofs.YtgnobohfnhpkdaaGreatDoor
