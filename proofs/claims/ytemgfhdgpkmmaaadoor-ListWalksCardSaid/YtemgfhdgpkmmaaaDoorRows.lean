/-
  NARROWER THAN 'FOR EVERY INPUT', by the rows' own cells (each row's printed sentence says how): ListSeeks: laid · ListSought: laid · ListFree: laid · ListKnown: laid · ListWalks: laid · ListAll: laid · ListSteps: laid · ListNone: laid · ListPlaces: laid.
  DERIVED. THE GIVEN ROWS OF THIS SEAT. 9 by the template 'for every input the law returns true; each argument reads behind the call as it read before'; 0 by the template 'total and deterministic' (their statements: YtemgfhdgpkmmaaaDoorTotals.lean).
  GIVEN WITH THE SEED: the statements are not yours to turn. If you find one false, say at which input.
  Laid BY PROGRAM, IN A SANDBOX (cutbox-rows.mjs): the forced cells as the released guide's own fill.sh prints them over the translation 40237b26a428d898… (all of the seat's roots in one cut). By AI agents, Wed Nov 11 2026. No macro, syntax, notation, axiom, sorry.
-/
import Derived.Test.YtemgfhdgpkmmaaaDoorChecked
import GoSem.Claim
import GoSem.ClaimJoined
import GoSem.ClaimMapViews
import Derived.JoinedTies
import Derived.KernelRfl
namespace Go.Proofs.YtemgfhdgpkmmaaaDoor
/- THE CELL 'sum', in the pinned program and in every row, IS THE sha256 OF THE DUMP (.gsa) THAT YtemgfhdgpkmmaaaDoorProg.lean LOADS. Nothing in Lean hashes anything: it is a label: what it is worth is what the hold of that sum in a sandbox is worth. -/
noncomputable def Tryd.pinned : Pinned := { name := "ytemgfhdgpkmmaaadoor", sum := "40237b26a428d898868f40994bd2d11681c7f008855263d6c84a4172f9958e83", checked := Tryd.checked }
namespace Rows
def none {H : Type} : Left H := { results := [], args := [] }

/- WHAT THE LISTED PACKAGE-LEVEL VARIABLES READ AS WHEN THE CALL BEGINS. Each datum BY PROGRAM (the guide's laid-datum.mjs) off the statement by which the dump's own 'gosem.cut.vars' lays the variable. In a bare row this is a premise. The card (YtemgfhdgpkmmaaaDoorCards.lean) ties it to the program's text. -/
def laid_math_bits_deBruijn64tab {H : Type} : DataW H := .agg [.lit (.int .u8 0), .lit (.int .u8 1), .lit (.int .u8 56), .lit (.int .u8 2), .lit (.int .u8 57), .lit (.int .u8 49), .lit (.int .u8 28), .lit (.int .u8 3), .lit (.int .u8 61), .lit (.int .u8 58), .lit (.int .u8 42), .lit (.int .u8 50), .lit (.int .u8 38), .lit (.int .u8 29), .lit (.int .u8 17), .lit (.int .u8 4), .lit (.int .u8 62), .lit (.int .u8 47), .lit (.int .u8 59), .lit (.int .u8 36), .lit (.int .u8 45), .lit (.int .u8 43), .lit (.int .u8 51), .lit (.int .u8 22), .lit (.int .u8 53), .lit (.int .u8 39), .lit (.int .u8 33), .lit (.int .u8 30), .lit (.int .u8 24), .lit (.int .u8 18), .lit (.int .u8 12), .lit (.int .u8 5), .lit (.int .u8 63), .lit (.int .u8 55), .lit (.int .u8 48), .lit (.int .u8 27), .lit (.int .u8 60), .lit (.int .u8 41), .lit (.int .u8 37), .lit (.int .u8 16), .lit (.int .u8 46), .lit (.int .u8 35), .lit (.int .u8 44), .lit (.int .u8 21), .lit (.int .u8 52), .lit (.int .u8 32), .lit (.int .u8 23), .lit (.int .u8 11), .lit (.int .u8 54), .lit (.int .u8 26), .lit (.int .u8 40), .lit (.int .u8 15), .lit (.int .u8 34), .lit (.int .u8 20), .lit (.int .u8 31), .lit (.int .u8 10), .lit (.int .u8 25), .lit (.int .u8 14), .lit (.int .u8 19), .lit (.int .u8 9), .lit (.int .u8 13), .lit (.int .u8 8), .lit (.int .u8 7), .lit (.int .u8 6)]
def laid_census_shape_patterns {H : Type} : DataW H := .agg [.lit (.int .u64 12297829382473034410), .lit (.int .u64 14757395258967641292), .lit (.int .u64 17361641481138401520), .lit (.int .u64 18374966859414961920), .lit (.int .u64 18446462603027742720), .lit (.int .u64 18446744069414584320)]

/-- 'censuslaw37.ListSeeks': WHATEVER THE INPUT: true; the input reads as it did. -/
def listSeeksSpec : ChangeSpec := { name := "listSeeks", fn := fun _ => fun
  | [d1, d2] => { results := [.lit (.bool true)], args := [d1, d2] }
  | _ => none }
def listSeeksRow : OpenClaim := { program := "ytemgfhdgpkmmaaadoor", sum := "40237b26a428d898868f40994bd2d11681c7f008855263d6c84a4172f9958e83", func := "census/censuslaw37.ListSeeks", spec := "listSeeks", unfollowed := true, recurses := true, named := ["math/bits.deBruijn64tab"], apart := false, laid := [("math/bits.deBruijn64tab", laid_math_bits_deBruijn64tab)] }
def ListSeeksSaid : Prop := listSeeksRow.holds Tryd.pinned (OpenSpec.ofChange listSeeksSpec)

/-- ITS FALSE NEIGHBOUR: 'it returns false'. Refute it at one input. -/
def listSeeksWrong : ChangeSpec := { name := "listSeeks", fn := fun _ => fun
  | [d1, d2] => { results := [.lit (.bool false)], args := [d1, d2] }
  | _ => none }
def ListSeeksWrongFalsely : Prop := listSeeksRow.holds Tryd.pinned (OpenSpec.ofChange listSeeksWrong)

/-- 'censuslaw37.ListSought': WHATEVER THE INPUT: true; the input reads as it did. -/
def listSoughtSpec : ChangeSpec := { name := "listSought", fn := fun _ => fun
  | [d1, d2] => { results := [.lit (.bool true)], args := [d1, d2] }
  | _ => none }
def listSoughtRow : OpenClaim := { program := "ytemgfhdgpkmmaaadoor", sum := "40237b26a428d898868f40994bd2d11681c7f008855263d6c84a4172f9958e83", func := "census/censuslaw37.ListSought", spec := "listSought", unfollowed := true, recurses := true, named := ["math/bits.deBruijn64tab"], apart := false, laid := [("math/bits.deBruijn64tab", laid_math_bits_deBruijn64tab)] }
def ListSoughtSaid : Prop := listSoughtRow.holds Tryd.pinned (OpenSpec.ofChange listSoughtSpec)

/-- ITS FALSE NEIGHBOUR: 'it returns false'. Refute it at one input. -/
def listSoughtWrong : ChangeSpec := { name := "listSought", fn := fun _ => fun
  | [d1, d2] => { results := [.lit (.bool false)], args := [d1, d2] }
  | _ => none }
def ListSoughtWrongFalsely : Prop := listSoughtRow.holds Tryd.pinned (OpenSpec.ofChange listSoughtWrong)

/-- 'censuslaw37.ListFree': WHATEVER THE INPUT: true; the input reads as it did. -/
def listFreeSpec : ChangeSpec := { name := "listFree", fn := fun _ => fun
  | [d1, d2] => { results := [.lit (.bool true)], args := [d1, d2] }
  | _ => none }
def listFreeRow : OpenClaim := { program := "ytemgfhdgpkmmaaadoor", sum := "40237b26a428d898868f40994bd2d11681c7f008855263d6c84a4172f9958e83", func := "census/censuslaw37.ListFree", spec := "listFree", unfollowed := true, recurses := true, named := ["math/bits.deBruijn64tab"], apart := false, laid := [("math/bits.deBruijn64tab", laid_math_bits_deBruijn64tab)] }
def ListFreeSaid : Prop := listFreeRow.holds Tryd.pinned (OpenSpec.ofChange listFreeSpec)

/-- ITS FALSE NEIGHBOUR: 'it returns false'. Refute it at one input. -/
def listFreeWrong : ChangeSpec := { name := "listFree", fn := fun _ => fun
  | [d1, d2] => { results := [.lit (.bool false)], args := [d1, d2] }
  | _ => none }
def ListFreeWrongFalsely : Prop := listFreeRow.holds Tryd.pinned (OpenSpec.ofChange listFreeWrong)

/-- 'censuslaw37.ListKnown': WHATEVER THE INPUT: true; the input reads as it did. -/
def listKnownSpec : ChangeSpec := { name := "listKnown", fn := fun _ => fun
  | [] => { results := [.lit (.bool true)], args := [] }
  | _ => none }
def listKnownRow : OpenClaim := { program := "ytemgfhdgpkmmaaadoor", sum := "40237b26a428d898868f40994bd2d11681c7f008855263d6c84a4172f9958e83", func := "census/censuslaw37.ListKnown", spec := "listKnown", unfollowed := true, recurses := true, named := ["math/bits.deBruijn64tab"], apart := false, laid := [("math/bits.deBruijn64tab", laid_math_bits_deBruijn64tab)] }
def ListKnownSaid : Prop := listKnownRow.holds Tryd.pinned (OpenSpec.ofChange listKnownSpec)

/-- ITS FALSE NEIGHBOUR: 'it returns false'. Refute it at one input. -/
def listKnownWrong : ChangeSpec := { name := "listKnown", fn := fun _ => fun
  | [] => { results := [.lit (.bool false)], args := [] }
  | _ => none }
def ListKnownWrongFalsely : Prop := listKnownRow.holds Tryd.pinned (OpenSpec.ofChange listKnownWrong)

/-- 'censuslaw37.ListWalks': WHATEVER THE INPUT: true; the input reads as it did. -/
def listWalksSpec : ChangeSpec := { name := "listWalks", fn := fun _ => fun
  | [d] => { results := [.lit (.bool true)], args := [d] }
  | _ => none }
def listWalksRow : OpenClaim := { program := "ytemgfhdgpkmmaaadoor", sum := "40237b26a428d898868f40994bd2d11681c7f008855263d6c84a4172f9958e83", func := "census/censuslaw37.ListWalks", spec := "listWalks", unfollowed := true, recurses := true, named := ["math/bits.deBruijn64tab"], apart := false, laid := [("math/bits.deBruijn64tab", laid_math_bits_deBruijn64tab)] }
def ListWalksSaid : Prop := listWalksRow.holds Tryd.pinned (OpenSpec.ofChange listWalksSpec)

/-- ITS FALSE NEIGHBOUR: 'it returns false'. Refute it at one input. -/
def listWalksWrong : ChangeSpec := { name := "listWalks", fn := fun _ => fun
  | [d] => { results := [.lit (.bool false)], args := [d] }
  | _ => none }
def ListWalksWrongFalsely : Prop := listWalksRow.holds Tryd.pinned (OpenSpec.ofChange listWalksWrong)

/-- 'censuslaw37.ListAll': WHATEVER THE INPUT: true; the input reads as it did. -/
def listAllSpec : ChangeSpec := { name := "listAll", fn := fun _ => fun
  | [d] => { results := [.lit (.bool true)], args := [d] }
  | _ => none }
def listAllRow : OpenClaim := { program := "ytemgfhdgpkmmaaadoor", sum := "40237b26a428d898868f40994bd2d11681c7f008855263d6c84a4172f9958e83", func := "census/censuslaw37.ListAll", spec := "listAll", unfollowed := true, recurses := true, named := ["math/bits.deBruijn64tab"], apart := false, laid := [("math/bits.deBruijn64tab", laid_math_bits_deBruijn64tab)] }
def ListAllSaid : Prop := listAllRow.holds Tryd.pinned (OpenSpec.ofChange listAllSpec)

/-- ITS FALSE NEIGHBOUR: 'it returns false'. Refute it at one input. -/
def listAllWrong : ChangeSpec := { name := "listAll", fn := fun _ => fun
  | [d] => { results := [.lit (.bool false)], args := [d] }
  | _ => none }
def ListAllWrongFalsely : Prop := listAllRow.holds Tryd.pinned (OpenSpec.ofChange listAllWrong)

/-- 'censuslaw37.ListSteps': WHATEVER THE INPUT: true; the input reads as it did. -/
def listStepsSpec : ChangeSpec := { name := "listSteps", fn := fun _ => fun
  | [d] => { results := [.lit (.bool true)], args := [d] }
  | _ => none }
def listStepsRow : OpenClaim := { program := "ytemgfhdgpkmmaaadoor", sum := "40237b26a428d898868f40994bd2d11681c7f008855263d6c84a4172f9958e83", func := "census/censuslaw37.ListSteps", spec := "listSteps", unfollowed := true, recurses := true, named := ["math/bits.deBruijn64tab"], apart := false, laid := [("math/bits.deBruijn64tab", laid_math_bits_deBruijn64tab)] }
def ListStepsSaid : Prop := listStepsRow.holds Tryd.pinned (OpenSpec.ofChange listStepsSpec)

/-- ITS FALSE NEIGHBOUR: 'it returns false'. Refute it at one input. -/
def listStepsWrong : ChangeSpec := { name := "listSteps", fn := fun _ => fun
  | [d] => { results := [.lit (.bool false)], args := [d] }
  | _ => none }
def ListStepsWrongFalsely : Prop := listStepsRow.holds Tryd.pinned (OpenSpec.ofChange listStepsWrong)

/-- 'censuslaw37.ListNone': WHATEVER THE INPUT: true; the input reads as it did. -/
def listNoneSpec : ChangeSpec := { name := "listNone", fn := fun _ => fun
  | [d1, d2] => { results := [.lit (.bool true)], args := [d1, d2] }
  | _ => none }
def listNoneRow : OpenClaim := { program := "ytemgfhdgpkmmaaadoor", sum := "40237b26a428d898868f40994bd2d11681c7f008855263d6c84a4172f9958e83", func := "census/censuslaw37.ListNone", spec := "listNone", unfollowed := true, recurses := true, named := ["math/bits.deBruijn64tab"], apart := false, laid := [("math/bits.deBruijn64tab", laid_math_bits_deBruijn64tab)] }
def ListNoneSaid : Prop := listNoneRow.holds Tryd.pinned (OpenSpec.ofChange listNoneSpec)

/-- ITS FALSE NEIGHBOUR: 'it returns false'. Refute it at one input. -/
def listNoneWrong : ChangeSpec := { name := "listNone", fn := fun _ => fun
  | [d1, d2] => { results := [.lit (.bool false)], args := [d1, d2] }
  | _ => none }
def ListNoneWrongFalsely : Prop := listNoneRow.holds Tryd.pinned (OpenSpec.ofChange listNoneWrong)

/-- 'censuslaw37.ListPlaces': WHATEVER THE INPUT: true; the input reads as it did. -/
def listPlacesSpec : ChangeSpec := { name := "listPlaces", fn := fun _ => fun
  | [d] => { results := [.lit (.bool true)], args := [d] }
  | _ => none }
def listPlacesRow : OpenClaim := { program := "ytemgfhdgpkmmaaadoor", sum := "40237b26a428d898868f40994bd2d11681c7f008855263d6c84a4172f9958e83", func := "census/censuslaw37.ListPlaces", spec := "listPlaces", unfollowed := true, recurses := true, named := ["math/bits.deBruijn64tab", "census/shape.patterns"], apart := false, laid := [("math/bits.deBruijn64tab", laid_math_bits_deBruijn64tab), ("census/shape.patterns", laid_census_shape_patterns)] }
def ListPlacesSaid : Prop := listPlacesRow.holds Tryd.pinned (OpenSpec.ofChange listPlacesSpec)

/-- ITS FALSE NEIGHBOUR: 'it returns false'. Refute it at one input. -/
def listPlacesWrong : ChangeSpec := { name := "listPlaces", fn := fun _ => fun
  | [d] => { results := [.lit (.bool false)], args := [d] }
  | _ => none }
def ListPlacesWrongFalsely : Prop := listPlacesRow.holds Tryd.pinned (OpenSpec.ofChange listPlacesWrong)

/- THE SECOND FORM. 'bulk': how many values and letters a reading holds, each counted each time it is reached (what is shared counts as often as it is met; a slice's spare places count too). A statement '..UptoSaid' is the law's where the arguments, and the package variables that the reading takes, are together of bulk at most 1048576: NARROWER than '..Said'. Prove '..Said' where nothing that the law and all that it calls make is longer than what came in: it says more and counts as full. Else prove '..UptoSaid'. A law counts once. -/
mutual
def uptoBulk {H : Type} : DataW H → Nat
  | .lit (.string bytes) => bytes.length + 1
  | .lit _ => 1
  | .nil => 1
  | .ptr d => uptoBulk d + 1
  | .slice elems spare => uptoBulkAll elems + uptoBulkAll spare + 1
  | .agg parts => uptoBulkAll parts + 1
  | .iface _ d => uptoBulk d + 1
  | .map entries => uptoBulkEntries entries + 1
  | .held _ => 1
def uptoBulkAll {H : Type} : List (DataW H) → Nat
  | [] => 0
  | d :: r => uptoBulk d + uptoBulkAll r
def uptoBulkEntries {H : Type} : List (Lit × DataW H) → Nat
  | [] => 0
  | x :: r => uptoBulkEntry x + uptoBulkEntries r
def uptoBulkEntry {H : Type} : Lit × DataW H → Nat
  | (.string bytes, d) => bytes.length + uptoBulk d + 1
  | (_, d) => uptoBulk d + 1
 end
def uptoSmall : (H : Type) → List (DataW H) → Bool := fun _ ds => decide (uptoBulkAll ds ≤ 1048576)
def OpenSpec.upto (s : _root_.Go.ChangeSpec) : _root_.Go.OpenSpec := { _root_.Go.OpenSpec.ofChange s with cond := some uptoSmall }

/-- 'censuslaw37.ListSeeks', WHERE WHAT IT READS IS OF BULK AT MOST 1048576: true; the input reads as it did. -/
def listSeeksUptoRow : OpenClaim := { program := "ytemgfhdgpkmmaaadoor", sum := "40237b26a428d898868f40994bd2d11681c7f008855263d6c84a4172f9958e83", func := "census/censuslaw37.ListSeeks", spec := "listSeeks", unfollowed := true, recurses := true, named := ["math/bits.deBruijn64tab"], apart := false, laid := [("math/bits.deBruijn64tab", laid_math_bits_deBruijn64tab)], narrowed := true }
def ListSeeksUptoSaid : Prop := listSeeksUptoRow.holds Tryd.pinned (OpenSpec.upto listSeeksSpec)

/-- 'censuslaw37.ListSought', WHERE WHAT IT READS IS OF BULK AT MOST 1048576: true; the input reads as it did. -/
def listSoughtUptoRow : OpenClaim := { program := "ytemgfhdgpkmmaaadoor", sum := "40237b26a428d898868f40994bd2d11681c7f008855263d6c84a4172f9958e83", func := "census/censuslaw37.ListSought", spec := "listSought", unfollowed := true, recurses := true, named := ["math/bits.deBruijn64tab"], apart := false, laid := [("math/bits.deBruijn64tab", laid_math_bits_deBruijn64tab)], narrowed := true }
def ListSoughtUptoSaid : Prop := listSoughtUptoRow.holds Tryd.pinned (OpenSpec.upto listSoughtSpec)

/-- 'censuslaw37.ListFree', WHERE WHAT IT READS IS OF BULK AT MOST 1048576: true; the input reads as it did. -/
def listFreeUptoRow : OpenClaim := { program := "ytemgfhdgpkmmaaadoor", sum := "40237b26a428d898868f40994bd2d11681c7f008855263d6c84a4172f9958e83", func := "census/censuslaw37.ListFree", spec := "listFree", unfollowed := true, recurses := true, named := ["math/bits.deBruijn64tab"], apart := false, laid := [("math/bits.deBruijn64tab", laid_math_bits_deBruijn64tab)], narrowed := true }
def ListFreeUptoSaid : Prop := listFreeUptoRow.holds Tryd.pinned (OpenSpec.upto listFreeSpec)

/-- 'censuslaw37.ListKnown', WHERE WHAT IT READS IS OF BULK AT MOST 1048576: true; the input reads as it did. -/
def listKnownUptoRow : OpenClaim := { program := "ytemgfhdgpkmmaaadoor", sum := "40237b26a428d898868f40994bd2d11681c7f008855263d6c84a4172f9958e83", func := "census/censuslaw37.ListKnown", spec := "listKnown", unfollowed := true, recurses := true, named := ["math/bits.deBruijn64tab"], apart := false, laid := [("math/bits.deBruijn64tab", laid_math_bits_deBruijn64tab)], narrowed := true }
def ListKnownUptoSaid : Prop := listKnownUptoRow.holds Tryd.pinned (OpenSpec.upto listKnownSpec)

/-- 'censuslaw37.ListWalks', WHERE WHAT IT READS IS OF BULK AT MOST 1048576: true; the input reads as it did. -/
def listWalksUptoRow : OpenClaim := { program := "ytemgfhdgpkmmaaadoor", sum := "40237b26a428d898868f40994bd2d11681c7f008855263d6c84a4172f9958e83", func := "census/censuslaw37.ListWalks", spec := "listWalks", unfollowed := true, recurses := true, named := ["math/bits.deBruijn64tab"], apart := false, laid := [("math/bits.deBruijn64tab", laid_math_bits_deBruijn64tab)], narrowed := true }
def ListWalksUptoSaid : Prop := listWalksUptoRow.holds Tryd.pinned (OpenSpec.upto listWalksSpec)

/-- 'censuslaw37.ListAll', WHERE WHAT IT READS IS OF BULK AT MOST 1048576: true; the input reads as it did. -/
def listAllUptoRow : OpenClaim := { program := "ytemgfhdgpkmmaaadoor", sum := "40237b26a428d898868f40994bd2d11681c7f008855263d6c84a4172f9958e83", func := "census/censuslaw37.ListAll", spec := "listAll", unfollowed := true, recurses := true, named := ["math/bits.deBruijn64tab"], apart := false, laid := [("math/bits.deBruijn64tab", laid_math_bits_deBruijn64tab)], narrowed := true }
def ListAllUptoSaid : Prop := listAllUptoRow.holds Tryd.pinned (OpenSpec.upto listAllSpec)

/-- 'censuslaw37.ListSteps', WHERE WHAT IT READS IS OF BULK AT MOST 1048576: true; the input reads as it did. -/
def listStepsUptoRow : OpenClaim := { program := "ytemgfhdgpkmmaaadoor", sum := "40237b26a428d898868f40994bd2d11681c7f008855263d6c84a4172f9958e83", func := "census/censuslaw37.ListSteps", spec := "listSteps", unfollowed := true, recurses := true, named := ["math/bits.deBruijn64tab"], apart := false, laid := [("math/bits.deBruijn64tab", laid_math_bits_deBruijn64tab)], narrowed := true }
def ListStepsUptoSaid : Prop := listStepsUptoRow.holds Tryd.pinned (OpenSpec.upto listStepsSpec)

/-- 'censuslaw37.ListNone', WHERE WHAT IT READS IS OF BULK AT MOST 1048576: true; the input reads as it did. -/
def listNoneUptoRow : OpenClaim := { program := "ytemgfhdgpkmmaaadoor", sum := "40237b26a428d898868f40994bd2d11681c7f008855263d6c84a4172f9958e83", func := "census/censuslaw37.ListNone", spec := "listNone", unfollowed := true, recurses := true, named := ["math/bits.deBruijn64tab"], apart := false, laid := [("math/bits.deBruijn64tab", laid_math_bits_deBruijn64tab)], narrowed := true }
def ListNoneUptoSaid : Prop := listNoneUptoRow.holds Tryd.pinned (OpenSpec.upto listNoneSpec)

/-- 'censuslaw37.ListPlaces', WHERE WHAT IT READS IS OF BULK AT MOST 1048576: true; the input reads as it did. -/
def listPlacesUptoRow : OpenClaim := { program := "ytemgfhdgpkmmaaadoor", sum := "40237b26a428d898868f40994bd2d11681c7f008855263d6c84a4172f9958e83", func := "census/censuslaw37.ListPlaces", spec := "listPlaces", unfollowed := true, recurses := true, named := ["math/bits.deBruijn64tab", "census/shape.patterns"], apart := false, laid := [("math/bits.deBruijn64tab", laid_math_bits_deBruijn64tab), ("census/shape.patterns", laid_census_shape_patterns)], narrowed := true }
def ListPlacesUptoSaid : Prop := listPlacesUptoRow.holds Tryd.pinned (OpenSpec.upto listPlacesSpec)

end Rows
end Go.Proofs.YtemgfhdgpkmmaaaDoor
