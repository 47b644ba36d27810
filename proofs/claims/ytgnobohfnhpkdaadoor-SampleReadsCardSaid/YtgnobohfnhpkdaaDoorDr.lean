/- The walk of weigh.newAdder. -/
import Derived.Test.YtgnobohfnhpkdaaDoorDo
import Derived.Test.YtgnobohfnhpkdaaDoorDq
set_option linter.unusedSimpArgs false
set_option linter.unusedVariables false
open Go Go.RowKit Cs
namespace Cs
/-- An adder in memory: the net, and the sets of its nodes' variables. -/
structure AdAt (w : World) (tA tS : TypeId) (B ga go : Nat) (N : Nt) (A : Option Addr) (c : Nat) : Prop where
  ad : w.rowIs ga tA 3 (arrF #[.int .i64 N.n, .slice A N.l.length c, .slice (some ⟨go, 0, none⟩) N.l.length N.l.length])
  own : w.rowIs go tS (N.l.length * 2) (setsF (own N.l))
  la : ga < B
  lo : go < B
  net : NtAt w B A N.l
section
variable {w w' : World} {tA tS : TypeId} {B B' ga go : Nat} {N : Nt} {A : Option Addr} {c : Nat}
theorem AdAt.below (h : AdAt w tA tS B ga go N A c) (hb : Below B w w') : AdAt w' tA tS B ga go N A c :=
  ⟨rowBelow' h.ad hb h.la, rowBelow' h.own hb h.lo, h.la, h.lo, h.net.below hb⟩
theorem AdAt.more (h : AdAt w tA tS B ga go N A c) (hB : B ≤ B') : AdAt w tA tS B' ga go N A c := ⟨h.ad, h.own, Nat.lt_of_lt_of_le h.la hB, Nat.lt_of_lt_of_le h.lo hB, h.net.more hB⟩
end
end Cs
namespace Go.Proofs.YtgnobohfnhpkdaaDoor
set_option maxRecDepth 100000 in
set_option maxHeartbeats 1000000 in
theorem newAdder_any (w : World) (N : Nt) (A : Option Addr) (c : Nat) (hN : NtAt w w.heap.size A N.l) (hv : vld N = true) :
    Calls Tryd.prog 43 #[ntV N A c] w fun e w' => ∃ ga go, e = .returned (.pointer (some ⟨ga, 0, none⟩)) ∧ w.heap.size ≤ ga ∧ AdAt w' 106 30 w'.heap.size ga go N A c ∧ Below w.heap.size w w' := by
  have hnv := fun W h => nodeVars_any W N A c h hv
  have HNV := Lib.hid hnv
  have hbox := ntNew w N A c 24 _ rfl
  have hbl : Below w.heap.size w (w.alloc (.cells #[.int .i64 N.n, .slice A N.l.length c] 24)) := (Below.refl _ _).alloc (Nat.le_refl _) _
  clear hnv hv
  obtain ⟨n, l⟩ := N
  go_enter Tryd.func43, Tryd.ntmps43
  go_wp2_with fail
  replace hbox := hbox.drew
  replace hbl := hbl.drew
  obtain ⟨c1, c2⟩ := ntCells hbox
  go_region_held3 (fun w' => w'.cell? ⟨w.heap.size, 0, none⟩ = some (.int .i64 n) ∧ w'.cell? ⟨w.heap.size, 1, none⟩ = some (.slice A l.length c))
    (first | exact ⟨c1, c2⟩ | go_keep)
    (first
      | (go_simp
         go_at_call 30
         (with_reducible refine (HNV.out _ ((hN.below hbl).more hbl.size)).mono ?_)
         rintro e w6 ⟨g, rfl, hg, hrow6, hb6⟩
         replace hbox := rowBelow hbox hb6
         replace hbl := Cs.Below.trans' hbl hb6 hbl.size
         obtain ⟨c1, c2⟩ := ntCells hbox))
  have hlt := hrow6.lt
  have hbl7 := hbl.alloc hbl.size (.cells #[.int .i64 n, .slice A l.length c, .slice (some ⟨g, 0, none⟩) l.length l.length] 106)
  all_goals
    try go_wp2
    go_ret
    exact ⟨w6.heap.size, g, rfl, hbl.size, ⟨arrNew w6 _ _ _ 3 rfl rfl, hrow6.alloc _, by simp, by simp; omega, (hN.below hbl7).more hbl7.size⟩, hbl7⟩
end Go.Proofs.YtgnobohfnhpkdaaDoor
