import Derived.Test.YtmhllppjcilllaaGreatDoorN4
import Derived.ProofKit
import Derived.OpenShut
import Derived.Lib.SmallJoins
import Derived.Deep.Slices
import Derived.Deep.Strs
import Derived.SizedLaws
import Derived.Test.YtmhllppjcilllaaGreatDoorCards
import Derived.Test.YtmhllppjcilllaaGreatDoorTie
import Derived.Deep.DeepHandedRow
import Derived.Lib.LaidTab
import Derived.Carry
import Derived.Test.YtmhllppjcilllaaGreatDoorV1
set_option linter.unusedSimpArgs false
set_option linter.unusedVariables false
section
set_option maxRecDepth 100000
section
open Go Go.RowKit Cs Go.ChangeShapes Go.WideShapes Go.ChangeAt Go.Joins Go.Deep
namespace Go.Proofs.YtmhllppjcilllaaGreatDoor
theorem mem_all {H : Type} {P : Program} {e : TypeId} : ∀ {l : List (DataW H)} {d : DataW H}, d ∈ l → ∀ n ∈ d.weights P e, n ∈ DataW.weightsAll P e l
 | x :: xs, d, hd, n, hn => by
   simp only [DataW.weightsAll, List.mem_append];rcases List.mem_cons.1 hd with rfl | hd
   ·exact .inl hn
   ·exact .inr (mem_all hd n hn)
 | [], _, hd, _, _ => by cases hd
theorem cells_int : Tryz.prog.cellsOf 3 = 1 := by kernel_rfl
theorem cells_ints : Tryz.prog.cellsOf 26 = 1 := by kernel_rfl
theorem cells_node : Tryz.prog.cellsOf 66 = 3 := by kernel_rfl
theorem cells_net : Tryz.prog.cellsOf 24 = 2 := by kernel_rfl
theorem bytes_int : Tryz.prog.bytesOf 3 = 8 := by kernel_rfl
theorem bytes_node : Tryz.prog.bytesOf 66 = 40 := by kernel_rfl
section
variable {H : Type} {enc : TypeId × Value → H} {W : World} {fuel : Nat}
theorem wf_r64 {n : Int} (h : (Lit.int .i64 n).wf = true) : r64 n := by
 simp [Lit.wf, IntKind.min, IntKind.max, IntKind.signed, IntKind.bits] at h
 unfold r64; omega
theorem open_inL {v : Value} {y : DataW H × List MemPlace} (h : DataW.trod enc Tryz.prog W 0 (fun _ => true) true fuel 26 [v] = some y) (hw : ∀ n ∈ y.1.weights Tryz.prog 26, n ≤ reachBytes) :
  ∃ (A : Option Addr) (L : List Int) (c : Nat), v = .slice A L.length c ∧ L.length ≤ 140737488355328 ∧ Rd W W.heap.size A L.length (intF L) ∧ ∀ i ∈ L, r64 i := by
 rcases open_ints Tryz.underlying26 Tryz.underlying3 cells_int h with ⟨hcs, _⟩ | ⟨a, len, cap, zs, hcs, _, hl, hm, hz, hx, hcell, hwz⟩
 ·simp only [List.cons.injEq, and_true] at hcs;exact ⟨none, [], 0, hcs, by simp, fun h => absurd h (by simp), fun i hi => by cases hi⟩
 ·simp only [List.cons.injEq, and_true] at hcs;simp only [if_true] at hz
  have hlen : (zs.take len).length = len := by rw [List.length_take]; omega
  have hwt := hw (((lits IntKind.i64 (zs.take len) : List (DataW H)).length + (lits IntKind.i64 (zs.drop len) : List (DataW H)).length) * Tryz.prog.bytesOf 3) (by rw [hx]; simp [DataW.weights, Tryz.underlying26])
  have hl2 : len * 8 ≤ reachBytes := by
   refine Nat.le_trans ?_ hwt;rw [bytes_int];apply Nat.mul_le_mul_right
   simp [lits]; omega
  refine ⟨some a, zs.take len, cap, by rw [hlen]; exact hcs, by rw [hlen]; unfold reachBytes at hl2; omega, fun hn => ?_, fun i hi => wf_r64 (hwz i (List.mem_of_mem_take hi))⟩;rw [hlen] at hn;obtain ⟨b, off, rfl, hc⟩ := ints_at hcell (by omega);refine ⟨b, off, rfl, World.block_lt_of_cell? W _ (hc 0 (by omega)), fun i hi => ?_⟩;rw [hlen] at hi;rw [hc i (by omega)];unfold intF;rw [List.getD_eq_getElem?_getD, List.getD_eq_getElem?_getD, List.getElem?_take_of_lt hi]
theorem open_nd {cs : List Value} {y : DataW H × List MemPlace} (h : DataW.trod enc Tryz.prog W 0 (fun _ => true) true fuel 66 cs = some y) (hw : ∀ n ∈ y.1.weights Tryz.prog 66, n ≤ reachBytes) :
  ∃ (x : Nd) (A : Option Addr) (c : Nat), cs = [.int .i64 x.kind, .int .i64 x.lit, .slice A x.ins.length c] ∧ Rd W W.heap.size A x.ins.length (intF x.ins) ∧ r64 x.kind ∧ r64 x.lit ∧ (∀ i ∈ x.ins, r64 i) ∧ x.ins.length ≤ 140737488355328 := by
 obtain ⟨y0, y1, y2, n, rfl, hl, h0, h1, h2⟩ := trod_struct3 Tryz.underlying66 h;rw [cells_node] at hl
 match cs, hl with
 | [c0, c1, c2], _ =>
   obtain ⟨k, e0, rfl, w0⟩ := DataW.trod_int Tryz.underlying3 h0;obtain ⟨l, e1, rfl, w1⟩ := DataW.trod_int Tryz.underlying3 h1;simp [cells_int] at e0 e1
   have h2' : DataW.trod enc Tryz.prog W 0 (fun _ => true) true n 26 [c2] = some y2 := by simpa [cells_ints] using h2
   obtain ⟨A, L, c, rfl, hL, hr, hi⟩ := open_inL h2' fun m hm => hw m (by
    simp only [DataW.weights, Tryz.underlying66]
    exact DataW.weights_mem_each (j := 2) rfl rfl m hm)
   exact ⟨⟨k, l, L⟩, A, c, by rw [e0, e1], hr, wf_r64 w0, wf_r64 w1, hi, hL⟩
end
end Go.Proofs.YtmhllppjcilllaaGreatDoor
end
section
open Go Go.RowKit Cs Go.ChangeShapes Go.WideShapes Go.ChangeAt
namespace Go.Proofs.YtmhllppjcilllaaGreatDoor
theorem ownA : ownKnob Tryz.prog.godebug = none := by kernel_rfl
theorem laidOutA : laidOutB Tryz.prog = true := by kernel_rfl
theorem gTab : Tryz.prog.globalNamed "math/bits.deBruijn64tab" = some 1 := by kernel_rfl
theorem gTabType : (Tryz.prog.globals[1]?).map (·.type) = some 214 := by kernel_rfl
theorem cellsTab : Tryz.prog.cellsOf 214 = 64 := by kernel_rfl
theorem cellsU8 : Tryz.prog.cellsOf 5 = 1 := by kernel_rfl
theorem tab_of {W : World} (h : laidMetH Tryz.prog [("math/bits.deBruijn64tab", Rows.laid_math_bits_deBruijn64tab)] W) : Tab W := by
 have ht : Lib.TabIs Tryz.prog W "math/bits.deBruijn64tab" .u8 (Lib.deBruijn64tab.map fun n : Nat => (n : Int)) :=
  Lib.tabIs_of_head (rest := []) gTab gTabType Tryz.underlying214 Tryz.underlying5 cellsU8 cellsTab h
 intro j hj;have h1 := ht.cell gTab j (by simpa [Lib.deBruijn64tab] using hj);rw [h1]
 congr 2
 rw [List.getD_eq_getElem?_getD, List.getD_eq_getElem?_getD, List.getElem?_map]
 cases Lib.deBruijn64tab[j]? <;> rfl
noncomputable def laidWorld (os : Os) : World :=
 { World.holding Tryz.prog os ⟨#[], #[], []⟩ with heap := (World.holding Tryz.prog os ⟨#[], #[], []⟩).heap.modify 1 fun
    | .cells _ t frozen => .cells (Lib.deBruijn64tab.map fun n : Nat => Value.int .u8 (n : Int)).toArray t frozen
    | o => o }
section
variable {H : Type} {enc : TypeId × Value → H} {P : Program}
theorem post_law {f : Func} {s : ChangeSpec} {apart fresh handsOn again : Bool} {W W' : World} {args : Array Value} {v : Value} {ds gs : List (DataW H)} {before : List MemPlace}
  (hW : DataW.Whole enc P f.params.toList s.vars apart W args.toList ds gs before)
  (hres : ∀ (b : Nat) (sp : Nat → Bool) (hd : Bool), DataW.TrodAll enc P W' b sp hd f.resultTypes.toList (v.resultList f.resultTypes.size) (s.fn H (ds ++ gs)).results [])
  (hargs : ∀ sp : Nat → Bool, (∀ p ∈ before, sp p.block = true) → DataW.TrodAll enc P W' 0 sp true f.params.toList args.toList (s.fn H (ds ++ gs)).args before)
  (hvars : ∀ sp : Nat → Bool, DataW.TrodVars enc P W' sp s.vars (s.fn H (ds ++ gs)).vars [])
  (hb : Below W.heap.size W W')
  (hok : ∀ (j : Nat) (t : TypeId) (r : Value), f.resultTypes[j]? = some t → (v.resultList f.resultTypes.size)[j]? = some r → Value.okWide P W' .any 0 t r) :
  s.post enc P f apart fresh handsOn again W args v W' := by
 have hlt : ∀ p ∈ before, p.block < W.heap.size := fun p hp => hW.lt p hp
 have hold : ∀ p ∈ before, (fun b => decide (b < W.heap.size)) p.block = true := fun p hp => by simpa using hlt p hp
 refine ⟨ds, gs, before, [], before, [], hW, hres _ _ _, hargs _ hold, hvars _, World.keptBut_mono (fun p hp => ⟨hp, .inr (.inl hp)⟩) (hb.frame (· ∈ before)), fun _ => ?_⟩;obtain ⟨_, _, _, _, _, hz, hn⟩ := hW;refine ⟨hok, _, _, ([] ++ before) ++ [], ⟨[] ++ before, [], trodAll_append (hargs _ (fun _ _ => rfl)) (hres _ _ _), hvars _, rfl, ?_, ?_⟩, ?_⟩
 ·intro b off hp
  have hin : MemPlace.cell b off ∈ before := by simpa using hp
  rw [hb.frozen (hlt _ hin)];exact hz b off hin
 ·intro ha
  simpa using hn ha
 ·intro p hp _
  simpa using hp
theorem trod_kept {t : TypeId} (hl : laidOutB P = true) (hr : P.readableRec t = true) (hrow : t < P.types.size) {W W' : World} {v : Value} {d : DataW H} {ps : List MemPlace} {sp : Nat → Bool}
  (h : DataW.Trod enc P W 0 (fun _ => true) true t v d ps) (hb : Below W.heap.size W W') (hlt : ∀ x ∈ ps, x.block < W.heap.size) (hsp : ∀ x ∈ ps, sp x.block = true) : DataW.Trod enc P W' 0 sp true t v d ps :=
 WideElems.Trod_stays hl hr hrow h (fun x hx => hb.same (hlt x hx)) hsp
end
end Go.Proofs.YtmhllppjcilllaaGreatDoor
end
end
section
set_option maxRecDepth 100000
open Go Go.RowKit Cs Go.ChangeShapes Go.WideShapes Go.ChangeAt Go.Joins Go.Deep
namespace Go.Proofs.YtmhllppjcilllaaGreatDoor
theorem open_u8 {H : Type} {enc : TypeId × Value → H} {W : World} {r : Reach} {b0 : Nat} {v : Value} {d : DataW H} {p : List MemPlace} (hv : Value.okWide Tryz.prog W r b0 5 v) (h : DataW.Trod enc Tryz.prog W 0 (fun _ => true) true 5 v d p) :
  ∃ n : Nat, v = .int .u8 (n : Int) ∧ n < 256 := by
 obtain ⟨z, rfl⟩ := okWide_int Tryz.underlying5 hv;obtain ⟨fuel, hf⟩ := h;obtain ⟨z', hz, _, hw⟩ := DataW.trod_int Tryz.underlying5 hf;simp only [Value.cells, List.cons.injEq, Value.int.injEq, and_true, true_and] at hz;subst hz;have hb := bounds_u8 hw;refine ⟨z.toNat, ?_, by omega⟩;rw [Int.toNat_of_nonneg hb.1]
end Go.Proofs.YtmhllppjcilllaaGreatDoor
end
