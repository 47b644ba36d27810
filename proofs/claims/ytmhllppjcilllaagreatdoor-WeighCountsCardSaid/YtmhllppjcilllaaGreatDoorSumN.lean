import Derived.Test.YtmhllppjcilllaaGreatDoorS2
import Derived.Test.YtmhllppjcilllaaGreatDoorM1
set_option linter.unusedSimpArgs false
set_option linter.unusedVariables false
set_option maxRecDepth 100000
set_option maxHeartbeats 8000000
open Go Go.RowKit Cs
namespace Go.Proofs.YtmhllppjcilllaaGreatDoor
theorem sumNat_any (w : World) (N : Nt) (A : Option Addr) (c p q : Nat) (nt : Int) (hN : NtAt w w.heap.size A N.l) (hv : vld N = true) (hsh : shortB N = true)
  (hq : w.cell? ⟨q, 0, none⟩ = some (wtV p)) (hp : w.cell? ⟨p, 0, none⟩ = some (.int .i64 nt)) (hT : Tab w) :
  Calls Tryz.prog 86 #[ntV N A c, numV p q] w fun e w' => e = .returned (natV ((RN nt).sum N)) ∧ Below w.heap.size w w' := by
 obtain ⟨hn0, hn1, hl0, hl1⟩ := vld_bounds hv;have hfm := fun k hk => vld_formed hv k hk;have hnv := fun W h => nodeVars_any W N A c h hv
 have HNV := zqh hnv; clear hnv
 have hpt := RN_part hsh nt;have hpre := RN_pre hsh nt;obtain ⟨n, l⟩ := N;simp only at hN hn0 hn1 hl0 hl1 hfm hpt hpre
 have HF := zqh hfm; clear hfm hv hsh
 have hplt := World.block_lt_of_cell? w _ hp;have hqlt := World.block_lt_of_cell? w _ hq;simp only at hplt hqlt;have hmk := mk_nat l.length (by omega);obtain ⟨Wa, hWa⟩ : ∃ Wa, ((w.alloc (.cells #[.int .i64 n, .slice A l.length c] 24)).alloc (.cells (numA p q) 136)).alloc (.cells #[.string ⟨#[]⟩] 31) = Wa := ⟨_, rfl⟩
 have hnetA : Wa.rowIs w.heap.size 24 2 (ntF ⟨n, l⟩ A c) := by rw [← hWa]; exact ((ntNew w ⟨n, l⟩ A c _ _ rfl).alloc _).alloc _
 have hringA : Wa.rowIs (w.heap.size + 1) 136 6 (ringF (numA p q)) := by
  rw [← hWa]
  have h := World.rowIs_alloc (w.alloc (.cells #[.int .i64 n, .slice A l.length c] 24)) (numA p q) 136 (ringF (numA p q)) fun i hi => by
   unfold ringF; rw [Array.getD_eq_getD_getElem?, Array.getElem?_eq_getElem hi]; rfl
  simp at h;exact h.alloc _
 have hresA : Wa.rowIs (w.heap.size + 1 + 1) 31 1 (fun _ => .string ⟨#[]⟩) := by rw [← hWa]; exact boxNew _ _ _ _ (by simp)
 have hblA : Below w.heap.size w Wa := by rw [← hWa]; exact (((zqr _ _).alloc (zqn _) _).alloc (by simp) _).alloc (by simp; omega) _
 have hzA : Wa.heap.size = w.heap.size + 1 + 1 + 1 := by rw [← hWa]; simp
 have HWA := zqh hWa; clear hWa
 go_enter Tryz.func86, Tryz.ntmps86
 go_wp2_with (
  go_at_call 65
  rw [HWA.out]
  (with_reducible refine (HNV.out _ ((hN.below hblA).more hblA.size)).mono ?_)
  rintro e w6 ⟨g, rfl, hg, hrow6, hb6⟩;have hnet6 := rowBelow hnetA hb6;have hring6 := rowBelow hringA hb6;have hres6 := rowBelow hresA hb6;have hbl6 := zqx hblA hb6 hblA.size;have hg6 := hrow6.lt;have hw6 := hres6.lt
  have hw62 : w.heap.size < w6.heap.size := by omega
  have hw63 : w.heap.size < w6.heap.size + 1 := by omega
  have hw64 : w.heap.size < w6.heap.size + 1 + 1 := by omega
  obtain ⟨hc1, hc2⟩ := ntCells hnet6)
 obtain ⟨O, hO⟩ : ∃ O, own l = O := ⟨_, rfl⟩;simp only [hO] at hrow6 hpt hpre
 have hOl : O.length = l.length := by rw [← hO]; exact own_len l
 have hsum : (RN nt).sum ⟨n, l⟩ = (RN nt).gap O (scan ((RN nt).step O) [] l) (allTo n) (l.length - 1) := by unfold Rg.sum Rg.all; simp only [hO]
 have HSUM := zqh hsum;have HPT := zqh hpt;have HPRE := zqh hpre;clear hsum hpt hpre hO
 have hE : SE w w6.heap.size g n l A c p q O [] (((w6.alloc (.cells #[.slice (some ⟨g, 0, none⟩) l.length l.length] 115)).alloc (.cells (madeCells #[.string ⟨#[]⟩] l.length) 31)).alloc (.cells #[.slice (some ⟨w6.heap.size + 1, 0, none⟩) l.length l.length] 90)) :=
  ⟨((hnet6.alloc _).alloc _).alloc _, ((hring6.alloc _).alloc _).alloc _, ((hres6.alloc _).alloc _).alloc _, ((boxNew w6 _ _ _ rfl).alloc _).alloc _, (natsMade _ _ _ _ (by simp)).alloc _, boxNew _ _ _ _ (by simp), ((hrow6.alloc _).alloc _).alloc _,
    ((hbl6.alloc (by omega) _).alloc (by simp; omega) _).alloc (by simp; omega) _⟩
 clear hnetA hringA hresA hblA HWA HNV hrow6 hb6 hnet6 hring6 hres6 hbl6 hc1 hc2 hmk hzA hg
 go_loopw [24] (fun t wr => ∃ k : Nat, k ≤ l.length ∧ t = .int .i64 k ∧ SE w w6.heap.size g n l A c p q O (scan ((RN nt).step O) [] (l.take k)) wr) (fun t _ => l.length - (intOf t).toNat)
 case atStart => exact ⟨0, by omega, rfl, hE⟩
 case round =>
  clear hE;obtain ⟨k, hk, rfl, hE⟩ := hrel;have hz1 := hE.bl.size;have hz2 := hE.b6.lt;by_cases hlt : k < l.length
  ·obtain ⟨b, o, rfl, hbB, hcs⟩ := hN (by omega);have hnd := hcs k hlt;clear hcs;have hfk := HF.out k hlt;have hpt := fun m => HPT.out k hlt m;have hpre := fun j => HPRE.out k hk j;have hnext := scan_take ((RN nt).step O) l k hlt;have hLl := scan_len ((RN nt).step O) l k hk;obtain ⟨x, hx⟩ : ∃ x, l[k] = x := ⟨_, rfl⟩;obtain ⟨L, hL⟩ : ∃ L, scan ((RN nt).step O) [] (l.take k) = L := ⟨_, rfl⟩;rw [hx] at hnd hfk;simp only [hx, hL] at hpt;rw [hx, hL] at hnext;rw [hL] at hLl hE;simp only [hL] at hpre;have HPT2 := zqh hpt;have HPRE2 := zqh hpre;have HNX := zqh hnext;clear hpt hpre hnext hx hL;have hin := formed_ins hfk
   have HIN := zqh hin; clear hin
   obtain ⟨hk1, hk2, ⟨A', c', hk3, hrd⟩, hr1, hr2, hr3, hr4⟩ := hnd;replace hk1 := below_cell hE.bl hbB hk1;replace hk2 := below_cell hE.bl hbB hk2;replace hk3 := below_cell hE.bl hbB hk3
   have HRD := zqh hrd; clear hrd
   obtain ⟨W0, rfl⟩ : ∃ W0, W0 = wr := ⟨wr, rfl⟩
   have hxN := World.rowIs_alloc W0 #[.int .i64 x.kind, .int .i64 x.lit, .slice A' x.ins.length c'] 66 (fun i => if i = 0 then .int .i64 x.kind else if i = 1 then .int .i64 x.lit else .slice A' x.ins.length c') fun i hi => by
    have : i = 0 ∨ i = 1 ∨ i = 2 := by simp at hi; omega
    rcases this with rfl | rfl | rfl <;> rfl
   simp only [List.size_toArray, List.length_cons, List.length_nil, Nat.zero_add, Nat.reduceAdd] at hxN;have hEN := hE.alloc (.cells #[.int .i64 x.kind, .int .i64 x.lit, .slice A' x.ins.length c'] 66)
   have hi3 : (0 : Int) ≤ (k : Int) := by omega
   have hi4 : (k : Int) < (l.length : Int) := by omega
   have hkl2 : k * 2 + 1 < l.length * 2 := by omega
   obtain ⟨hbx5, hbx6⟩ := hEN.boxes;obtain ⟨hf0, hf1, hf2, hf3, hf4, hf5⟩ := hEN.fn;have hfr := hEN.nofr k;have hcur := hEN.at k 0 hlt (by rw [List.getD_eq_getElem?_getD, List.getElem?_eq_none (by omega)]; rfl);have hx0 : (W0.alloc (.cells #[.int .i64 x.kind, .int .i64 x.lit, .slice A' x.ins.length c'] 66)).cell? ⟨W0.heap.size, 1, none⟩ = some (.int .i64 x.lit) := hxN.cell (i := 1) (by omega);have hx2 : (W0.alloc (.cells #[.int .i64 x.kind, .int .i64 x.lit, .slice A' x.ins.length c'] 66)).cell? ⟨W0.heap.size, 2, none⟩ = some (.slice A' x.ins.length c') := hxN.cell (i := 2) (by omega);have HX2 := zqh hx2;clear hx0 hx2;have HNE1 : Hid (w6.heap.size + 1 ≠ w6.heap.size + 1 + 1) := zqh (by omega);have HNE2 : Hid (w6.heap.size + 1 ≠ w.heap.size + 1) := zqh (by omega);have HNE3 : Hid (w6.heap.size + 1 ≠ g) := zqh (by omega);have HNE4 : Hid (w6.heap.size + 1 ≠ w6.heap.size) := zqh (by omega);have HNE5 : Hid (w6.heap.size + 1 ≠ W0.heap.size) := zqh (by omega);have HL0 : Hid (L.getD k 0 = 0) := zqh (by rw [List.getD_eq_getElem?_getD, List.getElem?_eq_none (by omega)]; rfl);have hw62' : w.heap.size + 1 + 1 < w6.heap.size := hw6;rcases formed_kind hfk with ⟨hkk, hil⟩ | h3 | h4
   ·have HIL := zqh hil; clear hil hfk
    rcases hkk with h0 | h1 | h2
    ·have b2 : (x.kind == 2) = false := beq_eq_false_iff_ne.2 (by omega);have b1 : (x.kind == 1) = false := beq_eq_false_iff_ne.2 (by omega);have b3 : (x.kind == 3) = false := beq_eq_false_iff_ne.2 (by omega)
     have H3 := zqh h0; clear h0
     have HST : Hid ((RN nt).start x = 0) := zqh (by unfold Rg.start; rw [if_neg (by rw [H3.out]; decide), if_neg (by rw [H3.out]; decide)]; rfl);have hE' := hEN.drew;have hx' := hxN.drew;obtain ⟨hb5', hb6'⟩ := hE'.boxes;obtain ⟨hf0', hf1', hf2', hf3', hf4', hf5'⟩ := hE'.fn;have hx1' : _ = some (Value.int .i64 x.lit) := hx'.cell (i := 1) (by omega);have hx2' : _ = some (Value.slice A' x.ins.length c') := hx'.cell (i := 2) (by omega)
     go_wp2_with fail
     go_region_held3 (fun w' => w'.cell? ⟨w6.heap.size + 1 + 1, 0, none⟩ = some (Value.slice (some ⟨w6.heap.size + 1, 0, none⟩) l.length l.length) ∧ w'.cell? ⟨w.heap.size + 1, 0, none⟩ = some (Value.func (.func 130) #[] #[]))
      (first | exact ⟨hb6', hf0'⟩ | exact ⟨(World.cell?_setCell_far _ _ _ _ HNE1.out).trans hb6', (World.cell?_setCell_far _ _ _ _ HNE2.out).trans hf0'⟩ | go_keep)
      (first
        | (go_simp
           go_at_call 130
           (with_reducible refine (zero_fn _).mono ?_)
           rintro e w9 ⟨rfl, hb9⟩;replace hE' := hE'.below hb9;obtain ⟨hb5', hb6'⟩ := hE'.boxes;obtain ⟨hf0', hf1', hf2', hf3', hf4', hf5'⟩ := hE'.fn;have hfr' := hE'.nofr k;replace hx' := rowBelow hx' hb9;have hx1' : w9.cell? ⟨W0.heap.size, 1, none⟩ = some (Value.int .i64 x.lit) := hx'.cell (i := 1) (by omega);have hx2' : w9.cell? ⟨W0.heap.size, 2, none⟩ = some (Value.slice A' x.ins.length c') := hx'.cell (i := 2) (by omega)
           have hcur' := hE'.at k 0 hlt HL0.out))
     all_goals
      try go_wp2
      have hE0 := hE'.next hw62' hg6 k 0 hLl.symm;clear hE' hx' hE hEN hxN hk1 hk2 hk3 hbx5 hbx6 hf0 hf1 hf2 hf3 hf4 hf5 hfr hcur HX2 hb5' hb6' hf0' hf1' hf2' hf3' hf4' hf5' hx1' hx2'
      go_loopw [40] (fun t wq => ∃ m s : Nat, m ≤ x.ins.length ∧ t = .int .i64 m ∧ Hid ((x.ins.take m).foldl ((RN nt).in1 O L x) ((RN nt).start x) = s) ∧ SE w w6.heap.size g n l (some ⟨b, o, none⟩) c p q O (L ++ [s]) wq) (fun t _ => x.ins.length - (intOf t).toNat)
      case atStart => exact ⟨0, 0, by omega, rfl, HST.out, hE0⟩
      case round =>
       clear hE0;obtain ⟨m, s, hm, rfl, HP, hE⟩ := hrel;have hz3 := hE.bl.size;have hz4 := hE.b6.lt;by_cases hmlt : m < x.ins.length
       ·have hil := HIL.out;omega
       ·obtain rfl : m = x.ins.length := by omega
        have hfo := HP.out;rw [List.take_length] at hfo;have hst : (RN nt).step O L x = s := hfo;have hnx := HNX.out;rw [hst] at hnx;have HN2 := zqh hnx;clear hfo hst hnx
        go_wp2
        go_roundw
        case rel => exact ⟨k + 1, by omega, by go_num, by rw [HN2.out]; exact hE⟩
        case measure => simp [intOf]; omega
    ·have b2 : (x.kind == 2) = false := beq_eq_false_iff_ne.2 (by omega);have b1 : (x.kind == 1) = true := beq_iff_eq.2 (by omega);have b3 : (x.kind == 3) = false := beq_eq_false_iff_ne.2 (by omega)
     have H3 := zqh h1; clear h1
     have HST : Hid ((RN nt).start x = 1) := zqh (by unfold Rg.start; rw [if_neg (by rw [H3.out]; decide), if_pos (.inl H3.out)]; rfl);have hE' := hEN.drew;have hx' := hxN.drew;obtain ⟨hb5', hb6'⟩ := hE'.boxes;obtain ⟨hf0', hf1', hf2', hf3', hf4', hf5'⟩ := hE'.fn;have hx1' : _ = some (Value.int .i64 x.lit) := hx'.cell (i := 1) (by omega);have hx2' : _ = some (Value.slice A' x.ins.length c') := hx'.cell (i := 2) (by omega)
     go_wp2_with fail
     go_region_held3 (fun w' => w'.cell? ⟨w6.heap.size + 1 + 1, 0, none⟩ = some (Value.slice (some ⟨w6.heap.size + 1, 0, none⟩) l.length l.length) ∧ w'.cell? ⟨w.heap.size + 1, 1, none⟩ = some (Value.func (.func 131) #[] #[]))
      (first | exact ⟨hb6', hf1'⟩ | exact ⟨(World.cell?_setCell_far _ _ _ _ HNE1.out).trans hb6', (World.cell?_setCell_far _ _ _ _ HNE2.out).trans hf1'⟩ | go_keep)
      (first
        | (go_simp
           go_at_call 131
           (with_reducible refine (one_fn _).mono ?_)
           rintro e w9 ⟨rfl, hb9⟩;replace hE' := hE'.below hb9;obtain ⟨hb5', hb6'⟩ := hE'.boxes;obtain ⟨hf0', hf1', hf2', hf3', hf4', hf5'⟩ := hE'.fn;have hfr' := hE'.nofr k;replace hx' := rowBelow hx' hb9;have hx1' : w9.cell? ⟨W0.heap.size, 1, none⟩ = some (Value.int .i64 x.lit) := hx'.cell (i := 1) (by omega);have hx2' : w9.cell? ⟨W0.heap.size, 2, none⟩ = some (Value.slice A' x.ins.length c') := hx'.cell (i := 2) (by omega)
           have hcur' := hE'.at k 0 hlt HL0.out))
     all_goals
      try go_wp2
      have hE0 := hE'.next hw62' hg6 k 1 hLl.symm;clear hE' hx' hE hEN hxN hk1 hk2 hk3 hbx5 hbx6 hf0 hf1 hf2 hf3 hf4 hf5 hfr hcur HX2 hb5' hb6' hf0' hf1' hf2' hf3' hf4' hf5' hx1' hx2'
      go_loopw [84] (fun t wq => ∃ m s : Nat, m ≤ x.ins.length ∧ t = .int .i64 m ∧ Hid ((x.ins.take m).foldl ((RN nt).in1 O L x) ((RN nt).start x) = s) ∧ SE w w6.heap.size g n l (some ⟨b, o, none⟩) c p q O (L ++ [s]) wq) (fun t _ => x.ins.length - (intOf t).toNat)
      case atStart => exact ⟨0, 1, by omega, rfl, HST.out, hE0⟩
      case round =>
       clear hE0;obtain ⟨m, s, hm, rfl, HP, hE⟩ := hrel;have hz3 := hE.bl.size;have hz4 := hE.b6.lt;by_cases hmlt : m < x.ins.length
       ·have hil := HIL.out;omega
       ·obtain rfl : m = x.ins.length := by omega
        have hfo := HP.out;rw [List.take_length] at hfo;have hst : (RN nt).step O L x = s := hfo;have hnx := HNX.out;rw [hst] at hnx;have HN2 := zqh hnx;clear hfo hst hnx
        go_wp2
        go_roundw
        case rel => exact ⟨k + 1, by omega, by go_num, by rw [HN2.out]; exact hE⟩
        case measure => simp [intOf]; omega
    ·have b2 : (x.kind == 2) = true := beq_iff_eq.2 (by omega);have b1 : (x.kind == 1) = false := beq_eq_false_iff_ne.2 (by omega);have b3 : (x.kind == 3) = false := beq_eq_false_iff_ne.2 (by omega)
     have H3 := zqh h2; clear h2
     have HST : Hid ((RN nt).start x = wt nt x.lit) := zqh (by unfold Rg.start; rw [if_pos H3.out]; rfl);have hE' := hEN.drew;have hx' := hxN.drew;obtain ⟨hb5', hb6'⟩ := hE'.boxes;obtain ⟨hf0', hf1', hf2', hf3', hf4', hf5'⟩ := hE'.fn;have hx1' : _ = some (Value.int .i64 x.lit) := hx'.cell (i := 1) (by omega);have hx2' : _ = some (Value.slice A' x.ins.length c') := hx'.cell (i := 2) (by omega)
     go_wp2_with fail
     go_region_held3 (fun w' => w'.cell? ⟨w6.heap.size + 1 + 1, 0, none⟩ = some (Value.slice (some ⟨w6.heap.size + 1, 0, none⟩) l.length l.length) ∧ w'.cell? ⟨w.heap.size + 1, 4, none⟩ = some (wtV p) ∧ w'.cell? ⟨W0.heap.size, 1, none⟩ = some (Value.int .i64 x.lit))
      (first | exact ⟨hb6', hf4', hx1'⟩ | exact ⟨(World.cell?_setCell_far _ _ _ _ HNE1.out).trans hb6', (World.cell?_setCell_far _ _ _ _ HNE2.out).trans hf4', (World.cell?_setCell_far _ _ _ _ HNE5.out).trans hx1'⟩ | go_keep)
      (first
        | (go_simp
           go_at_call 129
           (with_reducible refine (wt_fn _ p nt x.lit (below_cell hE'.bl hplt hp)).mono ?_)
           rintro e w9 ⟨rfl, hb9⟩;replace hE' := hE'.below hb9;obtain ⟨hb5', hb6'⟩ := hE'.boxes;obtain ⟨hf0', hf1', hf2', hf3', hf4', hf5'⟩ := hE'.fn;have hfr' := hE'.nofr k;replace hx' := rowBelow hx' hb9;have hx1' : w9.cell? ⟨W0.heap.size, 1, none⟩ = some (Value.int .i64 x.lit) := hx'.cell (i := 1) (by omega);have hx2' : w9.cell? ⟨W0.heap.size, 2, none⟩ = some (Value.slice A' x.ins.length c') := hx'.cell (i := 2) (by omega)
           have hcur' := hE'.at k 0 hlt HL0.out))
     all_goals
      try go_wp2
      have hst : (RN nt).step O L x = wt nt x.lit := by
       unfold Rg.step;have hil := HIL.out;rw [List.length_eq_zero_iff] at hil
       rw [hil]; exact HST.out
      have hnx := HNX.out;rw [hst] at hnx;have hE9 := hE'.next hw62' hg6 k (wt nt x.lit) hLl.symm;rw [← hnx] at hE9;clear hst hnx
      go_roundw
      case rel => exact ⟨k + 1, by omega, by go_num, hE9⟩
      case measure => simp [intOf]; omega
   ·clear hfk;have b2 : (x.kind == 2) = false := beq_eq_false_iff_ne.2 (by omega);have b1 : (x.kind == 1) = false := beq_eq_false_iff_ne.2 (by omega);have b3 : (x.kind == 3) = true := beq_iff_eq.2 (by omega)
    have H3 := zqh h3; clear h3
    have HST : Hid ((RN nt).start x = 1) := zqh (by unfold Rg.start; rw [if_neg (by rw [H3.out]; decide), if_pos (.inr H3.out)]; rfl);have hE' := hEN.drew;have hx' := hxN.drew;obtain ⟨hb5', hb6'⟩ := hE'.boxes;obtain ⟨hf0', hf1', hf2', hf3', hf4', hf5'⟩ := hE'.fn;have hx1' : _ = some (Value.int .i64 x.lit) := hx'.cell (i := 1) (by omega);have hx2' : _ = some (Value.slice A' x.ins.length c') := hx'.cell (i := 2) (by omega)
    go_wp2_with fail
    go_region_held3 (fun w' => w'.cell? ⟨w6.heap.size + 1 + 1, 0, none⟩ = some (Value.slice (some ⟨w6.heap.size + 1, 0, none⟩) l.length l.length) ∧ w'.cell? ⟨w.heap.size + 1, 1, none⟩ = some (Value.func (.func 131) #[] #[]))
     (first | exact ⟨hb6', hf1'⟩ | exact ⟨(World.cell?_setCell_far _ _ _ _ HNE1.out).trans hb6', (World.cell?_setCell_far _ _ _ _ HNE2.out).trans hf1'⟩ | go_keep)
     (first
       | (go_simp
          go_at_call 131
          (with_reducible refine (one_fn _).mono ?_)
          rintro e w9 ⟨rfl, hb9⟩;replace hE' := hE'.below hb9;obtain ⟨hb5', hb6'⟩ := hE'.boxes;obtain ⟨hf0', hf1', hf2', hf3', hf4', hf5'⟩ := hE'.fn;have hfr' := hE'.nofr k;replace hx' := rowBelow hx' hb9;have hx1' : w9.cell? ⟨W0.heap.size, 1, none⟩ = some (Value.int .i64 x.lit) := hx'.cell (i := 1) (by omega);have hx2' : w9.cell? ⟨W0.heap.size, 2, none⟩ = some (Value.slice A' x.ins.length c') := hx'.cell (i := 2) (by omega)
          have hcur' := hE'.at k 0 hlt HL0.out))
    all_goals
     try go_wp2
     have hE0 := hE'.next hw62' hg6 k 1 hLl.symm;clear hE' hx' hE hEN hxN hk1 hk2 hk3 hbx5 hbx6 hf0 hf1 hf2 hf3 hf4 hf5 hfr hcur HX2 hb5' hb6' hf0' hf1' hf2' hf3' hf4' hf5' hx1' hx2'
     go_loopw [84] (fun t wq => ∃ m s : Nat, m ≤ x.ins.length ∧ t = .int .i64 m ∧ Hid ((x.ins.take m).foldl ((RN nt).in1 O L x) ((RN nt).start x) = s) ∧ SE w w6.heap.size g n l (some ⟨b, o, none⟩) c p q O (L ++ [s]) wq) (fun t _ => x.ins.length - (intOf t).toNat)
     case atStart => exact ⟨0, 1, by omega, rfl, HST.out, hE0⟩
     case round =>
      clear hE0;obtain ⟨m, s, hm, rfl, HP, hE⟩ := hrel;have hz3 := hE.bl.size;have hz4 := hE.b6.lt;by_cases hmlt : m < x.ins.length
      ·obtain ⟨b', o', rfl, hbB', hcs⟩ := HRD.out (by omega);have hc := below_cell hE.bl hbB' (hcs m hmlt);clear hcs;unfold intF at hc;obtain ⟨j, hj1, hj2⟩ := HIN.out m hmlt;rw [hj1] at hc
       have htk : x.ins.take (m + 1) = x.ins.take m ++ [(j : Int)] := by
        rw [List.take_succ_eq_append_getElem hmlt]
        congr 2
        rw [← hj1]; simp [List.getD, hmlt]
       have hsb := HPT2.out m;rw [HP.out] at hsb;have hpb := HPT2.out (m + 1);obtain ⟨y, hy⟩ : ∃ y, L.getD j 0 = y := ⟨_, rfl⟩
       have hfo : (x.ins.take (m + 1)).foldl ((RN nt).in1 O L x) ((RN nt).start x) = s * y := by
        rw [htk, List.foldl_append, HP.out];show (RN nt).in1 O L x s (j : Int) = _;unfold Rg.in1;rw [if_pos (.inr H3.out), Int.toNat_natCast];show s * L.getD j 0 = _;rw [hy]
       have hyb := HPRE2.out j;rw [hy] at hyb
       have HY : Hid (∀ u, (L ++ [u]).getD j 0 = y) := zqh fun u => by rw [getD_snoc, if_neg (by omega)]; exact hy
       have HFO := zqh hfo;have hn1 := n8_short s hsb;have hn2 := n8_short y hyb
       have hq1 : n8 s ≤ 1000000 := by omega
       have hq2 : n8 y ≤ 1000000 := by omega
       have HS : Hid ((L ++ [s]).getD k 0 = s) := zqh (by rw [getD_snoc, if_pos hLl.symm])
       have hi1 : (0 : Int) ≤ (j : Int) := by omega
       have hi2 : (j : Int) < (l.length : Int) := by omega
       have hjl : j < l.length := by omega
       clear hfo hy htk hpb hsb hyb hj1;have hE' := hE.drew;obtain ⟨hb5', hb6'⟩ := hE'.boxes;obtain ⟨hf0', hf1', hf2', hf3', hf4', hf5'⟩ := hE'.fn;have hs' := hE'.at k s hlt HS.out;have hy' := hE'.at j y hjl (HY.out s)
       have hneA : (⟨w6.heap.size + 1, k, none⟩ : Addr) ≠ ⟨w6.heap.size + 1, j, none⟩ := fun e => by injection e; omega
       have hs0 := hE.at k s hlt HS.out;have hy0 := hE.at j y hjl (HY.out s)
       go_wp2_with fail
       refine wp_region_heldE (fun w' => w'.cell? ⟨w6.heap.size + 1 + 1, 0, none⟩ = some (Value.slice (some ⟨w6.heap.size + 1, 0, none⟩) l.length l.length) ∧ w'.cell? ⟨w.heap.size + 1, 3, none⟩ = some (Value.func (.func 33) #[] #[]) ∧ w'.cell? ⟨w6.heap.size + 1, j, none⟩ = some (Value.string (natB y)) ∧ w'.cell? ⟨w6.heap.size + 1, k, none⟩ = some (Value.string (natB s))) 14 (by kernel_rfl) ⟨hb6', hf3', hy', hs'⟩ (fun hS => ?_);refine zqt 0 (v := ?_) hS rfl (Or.inl ⟨by rfl, ?_⟩) ?_;rotate_left
       ·(intro w hSw; go_simp; try with_reducible rfl)
       try simp only [Act.put, zqd, zqe, zqf]
       refine zqt 1 (v := ?_) hS rfl (Or.inl ⟨by rfl, ?_⟩) ?_;rotate_left
       ·(intro w hSw; go_simp; try with_reducible rfl)
       try simp only [Act.put, zqd, zqe, zqf]
       refine zqt 2 (v := ?_) hS rfl (Or.inl ⟨by rfl, ?_⟩) ?_;rotate_left
       ·(intro w hSw; go_simp; try with_reducible rfl)
       try simp only [Act.put, zqd, zqe, zqf]
       refine zqt 3 (v := ?_) hS rfl (Or.inl ⟨by rfl, ?_⟩) ?_;rotate_left
       ·(intro w hSw; go_simp; try with_reducible rfl)
       try simp only [Act.put, zqd, zqe, zqf]
       refine zqt 4 (v := ?_) hS rfl (Or.inl ⟨by rfl, ?_⟩) ?_;rotate_left
       ·(intro w hSw; go_simp; try with_reducible rfl)
       try simp only [Act.put, zqd, zqe, zqf]
       refine zqt 5 (v := ?_) hS rfl (Or.inl ⟨by rfl, ?_⟩) ?_;rotate_left
       ·(intro w hSw; go_simp; try with_reducible rfl)
       try simp only [Act.put, zqd, zqe, zqf]
       refine zqt 6 (v := ?_) hS rfl (Or.inl ⟨by rfl, ?_⟩) ?_;rotate_left
       ·(intro w hSw; go_simp; try with_reducible rfl)
       try simp only [Act.put, zqd, zqe, zqf]
       refine zqt 7 (v := ?_) hS rfl (Or.inl ⟨by rfl, ?_⟩) ?_;rotate_left
       ·(intro w hSw; go_simp; try with_reducible rfl)
       try simp only [Act.put, zqd, zqe, zqf]
       refine zqt 8 (v := ?_) hS rfl (Or.inl ⟨by rfl, ?_⟩) ?_;rotate_left
       ·(intro w hSw; go_simp; try with_reducible rfl)
       try simp only [Act.put, zqd, zqe, zqf]
       refine zqt 9 (v := ?_) hS rfl (Or.inl ⟨by rfl, ?_⟩) ?_;rotate_left
       ·(intro w hSw; go_simp; try with_reducible rfl)
       try simp only [Act.put, zqd, zqe, zqf]
       refine zqt 10 (v := ?_) hS rfl (Or.inl ⟨by rfl, ?_⟩) ?_;rotate_left
       ·(intro w hSw; go_simp; try with_reducible rfl)
       try simp only [Act.put, zqd, zqe, zqf]
       refine zqt 11 (v := ?_) hS rfl (Or.inl ⟨by rfl, ?_⟩) ?_;rotate_left
       ·(intro w hSw; go_simp; try with_reducible rfl)
       try simp only [Act.put, zqd, zqe, zqf]
       refine wpAnyE_one 12 (by kernel_rfl) rfl (fun K hK => ?_)
       go_simp
       go_at_call 33
       (with_reducible refine (mul_any _ s y hq1 hq2).mono ?_)
       rintro e w9 ⟨rfl, hb9⟩;replace hE' := hE'.below hb9;obtain ⟨hb5', hb6'⟩ := hE'.boxes;obtain ⟨hf0', hf1', hf2', hf3', hf4', hf5'⟩ := hE'.fn;have hfr' := hE'.nofr k;have hs' := hE'.at k s hlt HS.out;have hy' := hE'.at j y hjl (HY.out s);refine hK.out _ _ (fun _ => ⟨hb6', hf3', hy', hs'⟩) (fun hS => ?_);replace hS := hS (by decide);clear hK K
       try simp only [Act.put, zqd, zqe, zqf]
       refine zqt 13 (v := ?_) hS rfl (Or.inl ⟨by rfl, ?_⟩) ?_;rotate_left
       ·(intro w hSw; go_simp; try with_reducible rfl)
       try simp only [Act.put, zqd, zqe, zqf]
       refine wpAnyE_one 14 (by kernel_rfl) rfl (fun K hK => ?_)
       go_simp
       refine hK.out _ _ (fun h => absurd rfl h) (fun _ => ?_);clear hK K;refine wpAnyE_done (by kernel_rfl) ?_ _
       all_goals
        try go_wp2
        go_roundw
        case rel => exact ⟨m + 1, s * y, by omega, by go_num, HFO.out, hE'.last hw62' hg6 k (s * y) hLl.symm⟩
        case measure => simp [intOf]; omega
      ·obtain rfl : m = x.ins.length := by omega
       have hfo := HP.out;rw [List.take_length] at hfo;have hst : (RN nt).step O L x = s := hfo;have hnx := HNX.out;rw [hst] at hnx;have HN2 := zqh hnx;clear hfo hst hnx
       go_wp2
       go_roundw
       case rel => exact ⟨k + 1, by omega, by go_num, by rw [HN2.out]; exact hE⟩
       case measure => simp [intOf]; omega
   ·clear hfk;have b2 : (x.kind == 2) = false := beq_eq_false_iff_ne.2 (by omega);have b1 : (x.kind == 1) = false := beq_eq_false_iff_ne.2 (by omega);have b3 : (x.kind == 3) = false := beq_eq_false_iff_ne.2 (by omega)
    have H3 := zqh h4; clear h4
    have HST : Hid ((RN nt).start x = 0) := zqh (by unfold Rg.start; rw [if_neg (by rw [H3.out]; decide), if_neg (by rw [H3.out]; decide)]; rfl);have hE' := hEN.drew;have hx' := hxN.drew;obtain ⟨hb5', hb6'⟩ := hE'.boxes;obtain ⟨hf0', hf1', hf2', hf3', hf4', hf5'⟩ := hE'.fn;have hx1' : _ = some (Value.int .i64 x.lit) := hx'.cell (i := 1) (by omega);have hx2' : _ = some (Value.slice A' x.ins.length c') := hx'.cell (i := 2) (by omega)
    go_wp2_with fail
    go_region_held3 (fun w' => w'.cell? ⟨w6.heap.size + 1 + 1, 0, none⟩ = some (Value.slice (some ⟨w6.heap.size + 1, 0, none⟩) l.length l.length) ∧ w'.cell? ⟨w.heap.size + 1, 0, none⟩ = some (Value.func (.func 130) #[] #[]))
     (first | exact ⟨hb6', hf0'⟩ | exact ⟨(World.cell?_setCell_far _ _ _ _ HNE1.out).trans hb6', (World.cell?_setCell_far _ _ _ _ HNE2.out).trans hf0'⟩ | go_keep)
     (first
       | (go_simp
          go_at_call 130
          (with_reducible refine (zero_fn _).mono ?_)
          rintro e w9 ⟨rfl, hb9⟩;replace hE' := hE'.below hb9;obtain ⟨hb5', hb6'⟩ := hE'.boxes;obtain ⟨hf0', hf1', hf2', hf3', hf4', hf5'⟩ := hE'.fn;have hfr' := hE'.nofr k;replace hx' := rowBelow hx' hb9;have hx1' : w9.cell? ⟨W0.heap.size, 1, none⟩ = some (Value.int .i64 x.lit) := hx'.cell (i := 1) (by omega);have hx2' : w9.cell? ⟨W0.heap.size, 2, none⟩ = some (Value.slice A' x.ins.length c') := hx'.cell (i := 2) (by omega)
          have hcur' := hE'.at k 0 hlt HL0.out))
    all_goals
     try go_wp2
     have hE0 := hE'.next hw62' hg6 k 0 hLl.symm;clear hE' hx' hE hEN hxN hk1 hk2 hk3 hbx5 hbx6 hf0 hf1 hf2 hf3 hf4 hf5 hfr hcur HX2 hb5' hb6' hf0' hf1' hf2' hf3' hf4' hf5' hx1' hx2'
     go_loopw [40] (fun t wq => ∃ m s : Nat, m ≤ x.ins.length ∧ t = .int .i64 m ∧ Hid ((x.ins.take m).foldl ((RN nt).in1 O L x) ((RN nt).start x) = s) ∧ SE w w6.heap.size g n l (some ⟨b, o, none⟩) c p q O (L ++ [s]) wq) (fun t _ => x.ins.length - (intOf t).toNat)
     case atStart => exact ⟨0, 0, by omega, rfl, HST.out, hE0⟩
     case round =>
      clear hE0;obtain ⟨m, s, hm, rfl, HP, hE⟩ := hrel;have hz3 := hE.bl.size;have hz4 := hE.b6.lt;by_cases hmlt : m < x.ins.length
      ·obtain ⟨b', o', rfl, hbB', hcs⟩ := HRD.out (by omega);have hc := below_cell hE.bl hbB' (hcs m hmlt);clear hcs;unfold intF at hc;obtain ⟨j, hj1, hj2⟩ := HIN.out m hmlt;rw [hj1] at hc
       have htk : x.ins.take (m + 1) = x.ins.take m ++ [(j : Int)] := by
        rw [List.take_succ_eq_append_getElem hmlt]
        congr 2
        rw [← hj1]; simp [List.getD, hmlt]
       have hsb := HPT2.out m;rw [HP.out] at hsb;have hpb := HPT2.out (m + 1);obtain ⟨so, hso⟩ : ∃ so, O.getD k 0 = so := ⟨_, rfl⟩;obtain ⟨y, hy⟩ : ∃ y, (RN nt).gap O L so j = y := ⟨_, rfl⟩
       have hfo : (x.ins.take (m + 1)).foldl ((RN nt).in1 O L x) ((RN nt).start x) = s + y := by
        rw [htk, List.foldl_append, HP.out];show (RN nt).in1 O L x s (j : Int) = _;unfold Rg.in1
        rw [if_neg (by rw [H3.out]; decide), Int.toNat_natCast, hLl, hso, hy]; rfl
       rw [hfo] at hpb
       have hyb : y < big := by omega
       have hwide : ∀ W, SE w w6.heap.size g n l (some ⟨b, o, none⟩) c p q O (L ++ [s]) W → Calls Tryz.prog 128 #[.int .i64 j, setV so, .pointer (some ⟨w6.heap.size + 1 + 1, 0, none⟩), .pointer (some ⟨w6.heap.size, 0, none⟩), .pointer (some ⟨w.heap.size + 1, 0, none⟩)] W fun e w' => e = .returned (natV y) ∧ Below W.heap.size W w' := fun W hE => by
        have h := wide_any W O (L ++ [s]) nt j l.length so p q (w6.heap.size + 1) g (w6.heap.size + 1 + 1) w6.heap.size (w.heap.size + 1) (by omega) hl1 (by rw [getD_snoc, if_neg (by omega)]; exact HPRE2.out j) hE.boxes.2 hE.boxes.1 (fun i hi => hE.ring.cell hi) hE.out hE.own (below_cell hE.bl hqlt hq) (below_cell hE.bl hplt hp) (hT.below hE.bl);rw [gap_snoc nt O L s so j (by omega), hy] at h;exact h
       have HW := zqh hwide;have HSO := zqh hso;clear hwide hso;have HFO := zqh hfo;have hn1 := n8_short s hsb;have hn2 := n8_short y hyb
       have hq1 : n8 s ≤ 1000000 := by omega
       have hq2 : n8 y ≤ 1000000 := by omega
       have HS : Hid ((L ++ [s]).getD k 0 = s) := zqh (by rw [getD_snoc, if_pos hLl.symm])
       have hi1 : (0 : Int) ≤ (j : Int) := by omega
       have hi2 : (j : Int) < (l.length : Int) := by omega
       have hjl : j < l.length := by omega
       clear hfo hy htk hpb hsb hyb hj1;have hE' := hE.drew;obtain ⟨hb5', hb6'⟩ := hE'.boxes;obtain ⟨hf0', hf1', hf2', hf3', hf4', hf5'⟩ := hE'.fn;have hs' := hE'.at k s hlt HS.out;obtain ⟨ho1', ho2', _, _⟩ := setsCells hE'.own k hkl2;rw [HSO.out] at ho1' ho2'
       go_wp2_with fail
       refine wp_region_heldE (fun w' => w'.cell? ⟨w6.heap.size + 1 + 1, 0, none⟩ = some (Value.slice (some ⟨w6.heap.size + 1, 0, none⟩) l.length l.length) ∧ w'.cell? ⟨w6.heap.size, 0, none⟩ = some (Value.slice (some ⟨g, 0, none⟩) l.length l.length) ∧ w'.cell? ⟨w.heap.size + 1, 2, none⟩ = some (Value.func (.func 71) #[] #[]) ∧ w'.cell? ⟨g, k * 2, none⟩ = some (Value.int .u64 (lo so : Int)) ∧ w'.cell? ⟨g, k * 2 + 1, none⟩ = some (Value.int .u64 (hi so : Int)) ∧ w'.cell? ⟨w6.heap.size + 1, k, none⟩ = some (Value.string (natB s))) 17 (by kernel_rfl) ⟨hb6', hb5', hf2', ho1', ho2', hs'⟩ (fun hS => ?_);refine zqt 0 (v := ?_) hS rfl (Or.inl ⟨by rfl, ?_⟩) ?_;rotate_left
       ·(intro w hSw; go_simp; try with_reducible rfl)
       try simp only [Act.put, zqd, zqe, zqf]
       refine zqt 1 (v := ?_) hS rfl (Or.inl ⟨by rfl, ?_⟩) ?_;rotate_left
       ·(intro w hSw; go_simp; try with_reducible rfl)
       try simp only [Act.put, zqd, zqe, zqf]
       refine zqt 2 (v := ?_) hS rfl (Or.inl ⟨by rfl, ?_⟩) ?_;rotate_left
       ·(intro w hSw; go_simp; try with_reducible rfl)
       try simp only [Act.put, zqd, zqe, zqf]
       refine zqt 3 (v := ?_) hS rfl (Or.inl ⟨by rfl, ?_⟩) ?_;rotate_left
       ·(intro w hSw; go_simp; try with_reducible rfl)
       try simp only [Act.put, zqd, zqe, zqf]
       refine zqt 4 (v := ?_) hS rfl (Or.inl ⟨by rfl, ?_⟩) ?_;rotate_left
       ·(intro w hSw; go_simp; try with_reducible rfl)
       try simp only [Act.put, zqd, zqe, zqf]
       refine zqt 5 (v := ?_) hS rfl (Or.inl ⟨by rfl, ?_⟩) ?_;rotate_left
       ·(intro w hSw; go_simp; try with_reducible rfl)
       try simp only [Act.put, zqd, zqe, zqf]
       refine zqt 6 (v := ?_) hS rfl (Or.inl ⟨by rfl, ?_⟩) ?_;rotate_left
       ·(intro w hSw; go_simp; try with_reducible rfl)
       try simp only [Act.put, zqd, zqe, zqf]
       refine zqt 7 (v := ?_) hS rfl (Or.inl ⟨by rfl, ?_⟩) ?_;rotate_left
       ·(intro w hSw; go_simp; try with_reducible rfl)
       try simp only [Act.put, zqd, zqe, zqf]
       refine zqt 8 (v := ?_) hS rfl (Or.inl ⟨by rfl, ?_⟩) ?_;rotate_left
       ·(intro w hSw; go_simp; try with_reducible rfl)
       try simp only [Act.put, zqd, zqe, zqf]
       refine zqt 9 (v := ?_) hS rfl (Or.inl ⟨by rfl, ?_⟩) ?_;rotate_left
       ·(intro w hSw; go_simp; try with_reducible rfl)
       try simp only [Act.put, zqd, zqe, zqf]
       refine zqt 10 (v := ?_) hS rfl (Or.inl ⟨by rfl, ?_⟩) ?_;rotate_left
       ·(intro w hSw; go_simp; try with_reducible rfl)
       try simp only [Act.put, zqd, zqe, zqf]
       refine zqt 11 (v := ?_) hS rfl (Or.inl ⟨by rfl, ?_⟩) ?_;rotate_left
       ·(intro w hSw; go_simp; try with_reducible rfl)
       try simp only [Act.put, zqd, zqe, zqf]
       refine zqt 12 (v := ?_) hS rfl (Or.inl ⟨by rfl, ?_⟩) ?_;rotate_left
       ·(intro w hSw; go_simp; try with_reducible rfl)
       try simp only [Act.put, zqd, zqe, zqf]
       refine zqt 13 (v := ?_) hS rfl (Or.inl ⟨by rfl, ?_⟩) ?_;rotate_left
       ·(intro w hSw; go_simp; try with_reducible rfl)
       try simp only [Act.put, zqd, zqe, zqf]
       refine wpAnyE_one 14 (by kernel_rfl) rfl (fun K hK => ?_)
       go_simp
       go_at_call 128
       (with_reducible refine (HW.out _ hE').mono ?_)
       rintro e w9 ⟨rfl, hb9⟩;replace hE' := hE'.below hb9;obtain ⟨hb5', hb6'⟩ := hE'.boxes;obtain ⟨hf0', hf1', hf2', hf3', hf4', hf5'⟩ := hE'.fn;have hfr' := hE'.nofr k;have hs' := hE'.at k s hlt HS.out;obtain ⟨ho1', ho2', _, _⟩ := setsCells hE'.own k hkl2;rw [HSO.out] at ho1' ho2';refine hK.out _ _ (fun _ => ⟨hb6', hb5', hf2', ho1', ho2', hs'⟩) (fun hS => ?_);replace hS := hS (by decide);clear hK K
       try simp only [Act.put, zqd, zqe, zqf]
       refine wpAnyE_one 15 (by kernel_rfl) rfl (fun K hK => ?_)
       go_simp
       go_at_call 71
       (with_reducible refine (add_any _ s y hq1 hq2).mono ?_)
       rintro e w9 ⟨rfl, hb9⟩;replace hE' := hE'.below hb9;obtain ⟨hb5', hb6'⟩ := hE'.boxes;obtain ⟨hf0', hf1', hf2', hf3', hf4', hf5'⟩ := hE'.fn;have hfr' := hE'.nofr k;have hs' := hE'.at k s hlt HS.out;obtain ⟨ho1', ho2', _, _⟩ := setsCells hE'.own k hkl2;rw [HSO.out] at ho1' ho2';refine hK.out _ _ (fun _ => ⟨hb6', hb5', hf2', ho1', ho2', hs'⟩) (fun hS => ?_);replace hS := hS (by decide);clear hK K
       try simp only [Act.put, zqd, zqe, zqf]
       refine zqt 16 (v := ?_) hS rfl (Or.inl ⟨by rfl, ?_⟩) ?_;rotate_left
       ·(intro w hSw; go_simp; try with_reducible rfl)
       try simp only [Act.put, zqd, zqe, zqf]
       refine wpAnyE_one 17 (by kernel_rfl) rfl (fun K hK => ?_)
       go_simp
       refine hK.out _ _ (fun h => absurd rfl h) (fun _ => ?_);clear hK K;refine wpAnyE_done (by kernel_rfl) ?_ _
       all_goals
        try go_wp2
        go_roundw
        case rel => exact ⟨m + 1, s + y, by omega, by go_num, HFO.out, hE'.last hw62' hg6 k (s + y) hLl.symm⟩
        case measure => simp [intOf]; omega
      ·obtain rfl : m = x.ins.length := by omega
       have hfo := HP.out;rw [List.take_length] at hfo;have hst : (RN nt).step O L x = s := hfo;have hnx := HNX.out;rw [hst] at hnx;have HN2 := zqh hnx;clear hfo hst hnx
       go_wp2
       go_roundw
       case rel => exact ⟨k + 1, by omega, by go_num, by rw [HN2.out]; exact hE⟩
       case measure => simp [intOf]; omega
  ·obtain rfl : k = l.length := by omega
   rw [List.take_length] at hE
   have hcast : ((l.length - 1 : Nat) : Int) = (l.length : Int) - 1 := by omega
   have hall := fun j => HPRE.out l.length (zqn _) j;rw [List.take_length] at hall
   have hwide : ∀ W, SE w w6.heap.size g n l A c p q O (scan ((RN nt).step O) [] l) W → Calls Tryz.prog 128 #[.int .i64 ((l.length : Int) - 1), setV (allTo n), .pointer (some ⟨w6.heap.size + 1 + 1, 0, none⟩), .pointer (some ⟨w6.heap.size, 0, none⟩), .pointer (some ⟨w.heap.size + 1, 0, none⟩)] W fun e w' => e = .returned (natV ((RN nt).sum ⟨n, l⟩)) ∧ Below W.heap.size W w' := fun W hE => by
    have h := wide_any W O (scan ((RN nt).step O) [] l) nt (l.length - 1) l.length (allTo n) p q (w6.heap.size + 1) g (w6.heap.size + 1 + 1) w6.heap.size (w.heap.size + 1) (by omega) hl1 (hall _) hE.boxes.2 hE.boxes.1 (fun i hi => hE.ring.cell hi) hE.out hE.own (below_cell hE.bl hqlt hq) (below_cell hE.bl hplt hp) (hT.below hE.bl);rw [hcast, ← HSUM.out] at h;exact h
   have HW := zqh hwide
   have hwr : IntKind.i64.wrap ((l.length : Int) - 1) = (l.length : Int) - 1 := by rw [IntKind.wrap_i64]; omega
   have HNE1 : Hid (w.heap.size + 1 + 1 ≠ w6.heap.size + 1 + 1) := zqh (by omega);have HNE2 : Hid (w.heap.size + 1 + 1 ≠ w.heap.size) := zqh (by omega);clear hall hwide hcast;have hE' := hE.drew;obtain ⟨hb5', hb6'⟩ := hE'.boxes;obtain ⟨hn1', hn2'⟩ := ntCells hE'.net;have hr1' := boxCell hE'.res;have hr2' := hE'.res.frozen 0
   go_wp2_with fail
   go_region_held3 (fun w' => w'.cell? ⟨w6.heap.size + 1 + 1, 0, none⟩ = some (Value.slice (some ⟨w6.heap.size + 1, 0, none⟩) l.length l.length) ∧ w'.cell? ⟨w.heap.size, 0, none⟩ = some (Value.int .i64 n))
    (first | exact ⟨hb6', hn1'⟩ | exact ⟨(World.cell?_setCell_far _ _ _ _ HNE1.out).trans hb6', (World.cell?_setCell_far _ _ _ _ HNE2.out).trans hn1'⟩ | go_keep)
    (first
      | (go_simp
         go_at_call 102
         (with_reducible refine (all_any _ n).mono ?_)
         rintro e w9 ⟨rfl, hb9⟩;replace hE' := hE'.below hb9;obtain ⟨hb5', hb6'⟩ := hE'.boxes;obtain ⟨hn1', hn2'⟩ := ntCells hE'.net;have hr1' := boxCell hE'.res
         have hr2' := hE'.res.frozen 0)
      | (go_simp
         go_at_call 128
         (with_reducible refine (HW.out _ hE').mono ?_)
         rintro e w9 ⟨rfl, hb9⟩;replace hE' := hE'.below hb9;obtain ⟨hb5', hb6'⟩ := hE'.boxes;obtain ⟨hn1', hn2'⟩ := ntCells hE'.net;have hr1' := boxCell hE'.res
         have hr2' := hE'.res.frozen 0))
   all_goals
    try go_wp2
    exact ret_nat rfl _ rfl (boxSet hE'.res _) rfl ⟨rfl, hE'.bl.setCell (by simp; omega) _⟩
end Go.Proofs.YtmhllppjcilllaaGreatDoor
