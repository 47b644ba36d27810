import Derived.Test.YtoljkoifgnmbgaaGreatDoorO1
import Derived.Test.YtoljkoifgnmbgaaGreatDoorZa
import Derived.SliceStrings
import Derived.Test.YtoljkoifgnmbgaaGreatDoorUb
set_option linter.unusedSimpArgs false
set_option linter.unusedVariables false
section
set_option maxRecDepth 100000
open Go Go.RowKit Cs Go.ChangeShapes Go.WideShapes Go.ChangeAt Go.Joins Go.Deep
namespace Go.Proofs.YtoljkoifgnmbgaaGreatDoor
theorem cells_act : Tryz.prog.cellsOf 47 = 1 := by kernel_rfl
theorem open_acts {H : Type} {enc : TypeId × Value → H} {W : World} {r : Reach} {b0 : Nat} {v : Value} {d : DataW H} {p : List MemPlace} (hv : Value.okWide Tryz.prog W r b0 41 v) (h : DataW.Trod enc Tryz.prog W 0 (fun _ => true) true 41 v d p) :
  ∃ (L : List Int) (A : Option Addr) (c : Nat), v = .slice A L.length c ∧ Rd W W.heap.size A L.length (intF L) ∧ ∀ i, -9223372036854775808 ≤ L.getD i 0 ∧ L.getD i 0 ≤ 9223372036854775807 := by
 obtain ⟨a, len, cap, rfl⟩ := okWide_slice Tryz.underlying41 hv;obtain ⟨fuel, hf⟩ := h;have hf' : DataW.trod enc Tryz.prog W 0 (fun _ => true) true fuel 41 [.slice a len cap] = some (d, p) := hf;rcases open_slice1 Tryz.underlying41 cells_act hf' with ⟨hcs, _⟩ | ⟨a', len', cap', m, n, V, D, Pl, hcs, _, hl, hm, hmm, hx, hel⟩
 ·simp only [List.cons.injEq, and_true] at hcs;exact ⟨[], none, 0, hcs, fun h => absurd h (by simp), fun i => by simp⟩
 ·simp only [List.cons.injEq, and_true, Value.slice.injEq] at hcs;obtain ⟨rfl, rfl, rfl⟩ := hcs;simp only [if_true] at hmm
  have hz : ∀ i, i < len → ∃ z : Int, V i = .int .i64 z ∧ r64 z := fun i hi => by
   obtain ⟨_, h2⟩ := hel i (by omega);obtain ⟨y0, k, _, hl2, h3⟩ := trod_struct1 Tryz.underlying47 h2
   have h4 : DataW.trod enc Tryz.prog W 0 (fun _ => true) true k 3 [V i] = some y0 := by simpa [cells_int] using h3
   obtain ⟨z, e, _, hw⟩ := DataW.trod_int Tryz.underlying3 h4;simp only [List.cons.injEq, and_true] at e;exact ⟨z, e, wf_r64 hw⟩
  let F : Nat → Int := fun i => match V i with | .int _ z => z | _ => 0
  have hF : ∀ i, i < len → V i = .int .i64 (F i) ∧ r64 (F i) := fun i hi => by
   obtain ⟨z, e, hr⟩ := hz i hi
   have : F i = z := by show (match V i with | .int _ z => z | _ => 0) = z; rw [e]
   rw [this];exact ⟨e, hr⟩
  have hll : ((List.range len).map F).length = len := by simp
  have hg : ∀ i, i < len → ((List.range len).map F).getD i 0 = F i := fun i hi => by
   rw [List.getD_eq_getElem?_getD, List.getElem?_map, List.getElem?_range hi]
   rfl
  refine ⟨(List.range len).map F, some a', cap, by rw [hll], fun hn => ?_, fun i => ?_⟩
  ·rw [hll] at hn;have c0 := (hel 0 (by omega)).1;obtain ⟨b, off, spot⟩ := a'
   have hspot : spot = none := by simpa [Addr.add] using World.cell?_spot c0
   subst hspot
   have hadd : ∀ i, (⟨b, off, none⟩ : Addr).add i = ⟨b, off + i, none⟩ := fun i => by unfold Addr.add; split <;> simp_all
   refine ⟨b, off, rfl, by have := World.block_lt_of_cell? W _ c0; rw [hadd] at this; exact this, fun i hi => ?_⟩;rw [hll] at hi;have := (hel i (by omega)).1;rw [hadd] at this;rw [this, (hF i hi).1];unfold intF;rw [hg i hi]
  ·rcases Nat.lt_or_ge i len with hi | hi
   ·rw [hg i hi];have := (hF i hi).2;unfold r64 at this;omega
   ·rw [List.getD_eq_getElem?_getD, List.getElem?_eq_none (by rw [hll]; exact hi)];decide
theorem cells_str : Tryz.prog.cellsOf 9 = 1 := by kernel_rfl
theorem bulk_one {H : Type} (d : DataW H) : 1 ≤ Rows.uptoBulk d := by
 cases d with
 | lit l => cases l <;> simp [Rows.uptoBulk]
 | nil => simp [Rows.uptoBulk]
 | ptr d => simp [Rows.uptoBulk]
 | slice elems spare => simp [Rows.uptoBulk]
 | agg parts => simp [Rows.uptoBulk]
 | iface t d => simp [Rows.uptoBulk]
 | map entries => simp [Rows.uptoBulk]
 | held h => simp [Rows.uptoBulk]
theorem bulk_part {H : Type} {d : DataW H} {l : List (DataW H)} (h : d ∈ l) : Rows.uptoBulk d ≤ Rows.uptoBulkAll l := by
 induction l with
 | nil => cases h
 | cons x r ih =>
   simp only [Rows.uptoBulkAll];rcases List.mem_cons.1 h with e | e
   ·subst e; omega
   ·have := ih e; omega
theorem bulk_len {H : Type} (l : List (DataW H)) : l.length ≤ Rows.uptoBulkAll l := by
 induction l with
 | nil => simp [Rows.uptoBulkAll]
 | cons x r ih => have := bulk_one x; simp only [Rows.uptoBulkAll, List.length_cons]; omega
theorem bulk_small {H : Type} {l : List (DataW H)} (hk : Rows.uptoSmall H l = true) {d : DataW H} (h : d ∈ l) : Rows.uptoBulk d ≤ 1048576 :=
 Nat.le_trans (bulk_part h) (of_decide_eq_true hk)
theorem open_strs {H : Type} {enc : TypeId × Value → H} {W : World} {r : Reach} {b0 : Nat} {v : Value} {d : DataW H} {p : List MemPlace} (hv : Value.okWide Tryz.prog W r b0 27 v) (h : DataW.Trod enc Tryz.prog W 0 (fun _ => true) true 27 v d p) :
  ∃ (L : List ByteArray) (A : Option Addr) (c : Nat), v = .slice A L.length c ∧ (Rows.uptoBulk d ≤ 1048576 → L.length ≤ 1048576) ∧ Rd W W.heap.size A L.length (strF L) ∧ ∀ i, (L.getD i ⟨#[]⟩).size ≤ maxLen := by
 obtain ⟨a, len, cap, rfl⟩ := okWide_slice Tryz.underlying27 hv;obtain ⟨fuel, hf⟩ := h;have hf' : DataW.trod enc Tryz.prog W 0 (fun _ => true) true fuel 27 [.slice a len cap] = some (d, p) := hf;rcases open_strings Tryz.underlying27 Tryz.underlying9 cells_str hf' with ⟨hcs, _⟩ | ⟨a', len', cap', ss, hcs, _, hl, hm, hz, hx, hcell, hsz⟩
 ·simp only [List.cons.injEq, and_true] at hcs;exact ⟨[], none, 0, hcs, fun _ => by simp, fun h => absurd h (by simp), fun i => by simp [ByteArray.size]⟩
 ·simp only [List.cons.injEq, and_true, Value.slice.injEq] at hcs;obtain ⟨rfl, rfl, rfl⟩ := hcs;simp only [if_true] at hz
  have hlen : (ss.take len).length = len := by rw [List.length_take]; omega
  refine ⟨ss.take len, some a', cap, by rw [hlen], fun hb => ?_, fun hn => ?_, fun i => ?_⟩
  ·simp only [Prod.mk.injEq] at hx;rw [hx.1] at hb;simp only [Rows.uptoBulk] at hb;have := bulk_len (strs (ss.take len) : List (DataW H));unfold strs at this hb;rw [List.length_map] at this;omega
  ·rw [hlen] at hn;have c0 := hcell 0 (by omega);obtain ⟨b, off, spot⟩ := a'
   have hspot : spot = none := by simpa [Addr.add] using World.cell?_spot c0
   subst hspot
   have hadd : ∀ i, (⟨b, off, none⟩ : Addr).add i = ⟨b, off + i, none⟩ := fun i => by unfold Addr.add; split <;> simp_all
   refine ⟨b, off, rfl, by have := World.block_lt_of_cell? W _ c0; rw [hadd] at this; exact this, fun i hi => ?_⟩;rw [hlen] at hi;have := hcell i (by omega);rw [hadd] at this;rw [this];unfold strF;rw [List.getD_eq_getElem?_getD, List.getD_eq_getElem?_getD, List.getElem?_take_of_lt hi, List.getElem?_eq_getElem (by omega)]
   rfl
  ·rcases Nat.lt_or_ge i len with hi | hi
   ·rw [List.getD_eq_getElem?_getD, List.getElem?_take_of_lt hi, List.getElem?_eq_getElem (by omega)];exact hsz _ (List.getElem_mem (by omega))
   ·rw [List.getD_eq_getElem?_getD, List.getElem?_eq_none (by rw [hlen]; exact hi)];exact Nat.zero_le _
theorem open_i64 {H : Type} {enc : TypeId × Value → H} {W : World} {r : Reach} {b0 : Nat} {v : Value} {d : DataW H} {p : List MemPlace} (hv : Value.okWide Tryz.prog W r b0 3 v) (h : DataW.Trod enc Tryz.prog W 0 (fun _ => true) true 3 v d p) :
  ∃ z : Int, v = .int .i64 z ∧ r64 z := by
 obtain ⟨z, rfl⟩ := okWide_int Tryz.underlying3 hv;obtain ⟨fuel, hf⟩ := h;obtain ⟨z', hz, _, hw⟩ := DataW.trod_int Tryz.underlying3 hf;simp only [Value.cells, List.cons.injEq, Value.int.injEq, and_true, true_and] at hz;subst hz;exact ⟨z, rfl, wf_r64 hw⟩
end Go.Proofs.YtoljkoifgnmbgaaGreatDoor
end
section
open Go Go.RowKit Cs
namespace Go.Proofs.YtoljkoifgnmbgaaGreatDoor
theorem lit_one {n : Nat} {N : Nt} {x : Int} (hn : N.n = (n : Int)) (h0 : n ≤ 128) (h1 : 1 ≤ x.natAbs) (h2 : x.natAbs ≤ n) : litOk x N.n = true := by
 unfold litOk litVar;rw [hn];simp only [decide_eq_true_eq];split
 ·omega
 ·split <;> omega
end Go.Proofs.YtoljkoifgnmbgaaGreatDoor
end
section
set_option maxRecDepth 100000
set_option maxHeartbeats 8000000
open Go Go.RowKit Cs
namespace Cs
theorem cLo_mem {n : Nat} {S T : List Int} (h : ∀ x, x ∈ S ↔ x ∈ T) : cLo n S = cLo n T := by unfold cLo; simp only [h]
theorem cHi_mem {n : Nat} {S T : List Int} (h : ∀ x, x ∈ S ↔ x ∈ T) : cHi n S = cHi n T := by unfold cHi; simp only [h]
theorem wLo_mem {n : Nat} {lo : List Pr} {S T : List Int} (h : ∀ x, x ∈ S ↔ x ∈ T) : wLo n lo S = wLo n lo T := by unfold wLo; simp only [h]
theorem wHi_mem {n : Nat} {hi : List Pr} {S T : List Int} (h : ∀ x, x ∈ S ↔ x ∈ T) : wHi n hi S = wHi n hi T := by unfold wHi; simp only [h]
theorem TOk.rev {n : Nat} {T : List Int} (h : TOk n T) : TOk n T.reverse := ⟨fun l hl => h.rng l (List.mem_reverse.1 hl), by rw [List.map_reverse]; exact List.pairwise_reverse.2 (h.nd.imp fun h => Ne.symm h)⟩
theorem TOk.tail {n : Nat} {T : List Int} (h : TOk n T) (j : Nat) : TOk n (T.drop j) := ⟨fun l hl => h.rng l (List.mem_of_mem_drop hl), by rw [List.map_drop]; exact (List.drop_sublist _ _).nodup h.nd⟩
end Cs
namespace Go.Proofs.YtoljkoifgnmbgaaGreatDoor
theorem turn_push {N : Nt} {n : Nat} {T : List Int} (hn : N.n = (n : Int)) (hn2 : n ≤ 128) (h : TOk n T) (j : Nat) (hj : j < T.length) : pushE N.n (T.drop (j + 1)).reverse (T.getD j 0) = 0 ∧ pushT N.n (T.drop (j + 1)).reverse (T.getD j 0) = (T.drop j).reverse := by
 have h1 := h.tail j;rw [List.drop_eq_getElem_cons hj] at h1 ⊢
 have e : T.getD j 0 = T[j] := by rw [List.getD_eq_getElem?_getD, List.getElem?_eq_getElem hj]; rfl
 rw [e];obtain ⟨a, b⟩ := h1.rng T[j] (List.mem_cons_self ..);have hl := lit_one hn hn2 a b;have hnd := h1.nd;rw [List.map_cons, List.nodup_cons] at hnd
 have hm : ¬ (T[j] ∈ (T.drop (j + 1)).reverse ∨ -T[j] ∈ (T.drop (j + 1)).reverse) := by
  rintro (hm | hm)
  ·exact hnd.1 (List.mem_map_of_mem (List.mem_reverse.1 hm))
  ·exact hnd.1 (by have := List.mem_map_of_mem (f := Int.natAbs) (List.mem_reverse.1 hm); rwa [Int.natAbs_neg] at this)
 unfold pushE pushT;rw [if_pos hl, if_pos hl, if_neg hm, if_neg hm, List.reverse_cons];exact ⟨rfl, rfl⟩
theorem rdk_off {w w' : World} {S : List Nat} {A : Option Addr} {n : Nat} {f : Nat → Value} (h : RdK w' w.heap.size w'.heap.size A n f) (hS : ∀ x ∈ S, x < w.heap.size) : Off S w' fun W => RdK W w.heap.size w'.heap.size A n f :=
 fun W h1 h2 => h.agree fun b a c => h2 b c fun hm => absurd (hS b hm) (by omega)
section
variable {N : Nt} {A Al Ah AL : Option Addr} {lo hi : List ByteArray} {L : List Int}
theorem uturned_any (w : World) (c cl ch cL : Nat) (h : ActIn N A lo hi Al Ah AL L w) (hc : ActC N lo hi L) :
  Calls Tryz.prog 7 #[ntV N A c, .slice Al lo.length cl, .slice Ah hi.length ch, .slice AL L.length cL] w fun e w' => e = .returned (.bool true) ∧ Below w.heap.size w w' := by
 have hfw := fun W hN => fewU_any W N A AL c L.length cL hc.hlen hN;have o0 := zqh (oneNew w N A c h.nt);obtain ⟨m1, m2⟩ := o0.out.cells;have HT := zqh h.tb;have HI := zqh (h.below o0.out.bl);obtain ⟨F, hF⟩ : ∃ F, fewU N L.length = F := ⟨_, rfl⟩;rw [hF] at hfw;have HFW := zqh hfw;cases F
 ·clear hfw hF h hc
  go_enter Tryz.func7, Tryz.ntmps7
  go_wp2_with (first
   | (go_at_call 17; (with_reducible refine (HFW.out _ o0.out.nt).mono ?_); rintro e w1 ⟨rfl, hb⟩; have o1 := zqh (o0.out.below hb); clear hb m1 m2 o0)
   | (go_at_call 13; (with_reducible refine (works_any _ (HT.out.below o1.out.bl)).mono ?_); rintro e w2 ⟨rfl, hb⟩; have o2 := zqh (o1.out.below hb); clear hb o1))
  all_goals
   go_ret
   exact ⟨rfl, o2.out.bl⟩
 ·have hin := fewU_ins hF;have hll := fewU_len hF;have hac := fun W (hi' : ActIn N A lo hi Al Ah AL L W) => acted_in c cl ch cL hi' hc hin (by omega);have hac2 := fun W (hi' : ActIn N A lo hi Al Ah AL L W) => acted_in c cl ch 0 hi'.nil hc.nil hin (by simp);simp only [List.length_nil] at hac2;have HAC := zqh hac;have HA2 := zqh hac2;by_cases hok : acOk N lo hi
  ·have hy := fun (e : Ending) (W W' : World) (hr : ActR W N lo hi L e W') => hr.yes hok;have hy2 := fun (e : Ending) (W W' : World) (hr : ActR W N lo hi [] e W') => hr.yes hok;have e0 : actsT N.n [] = [] := rfl;simp only [e0] at hy2;have HY := zqh hy;have HY2 := zqh hy2;have hn := acOk_n hok;have htk := acOk_tk hok L;have hat : ∀ D, 1 < D → ∀ T, TOk N.n.toNat T → SesOk N N.n.toNat (prL lo) (prL hi) T D := fun D hD T ht => acOk_at hok hD ht;have hsv : vld N = true := (hat _ (Nat.lt_succ_self _) _ htk).hv;have hsc := sesC_small (hat _ (Nat.lt_succ_self _) _ htk);have hsw := sesW_small (hat _ (Nat.lt_succ_self _) _ htk);have htp := fun j hj => turn_push hn.1 hn.2 htk j hj
   have erev : ∀ T : List Int, sesC N N.n.toNat T.reverse = sesC N N.n.toNat T ∧ sesW N N.n.toNat (prL lo) (prL hi) T.reverse = sesW N N.n.toNat (prL lo) (prL hi) T := fun T => by
    unfold sesC sesW;rw [cLo_mem (fun x => List.mem_reverse), cHi_mem (fun x => List.mem_reverse), wLo_mem (fun x => List.mem_reverse), wHi_mem (fun x => List.mem_reverse)];exact ⟨rfl, rfl⟩
   generalize actsT N.n L = T at *
   have hrg : ∀ j, -9223372036854775808 ≤ T.getD j 0 ∧ T.getD j 0 ≤ 9223372036854775807 := fun j => by
    rcases Nat.lt_or_ge j T.length with hj | hj
    ·have : T.getD j 0 ∈ T := by rw [List.getD_eq_getElem?_getD, List.getElem?_eq_getElem hj]; exact List.getElem_mem hj
     have := htk.rng _ this;have := hn.2;omega
    ·rw [List.getD_eq_getElem?_getD, List.getElem?_eq_none hj];decide
   have hlen := htk.len
   have hT9 : T.length ≤ 128 := by omega
   have HTK := zqh htk;have HAT := zqh hat;have HSV := zqh hsv;have HSC := zqh hsc;have HSW := zqh hsw;have HTP := zqh htp;have HRV := zqh (erev T);have HRG := zqh hrg;clear hfw hF h hc hin hll hac hac2 hok hy hy2 e0 hn htk hat hsv hsc hsw htp erev hrg hlen
   go_enter Tryz.func7, Tryz.ntmps7
   go_upto_region 8 with (first
    | (go_at_call 17; (with_reducible refine (HFW.out _ o0.out.nt).mono ?_); rintro e w1 ⟨rfl, hb⟩; have o1 := zqh (o0.out.below hb); have i1 := zqh (HI.out.below hb); obtain ⟨n1, n2⟩ := o1.out.cells; clear hb m1 m2 o0 HI)
    | (go_at_call 30; (with_reducible refine (HAC.out _ i1.out).mono ?_); rintro e w2 hr; obtain ⟨hb, g, E, tv, k, v0, rfl, hv0, s2⟩ := HY.out _ _ _ hr; have S2 := zqh s2; have o2 := zqh (o1.out.below hb); have i2 := zqh (i1.out.below hb); have TB0 := zqh (i1.out.tb.below hv0); obtain ⟨p1, p2⟩ := o2.out.cells; clear hb hr n1 n2 o1 i1 hv0 s2)
    | (go_at_call 30; (with_reducible refine (HA2.out _ i2.out).mono ?_); rintro e w3 hr; obtain ⟨hb, g', E', tv', k', v1, rfl, hv1, t3⟩ := HY2.out _ _ _ hr; have TB1 := zqh (i2.out.tb.below hv1); have S3 := zqh (S2.out.below hv1); have T3 := zqh t3; have HB1 := zqh (zqx o2.out.bl hv1 o2.out.bl.size); clear hb hr p1 p2 o2 i2 hv1 t3 S2)
    | (go_at_call 26; (with_reducible refine (term_at (S3.out.below T3.out.bl).ses HSV.out (by omega)).mono ?_); rintro e w4 ⟨A4, c4, rfl, hr4, hb4⟩; have F4 := zqh (Lf.mk (T3.out.below hb4) (rdk_off hr4 T3.out.allLt)); clear hr4 hb4))
   clear HFW HAC HA2 HY HY2
   go_wp2_with fail
   go_loopw [12] (fun t wr => ∃ (k : Nat) (z : Int), k ≤ T.length ∧ t = .int .i64 z ∧ z = (k : Int) - 1 ∧ ∃ tv kk, Lf v1 E' g' N N.n.toNat (prL lo) (prL hi) tv (T.drop k).reverse kk (fun W => RdK W w3.heap.size w4.heap.size A4 T.length (intF T)) wr) (fun t _ => (intOf t + 1).toNat)
   case atStart => exact ⟨T.length, _, zqn _, by go_num, rfl, _, _, by rw [List.drop_length]; exact F4.out⟩
   case round =>
    obtain ⟨k, z, hk, rfl, hz, tv5, k5, f5⟩ := hrel;have F5 := zqh f5;have HBW := zqh (zqx HB1.out f5.lv.bl HB1.out.size);rcases k with _ | j
    ·have hz1 : ¬ ((0 : Int) ≤ z) := by omega
     have hz2 : decide ((0 : Int) ≤ z) = false := decide_eq_false hz1;rw [List.drop_zero] at f5
     have heq := equal_true wr (.pointer (some ⟨g.b, 0, none⟩)) (.pointer (some ⟨g'.b, 0, none⟩)) (sesC N N.n.toNat T) (sesW N N.n.toNat (prL lo) (prL hi) T).1 (sesW N N.n.toNat (prL lo) (prL hi) T).2 HSC.out HSW.out.1 HSW.out.2
      (fun V hb => ((S3.out.below f5.lv.bl).below hb).count (HAT.out _ TB0.out.lt _ HTK.out) TB0.out)
      (fun V hb => by
        have := (f5.lv.below hb).count (HAT.out _ TB1.out.lt _ HTK.out.rev) TB1.out;rw [HRV.out.1] at this
        exact this)
      (fun V hb => ((S3.out.below f5.lv.bl).below hb).weight (HAT.out _ TB0.out.lt _ HTK.out) TB0.out)
      (fun V hb => by
        have := (f5.lv.below hb).weight (HAT.out _ TB1.out.lt _ HTK.out.rev) TB1.out;rw [HRV.out.2] at this
        exact this)
     have HEQ := zqh heq;clear heq f5
     go_wp2_with (first
      | (go_at_call 31; (with_reducible refine HEQ.out.mono ?_); rintro e w6 ⟨rfl, hb⟩; have F6 := zqh (F5.out.below hb); clear hb F5)
      | (go_at_call 13; (with_reducible refine (works_any _ (TB1.out.below F6.out.lv.bl)).mono ?_); rintro e w9 ⟨rfl, hb⟩; have F9 := zqh (F6.out.below hb); clear hb F6))
     all_goals
      go_ret
      exact ⟨rfl, zqx HB1.out F9.out.lv.bl HB1.out.size⟩
    ·obtain rfl : z = (j : Int) := by omega
     have hjl : j < T.length := by omega
     obtain ⟨htp1, htp2⟩ := HTP.out j hjl;have hpu := f5.push (HAT.out _ TB1.out.lt _ (HTK.out.tail (j + 1)).rev) TB1.out (T.getD j 0) (HRG.out j).1 (HRG.out j).2;rw [htp1, htp2] at hpu;obtain ⟨b, o, rfl, _, hbA, hcA⟩ := f5.now (by omega);have cA0 := hcA j hjl
     have i1 : (0 : Int) ≤ (j : Int) := by omega
     have i2 : (j : Int) < (T.length : Int) := by omega
     obtain ⟨x, hx⟩ : ∃ y, T.getD j 0 = y := ⟨_, rfl⟩;rw [hx] at hpu
     have cA : wr.cell? ⟨b, o + j, none⟩ = some (.int .i64 x) := by rw [cA0]; unfold intF; rw [hx]
     have HPU := zqh hpu;clear hpu htp1 htp2 cA0 hcA hx f5 hz
     go_wp2_with (go_at_call 22; (with_reducible refine HPU.out.mono ?_); rintro e w6 ⟨rfl, tv6, k6, f6⟩)
     go_roundw
     case rel => exact ⟨j, _, by omega, by go_num, rfl, tv6, k6, f6⟩
     case measure => simp [intOf]
  ·have hy := fun (e : Ending) (W W' : World) (hr : ActR W N lo hi L e W') => hr.no hok;have hy2 := fun (e : Ending) (W W' : World) (hr : ActR W N lo hi [] e W') => hr.no hok;have HY := zqh hy;have HY2 := zqh hy2;clear hfw hF h hc hin hll hac hac2 hok hy hy2
   go_enter Tryz.func7, Tryz.ntmps7
   go_wp2_with (first
    | (go_at_call 17; (with_reducible refine (HFW.out _ o0.out.nt).mono ?_); rintro e w1 ⟨rfl, hb⟩; have o1 := zqh (o0.out.below hb); have i1 := zqh (HI.out.below hb); obtain ⟨n1, n2⟩ := o1.out.cells; clear hb m1 m2 o0 HI)
    | (go_at_call 30; (with_reducible refine (HAC.out _ i1.out).mono ?_); rintro e w2 hr; obtain ⟨hb, rfl⟩ := HY.out _ _ _ hr; have o2 := zqh (o1.out.below hb); have i2 := zqh (i1.out.below hb); obtain ⟨p1, p2⟩ := o2.out.cells; clear hb hr n1 n2 o1 i1)
    | (go_at_call 30; (with_reducible refine (HA2.out _ i2.out).mono ?_); rintro e w3 hr; obtain ⟨hb, rfl⟩ := HY2.out _ _ _ hr; have o3 := zqh (o2.out.below hb); clear hb hr p1 p2 o2 i2)
    | (go_at_call 13; (with_reducible refine (works_any _ (HT.out.below o3.out.bl)).mono ?_); rintro e w4 ⟨rfl, hb⟩; have o4 := zqh (o3.out.below hb); clear hb o3))
   all_goals
    go_ret
    exact ⟨rfl, o4.out.bl⟩
end
end Go.Proofs.YtoljkoifgnmbgaaGreatDoor
end
