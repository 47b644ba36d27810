/- The walk of count.sum over polynomials. -/
import Derived.Test.YtcgejdlfiemjaaaDoorP2
import Derived.Test.YtcgejdlfiemjaaaDoorM1
set_option linter.unusedSimpArgs false
set_option linter.unusedVariables false
open Go Go.RowKit Cs
namespace Go.Proofs.YtcgejdlfiemjaaaDoor
theorem lt_more {a : Nat} (h : a < big) : a < big * 2 ^ 200 := Nat.lt_of_lt_of_le h (Nat.le_mul_of_pos_right _ (Nat.two_pow_pos _))
set_option maxRecDepth 100000 in
set_option maxHeartbeats 8000000 in
theorem sumCard_any (w : World) (N : Nt) (A : Option Addr) (c q : Nat) (hN : NtAt w w.heap.size A N.l) (hv : vld N = true) (hdc : dcmp N = true) (hsh : shortB N = true)
    (hq : w.cell? ⟨q, 0, none⟩ = some (.string (natB 1))) (hT : Tab w) :
    Calls Tryd.prog 41 #[ntV N A c, .agg (cardA q)] w fun e w' => ∃ v, e = .returned v ∧ PolyAt w' w.heap.size v (RC.sum N) ∧ Below w.heap.size w w' := by
  obtain ⟨hn0, hn1, hl0, hl1⟩ := vld_bounds hv
  have hfm := fun k hk => vld_formed hv k hk
  have hnv := fun W h => nodeVars_any W N A c h hv
  have HNV := Lib.hid hnv; clear hnv
  have hpt := RC_part_ev hsh
  have hpre := RC_pre_ev hsh
  have hln := fun k hk m => RC_part_len hv hdc k hk _ (scan_len (RC.step (own N.l)) N.l k (Nat.le_of_lt hk)) (RC_all_len hv hdc k (Nat.le_of_lt hk)) m
  have hpl := fun k hk j hj => RC_all_len hv hdc k hk j hj
  have hcr := fun j => crd_le ((own N.l).getD j 0)
  have hln' : ∀ k (hk : k < N.l.length) m, ((N.l[k].ins.take m).foldl (RC.in1 (own N.l) (scan (RC.step (own N.l)) [] (N.l.take k)) N.l[k]) (RC.start N.l[k])).length ≤ 129 := fun k hk m => Nat.le_trans (hln k hk m) (Nat.succ_le_succ (hcr k))
  have hpl' : ∀ k, k ≤ N.l.length → ∀ j, j < k → ((scan (RC.step (own N.l)) [] (N.l.take k)).getD j []).length ≤ 129 := fun k hk j hj => Nat.le_trans (hpl k hk j hj) (Nat.succ_le_succ (hcr j))
  clear hln hpl hcr
  obtain ⟨n, l⟩ := N
  simp only at hN hn0 hn1 hl0 hl1 hfm hpt hpre hln' hpl'
  have HF := Lib.hid hfm; clear hfm hv hsh hdc
  have hqlt := World.block_lt_of_cell? w _ hq
  simp only at hqlt
  have hmk := mk_nats l.length (by omega)
  obtain ⟨Wa, hWa⟩ : ∃ Wa, (w.alloc (.cells #[.int .i64 n, .slice A l.length c] 24)).alloc (.cells (cardA q) 89) = Wa := ⟨_, rfl⟩
  have hnetA : Wa.rowIs w.heap.size 24 2 (ntF ⟨n, l⟩ A c) := by rw [← hWa]; exact (ntNew w ⟨n, l⟩ A c _ _ rfl).alloc _
  have hringA : Wa.rowIs (w.heap.size + 1) 89 6 (ringF (cardA q)) := by
    rw [← hWa]
    have h := World.rowIs_alloc (w.alloc (.cells #[.int .i64 n, .slice A l.length c] 24)) (cardA q) 89 (ringF (cardA q)) fun i hi => by
      unfold ringF; rw [Array.getD_eq_getD_getElem?, Array.getElem?_eq_getElem hi]; rfl
    simp at h
    exact h
  have hblA : Below w.heap.size w Wa := by rw [← hWa]; exact ((Below.refl _ _).alloc (Nat.le_refl _) _).alloc (by simp) _
  have hzA : Wa.heap.size = w.heap.size + 1 + 1 := by rw [← hWa]; simp
  have HWA := Lib.hid hWa; clear hWa
  go_enter Tryd.func41, Tryd.ntmps41
  go_wp2_with (
    go_at_call 58
    rw [HWA.out]
    (with_reducible refine (HNV.out _ ((hN.below hblA).more hblA.size)).mono ?_)
    rintro e w6 ⟨g, rfl, hg, hrow6, hb6⟩
    have hnet6 := rowBelow hnetA hb6
    have hring6 := rowBelow hringA hb6
    have hbl6 := Cs.Below.trans' hblA hb6 hblA.size
    have hg6 := hrow6.lt
    have hw6 := hring6.lt
    have hw62 : w.heap.size < w6.heap.size := by omega
    have hw63 : w.heap.size < w6.heap.size + 1 := by omega
    have hw64 : w.heap.size < w6.heap.size + 1 + 1 := by omega
    obtain ⟨hc1, hc2⟩ := ntCells hnet6)
  obtain ⟨O, hO⟩ : ∃ O, own l = O := ⟨_, rfl⟩
  simp only [hO] at hrow6 hpt hpre hln' hpl'
  have hOl : O.length = l.length := by rw [← hO]; exact own_len l
  have hsum : RC.sum ⟨n, l⟩ = RC.gap O (scan (RC.step O) [] l) (allTo n) (l.length - 1) := by unfold Rg.sum Rg.all; simp only [hO]
  have HSUM := Lib.hid hsum
  have HPT := Lib.hid hpt
  have HPRE := Lib.hid hpre
  have HLN := Lib.hid hln'
  have HPL := Lib.hid hpl'
  clear hsum hpt hpre hO hln' hpl'
  have hE : SC w w6.heap.size g n l A c q O [] [] (((w6.alloc (.cells #[.slice (some ⟨g, 0, none⟩) l.length l.length] 96)).alloc (.cells (madeCells #[.slice none 0 0] l.length) 35)).alloc (.cells #[.slice (some ⟨w6.heap.size + 1, 0, none⟩) l.length l.length] 105)) :=
    ⟨((hnet6.alloc _).alloc _).alloc _, ((hring6.alloc _).alloc _).alloc _, ((boxNew w6 _ _ _ rfl).alloc _).alloc _, (vsMade _ _ _ _ (by simp)).alloc _, boxNew _ _ _ _ (by simp), ((hrow6.alloc _).alloc _).alloc _, ⟨rfl, fun j hj => by simp at hj⟩,
      ((hbl6.alloc (by omega) _).alloc (by simp; omega) _).alloc (by simp; omega) _⟩
  clear hnetA hringA hblA HWA HNV hrow6 hb6 hnet6 hring6 hbl6 hc1 hc2 hmk hzA hg
  go_loopw [24] (fun t wr => ∃ (k : Nat) (U : List Value), k ≤ l.length ∧ t = .int .i64 k ∧ U.length = k ∧ SC w w6.heap.size g n l A c q O (scan (RC.step O) [] (l.take k)) U wr) (fun t _ => l.length - (intOf t).toNat)
  case atStart => exact ⟨0, [], by omega, rfl, rfl, hE⟩
  case round =>
    clear hE
    obtain ⟨k, U, hk, rfl, hUl, hE⟩ := hrel
    have hz1 := hE.bl.size
    have hz2 := hE.b6.lt
    by_cases hlt : k < l.length
    · obtain ⟨b, o, rfl, hbB, hcs⟩ := hN (by omega)
      have hnd := hcs k hlt
      clear hcs
      have hfk := HF.out k hlt
      have hpt := fun m => HPT.out k hlt m
      have hpre := fun j => HPRE.out k hk j
      have hln := fun m => HLN.out k hlt m
      have hpl := fun j hj => HPL.out k hk j hj
      have hnext := scan_take (RC.step O) l k hlt
      have hLl := scan_len (RC.step O) l k hk
      obtain ⟨x, hx⟩ : ∃ x, l[k] = x := ⟨_, rfl⟩
      obtain ⟨L, hL⟩ : ∃ L, scan (RC.step O) [] (l.take k) = L := ⟨_, rfl⟩
      rw [hx] at hnd hfk
      simp only [hx, hL] at hpt hln
      rw [hx, hL] at hnext
      rw [hL] at hLl hE
      simp only [hL] at hpre hpl
      have HPT2 := Lib.hid hpt
      have HPRE2 := Lib.hid hpre
      have HLN2 := Lib.hid hln
      have HPL2 := Lib.hid hpl
      have HNX := Lib.hid hnext
      clear hpt hpre hnext hx hL hln hpl
      have hin := formed_ins hfk
      have HIN := Lib.hid hin; clear hin
      obtain ⟨hk1, hk2, ⟨A', c', hk3, hrd⟩, hr1, hr2, hr3, hr4⟩ := hnd
      replace hk1 := below_cell hE.bl hbB hk1
      replace hk2 := below_cell hE.bl hbB hk2
      replace hk3 := below_cell hE.bl hbB hk3
      have HRD := Lib.hid hrd; clear hrd
      obtain ⟨W0, rfl⟩ : ∃ W0, W0 = wr := ⟨wr, rfl⟩
      have hxN := World.rowIs_alloc W0 #[.int .i64 x.kind, .int .i64 x.lit, .slice A' x.ins.length c'] 52 (fun i => if i = 0 then .int .i64 x.kind else if i = 1 then .int .i64 x.lit else .slice A' x.ins.length c') fun i hi => by
        have : i = 0 ∨ i = 1 ∨ i = 2 := by simp at hi; omega
        rcases this with rfl | rfl | rfl <;> rfl
      simp only [List.size_toArray, List.length_cons, List.length_nil, Nat.zero_add, Nat.reduceAdd] at hxN
      have hEN := hE.alloc (.cells #[.int .i64 x.kind, .int .i64 x.lit, .slice A' x.ins.length c'] 52)
      have hi3 : (0 : Int) ≤ (k : Int) := by omega
      have hi4 : (k : Int) < (l.length : Int) := by omega
      have hkl2 : k * 2 + 1 < l.length * 2 := by omega
      obtain ⟨hbx5, hbx6⟩ := hEN.boxes
      obtain ⟨hf0, hf1, hf2, hf3, hf4, hf5⟩ := hEN.fn
      have hfr := hEN.nofr k
      have hcur := hEN.at k hlt (.slice none 0 0) (by rw [List.getD_eq_getElem?_getD, List.getElem?_eq_none (by omega)]; rfl)
      have hx2 : (W0.alloc (.cells #[.int .i64 x.kind, .int .i64 x.lit, .slice A' x.ins.length c'] 52)).cell? ⟨W0.heap.size, 2, none⟩ = some (.slice A' x.ins.length c') := hxN.cell (i := 2) (by omega)
      have HX2 := Lib.hid hx2
      clear hx2
      have HNE1 : Hid (w6.heap.size + 1 ≠ w6.heap.size + 1 + 1) := Lib.hid (by omega)
      have HNE2 : Hid (w6.heap.size + 1 ≠ w.heap.size + 1) := Lib.hid (by omega)
      have HNE3 : Hid (w6.heap.size + 1 ≠ g) := Lib.hid (by omega)
      have HNE4 : Hid (w6.heap.size + 1 ≠ w6.heap.size) := Lib.hid (by omega)
      have HNE5 : Hid (w6.heap.size + 1 ≠ W0.heap.size) := Lib.hid (by omega)
      have HL0 : Hid (U.getD k (.slice none 0 0) = .slice none 0 0) := Lib.hid (by rw [List.getD_eq_getElem?_getD, List.getElem?_eq_none (by omega)]; rfl)
      have hw62' : w.heap.size + 1 < w6.heap.size := hw6
      rcases formed_kind hfk with ⟨hkk, hil⟩ | h3 | h4
      · have HIL := Lib.hid hil; clear hil hfk
        rcases hkk with h0 | h1 | h2
        · have b2 : (x.kind == 2) = false := beq_eq_false_iff_ne.2 (by omega)
          have b1 : (x.kind == 1) = false := beq_eq_false_iff_ne.2 (by omega)
          have b3 : (x.kind == 3) = false := beq_eq_false_iff_ne.2 (by omega)
          have H3 := Lib.hid h0; clear h0
          have HST : Hid (RC.start x = []) := Lib.hid (by unfold Rg.start; rw [if_neg (by rw [H3.out]; decide), if_neg (by rw [H3.out]; decide)]; rfl)
          obtain ⟨p0, hp0⟩ : ∃ p0, RC.start x = p0 := ⟨_, rfl⟩
          have hcon : ∀ W, W.cell? ⟨q, 0, none⟩ = some (.string (natB 1)) → Calls Tryd.prog 42 #[] W fun e w' => ∃ v, e = .returned v ∧ PolyAt w' W.heap.size v p0 ∧ Below W.heap.size W w' := fun W h => by
            rw [← hp0, HST.out]; exact c1_fn W
          have HCON := Lib.hid hcon
          have HP0 := Lib.hid hp0
          clear hcon hp0
          have hE' := hEN.drew
          have hx' := hxN.drew
          obtain ⟨hb5', hb6'⟩ := hE'.boxes
          obtain ⟨hf0', hf1', hf2', hf3', hf4', hf5'⟩ := hE'.fn
          have hx1' : _ = some (Value.int .i64 x.lit) := hx'.cell (i := 1) (by omega)
          have hx2' : _ = some (Value.slice A' x.ins.length c') := hx'.cell (i := 2) (by omega)
          go_wp2_with fail
          go_region_held3 (fun w' => w'.cell? ⟨w6.heap.size + 1 + 1, 0, none⟩ = some (Value.slice (some ⟨w6.heap.size + 1, 0, none⟩) l.length l.length) ∧ w'.cell? ⟨w.heap.size + 1, 0, none⟩ = some (Value.func (.func 42) #[] #[]))
            (first | exact ⟨hb6', hf0'⟩ | exact ⟨(World.cell?_setCell_far _ _ _ _ HNE1.out).trans hb6', (World.cell?_setCell_far _ _ _ _ HNE2.out).trans hf0'⟩ | go_keep)
            (first
              | (go_simp
                 go_at_call 42
                 (with_reducible refine (HCON.out _ (below_cell hE'.bl hqlt hq)).mono ?_)
                 rintro e w9 ⟨vv, rfl, hvv, hb9⟩
                 replace hE' := hE'.below hb9
                 obtain ⟨hb5', hb6'⟩ := hE'.boxes
                 obtain ⟨hf0', hf1', hf2', hf3', hf4', hf5'⟩ := hE'.fn
                 have hfr' := hE'.nofr k
                 replace hx' := rowBelow hx' hb9
                 have hx1' : w9.cell? ⟨W0.heap.size, 1, none⟩ = some (Value.int .i64 x.lit) := hx'.cell (i := 1) (by omega)
                 have hx2' : w9.cell? ⟨W0.heap.size, 2, none⟩ = some (Value.slice A' x.ins.length c') := hx'.cell (i := 2) (by omega)
                 have hcur' := hE'.at k hlt _ HL0.out
                 obtain ⟨vA, vc, rfl, hvr, hvg⟩ := hvv))
          all_goals
            try go_wp2
            have hE0 := hE'.next hw62' hg6 k hUl.symm (PolyAt.more ⟨vA, vc, rfl, hvr, hvg⟩ (by simp; omega))
            clear hE' hx' hE hEN hxN hk1 hk2 hk3 hbx5 hbx6 hf0 hf1 hf2 hf3 hf4 hf5 hfr hcur HX2 hb5' hb6' hf0' hf1' hf2' hf3' hf4' hf5' hx1' hx2' hvr hvg
            go_loopw [40] (fun t wq => ∃ (m : Nat) (s : List Nat) (v : Value), m ≤ x.ins.length ∧ t = .int .i64 m ∧ Hid ((x.ins.take m).foldl (RC.in1 O L x) (RC.start x) = s) ∧ SC w w6.heap.size g n l (some ⟨b, o, none⟩) c q O (L ++ [s]) (U ++ [v]) wq) (fun t _ => x.ins.length - (intOf t).toNat)
            case atStart => exact ⟨0, p0, _, by omega, rfl, HP0.out, hE0⟩
            case round =>
              clear hE0
              obtain ⟨m, s, v, hm, rfl, HP, hE⟩ := hrel
              have hz3 := hE.bl.size
              have hz4 := hE.b6.lt
              by_cases hmlt : m < x.ins.length
              · have hil := HIL.out
                omega
              · obtain rfl : m = x.ins.length := by omega
                have hfo := HP.out
                rw [List.take_length] at hfo
                have hst : RC.step O L x = s := hfo
                have hnx := HNX.out
                rw [hst] at hnx
                have HN2 := Lib.hid hnx
                clear hfo hst hnx
                go_wp2
                go_roundw
                case rel => exact ⟨k + 1, U ++ [v], by omega, by go_num, by simp [hUl], by rw [HN2.out]; exact hE⟩
                case measure => simp [intOf]; omega
        · have b2 : (x.kind == 2) = false := beq_eq_false_iff_ne.2 (by omega)
          have b1 : (x.kind == 1) = true := beq_iff_eq.2 (by omega)
          have b3 : (x.kind == 3) = false := beq_eq_false_iff_ne.2 (by omega)
          have H3 := Lib.hid h1; clear h1
          have HST : Hid (RC.start x = [1]) := Lib.hid (by unfold Rg.start; rw [if_neg (by rw [H3.out]; decide), if_pos (.inl H3.out)]; rfl)
          obtain ⟨p0, hp0⟩ : ∃ p0, RC.start x = p0 := ⟨_, rfl⟩
          have hcon : ∀ W, W.cell? ⟨q, 0, none⟩ = some (.string (natB 1)) → Calls Tryd.prog 43 #[.pointer (some ⟨q, 0, none⟩)] W fun e w' => ∃ v, e = .returned v ∧ PolyAt w' W.heap.size v p0 ∧ Below W.heap.size W w' := fun W h => by
            rw [← hp0, HST.out]; exact c2_fn W q h
          have HCON := Lib.hid hcon
          have HP0 := Lib.hid hp0
          clear hcon hp0
          have hE' := hEN.drew
          have hx' := hxN.drew
          obtain ⟨hb5', hb6'⟩ := hE'.boxes
          obtain ⟨hf0', hf1', hf2', hf3', hf4', hf5'⟩ := hE'.fn
          have hx1' : _ = some (Value.int .i64 x.lit) := hx'.cell (i := 1) (by omega)
          have hx2' : _ = some (Value.slice A' x.ins.length c') := hx'.cell (i := 2) (by omega)
          go_wp2_with fail
          go_region_held3 (fun w' => w'.cell? ⟨w6.heap.size + 1 + 1, 0, none⟩ = some (Value.slice (some ⟨w6.heap.size + 1, 0, none⟩) l.length l.length) ∧ w'.cell? ⟨w.heap.size + 1, 1, none⟩ = some (c2V q))
            (first | exact ⟨hb6', hf1'⟩ | exact ⟨(World.cell?_setCell_far _ _ _ _ HNE1.out).trans hb6', (World.cell?_setCell_far _ _ _ _ HNE2.out).trans hf1'⟩ | go_keep)
            (first
              | (go_simp
                 go_at_call 43
                 (with_reducible refine (HCON.out _ (below_cell hE'.bl hqlt hq)).mono ?_)
                 rintro e w9 ⟨vv, rfl, hvv, hb9⟩
                 replace hE' := hE'.below hb9
                 obtain ⟨hb5', hb6'⟩ := hE'.boxes
                 obtain ⟨hf0', hf1', hf2', hf3', hf4', hf5'⟩ := hE'.fn
                 have hfr' := hE'.nofr k
                 replace hx' := rowBelow hx' hb9
                 have hx1' : w9.cell? ⟨W0.heap.size, 1, none⟩ = some (Value.int .i64 x.lit) := hx'.cell (i := 1) (by omega)
                 have hx2' : w9.cell? ⟨W0.heap.size, 2, none⟩ = some (Value.slice A' x.ins.length c') := hx'.cell (i := 2) (by omega)
                 have hcur' := hE'.at k hlt _ HL0.out
                 obtain ⟨vA, vc, rfl, hvr, hvg⟩ := hvv))
          all_goals
            try go_wp2
            have hE0 := hE'.next hw62' hg6 k hUl.symm (PolyAt.more ⟨vA, vc, rfl, hvr, hvg⟩ (by simp; omega))
            clear hE' hx' hE hEN hxN hk1 hk2 hk3 hbx5 hbx6 hf0 hf1 hf2 hf3 hf4 hf5 hfr hcur HX2 hb5' hb6' hf0' hf1' hf2' hf3' hf4' hf5' hx1' hx2' hvr hvg
            go_loopw [84] (fun t wq => ∃ (m : Nat) (s : List Nat) (v : Value), m ≤ x.ins.length ∧ t = .int .i64 m ∧ Hid ((x.ins.take m).foldl (RC.in1 O L x) (RC.start x) = s) ∧ SC w w6.heap.size g n l (some ⟨b, o, none⟩) c q O (L ++ [s]) (U ++ [v]) wq) (fun t _ => x.ins.length - (intOf t).toNat)
            case atStart => exact ⟨0, p0, _, by omega, rfl, HP0.out, hE0⟩
            case round =>
              clear hE0
              obtain ⟨m, s, v, hm, rfl, HP, hE⟩ := hrel
              have hz3 := hE.bl.size
              have hz4 := hE.b6.lt
              by_cases hmlt : m < x.ins.length
              · have hil := HIL.out
                omega
              · obtain rfl : m = x.ins.length := by omega
                have hfo := HP.out
                rw [List.take_length] at hfo
                have hst : RC.step O L x = s := hfo
                have hnx := HNX.out
                rw [hst] at hnx
                have HN2 := Lib.hid hnx
                clear hfo hst hnx
                go_wp2
                go_roundw
                case rel => exact ⟨k + 1, U ++ [v], by omega, by go_num, by simp [hUl], by rw [HN2.out]; exact hE⟩
                case measure => simp [intOf]; omega
        · have b2 : (x.kind == 2) = true := beq_iff_eq.2 (by omega)
          have b1 : (x.kind == 1) = false := beq_eq_false_iff_ne.2 (by omega)
          have b3 : (x.kind == 3) = false := beq_eq_false_iff_ne.2 (by omega)
          have H3 := Lib.hid h2; clear h2
          have HST : Hid (RC.start x = RC.lit x.lit) := Lib.hid (by unfold Rg.start; rw [if_pos H3.out])
          obtain ⟨p0, hp0⟩ : ∃ p0, RC.start x = p0 := ⟨_, rfl⟩
          have hcon : ∀ W, W.cell? ⟨q, 0, none⟩ = some (.string (natB 1)) → Calls Tryd.prog 46 #[.int .i64 x.lit, .pointer (some ⟨q, 0, none⟩)] W fun e w' => ∃ v, e = .returned v ∧ PolyAt w' W.heap.size v p0 ∧ Below W.heap.size W w' := fun W h => by
            rw [← hp0, HST.out]; exact c3_fn W q x.lit h
          have HCON := Lib.hid hcon
          have HP0 := Lib.hid hp0
          clear hcon hp0
          have hE' := hEN.drew
          have hx' := hxN.drew
          obtain ⟨hb5', hb6'⟩ := hE'.boxes
          obtain ⟨hf0', hf1', hf2', hf3', hf4', hf5'⟩ := hE'.fn
          have hx1' : _ = some (Value.int .i64 x.lit) := hx'.cell (i := 1) (by omega)
          have hx2' : _ = some (Value.slice A' x.ins.length c') := hx'.cell (i := 2) (by omega)
          go_wp2_with fail
          go_region_held3 (fun w' => w'.cell? ⟨w6.heap.size + 1 + 1, 0, none⟩ = some (Value.slice (some ⟨w6.heap.size + 1, 0, none⟩) l.length l.length) ∧ w'.cell? ⟨w.heap.size + 1, 4, none⟩ = some (c3V q) ∧ w'.cell? ⟨W0.heap.size, 1, none⟩ = some (Value.int .i64 x.lit))
            (first | exact ⟨hb6', hf4', hx1'⟩ | exact ⟨(World.cell?_setCell_far _ _ _ _ HNE1.out).trans hb6', (World.cell?_setCell_far _ _ _ _ HNE2.out).trans hf4', (World.cell?_setCell_far _ _ _ _ HNE5.out).trans hx1'⟩ | go_keep)
            (first
              | (go_simp
                 go_at_call 46
                 (with_reducible refine (HCON.out _ (below_cell hE'.bl hqlt hq)).mono ?_)
                 rintro e w9 ⟨vv, rfl, hvv, hb9⟩
                 replace hE' := hE'.below hb9
                 obtain ⟨hb5', hb6'⟩ := hE'.boxes
                 obtain ⟨hf0', hf1', hf2', hf3', hf4', hf5'⟩ := hE'.fn
                 have hfr' := hE'.nofr k
                 replace hx' := rowBelow hx' hb9
                 have hx1' : w9.cell? ⟨W0.heap.size, 1, none⟩ = some (Value.int .i64 x.lit) := hx'.cell (i := 1) (by omega)
                 have hx2' : w9.cell? ⟨W0.heap.size, 2, none⟩ = some (Value.slice A' x.ins.length c') := hx'.cell (i := 2) (by omega)
                 have hcur' := hE'.at k hlt _ HL0.out
                 obtain ⟨vA, vc, rfl, hvr, hvg⟩ := hvv))
          all_goals
            try go_wp2
            have hst : RC.step O L x = p0 := by
              unfold Rg.step
              have hil := HIL.out
              rw [List.length_eq_zero_iff] at hil
              rw [hil]; exact HP0.out
            have hnx := HNX.out
            rw [hst] at hnx
            have hE9 := hE'.next hw62' hg6 k hUl.symm (PolyAt.more ⟨vA, vc, rfl, hvr, hvg⟩ (by simp; omega))
            rw [← hnx] at hE9
            clear hst hnx
            go_roundw
            case rel => exact ⟨k + 1, _, by omega, by go_num, by simp [hUl], hE9⟩
            case measure => simp [intOf]; omega
      · clear hfk
        have b2 : (x.kind == 2) = false := beq_eq_false_iff_ne.2 (by omega)
        have b1 : (x.kind == 1) = false := beq_eq_false_iff_ne.2 (by omega)
        have b3 : (x.kind == 3) = true := beq_iff_eq.2 (by omega)
        have H3 := Lib.hid h3; clear h3
        have HST : Hid (RC.start x = [1]) := Lib.hid (by unfold Rg.start; rw [if_neg (by rw [H3.out]; decide), if_pos (.inr H3.out)]; rfl)
        obtain ⟨p0, hp0⟩ : ∃ p0, RC.start x = p0 := ⟨_, rfl⟩
        have hcon : ∀ W, W.cell? ⟨q, 0, none⟩ = some (.string (natB 1)) → Calls Tryd.prog 43 #[.pointer (some ⟨q, 0, none⟩)] W fun e w' => ∃ v, e = .returned v ∧ PolyAt w' W.heap.size v p0 ∧ Below W.heap.size W w' := fun W h => by
          rw [← hp0, HST.out]; exact c2_fn W q h
        have HCON := Lib.hid hcon
        have HP0 := Lib.hid hp0
        clear hcon hp0
        have hE' := hEN.drew
        have hx' := hxN.drew
        obtain ⟨hb5', hb6'⟩ := hE'.boxes
        obtain ⟨hf0', hf1', hf2', hf3', hf4', hf5'⟩ := hE'.fn
        have hx1' : _ = some (Value.int .i64 x.lit) := hx'.cell (i := 1) (by omega)
        have hx2' : _ = some (Value.slice A' x.ins.length c') := hx'.cell (i := 2) (by omega)
        go_wp2_with fail
        go_region_held3 (fun w' => w'.cell? ⟨w6.heap.size + 1 + 1, 0, none⟩ = some (Value.slice (some ⟨w6.heap.size + 1, 0, none⟩) l.length l.length) ∧ w'.cell? ⟨w.heap.size + 1, 1, none⟩ = some (c2V q))
          (first | exact ⟨hb6', hf1'⟩ | exact ⟨(World.cell?_setCell_far _ _ _ _ HNE1.out).trans hb6', (World.cell?_setCell_far _ _ _ _ HNE2.out).trans hf1'⟩ | go_keep)
          (first
            | (go_simp
               go_at_call 43
               (with_reducible refine (HCON.out _ (below_cell hE'.bl hqlt hq)).mono ?_)
               rintro e w9 ⟨vv, rfl, hvv, hb9⟩
               replace hE' := hE'.below hb9
               obtain ⟨hb5', hb6'⟩ := hE'.boxes
               obtain ⟨hf0', hf1', hf2', hf3', hf4', hf5'⟩ := hE'.fn
               have hfr' := hE'.nofr k
               replace hx' := rowBelow hx' hb9
               have hx1' : w9.cell? ⟨W0.heap.size, 1, none⟩ = some (Value.int .i64 x.lit) := hx'.cell (i := 1) (by omega)
               have hx2' : w9.cell? ⟨W0.heap.size, 2, none⟩ = some (Value.slice A' x.ins.length c') := hx'.cell (i := 2) (by omega)
               have hcur' := hE'.at k hlt _ HL0.out
               obtain ⟨vA, vc, rfl, hvr, hvg⟩ := hvv))
        all_goals
          try go_wp2
          have hE0 := hE'.next hw62' hg6 k hUl.symm (PolyAt.more ⟨vA, vc, rfl, hvr, hvg⟩ (by simp; omega))
          clear hE' hx' hE hEN hxN hk1 hk2 hk3 hbx5 hbx6 hf0 hf1 hf2 hf3 hf4 hf5 hfr hcur HX2 hb5' hb6' hf0' hf1' hf2' hf3' hf4' hf5' hx1' hx2' hvr hvg
          go_loopw [84] (fun t wq => ∃ (m : Nat) (s : List Nat) (v : Value), m ≤ x.ins.length ∧ t = .int .i64 m ∧ Hid ((x.ins.take m).foldl (RC.in1 O L x) (RC.start x) = s) ∧ SC w w6.heap.size g n l (some ⟨b, o, none⟩) c q O (L ++ [s]) (U ++ [v]) wq) (fun t _ => x.ins.length - (intOf t).toNat)
          case atStart => exact ⟨0, p0, _, by omega, rfl, HP0.out, hE0⟩
          case round =>
            clear hE0
            obtain ⟨m, s, v, hm, rfl, HP, hE⟩ := hrel
            have hz3 := hE.bl.size
            have hz4 := hE.b6.lt
            by_cases hmlt : m < x.ins.length
            · obtain ⟨b', o', rfl, hbB', hcs⟩ := HRD.out (by omega)
              have hc := below_cell hE.bl hbB' (hcs m hmlt)
              clear hcs
              unfold intF at hc
              obtain ⟨j, hj1, hj2⟩ := HIN.out m hmlt
              rw [hj1] at hc
              have htk : x.ins.take (m + 1) = x.ins.take m ++ [(j : Int)] := by
                rw [List.take_succ_eq_append_getElem hmlt]
                congr 2
                rw [← hj1]; simp [List.getD, hmlt]
              have hsb := HPT2.out m
              rw [HP.out] at hsb
              have hsl := HLN2.out m
              rw [HP.out] at hsl
              have hpb := HPT2.out (m + 1)
              have hyb0 := HPRE2.out j
              have hyl0 := HPL2.out j hj2
              have hps := hE.pls.2 k (by simp; omega)
              have hpy := hE.pls.2 j (by simp; omega)
              rw [vgetD_snoc, pgetD_snoc, if_pos hUl.symm, if_pos hLl.symm] at hps
              rw [vgetD_snoc, pgetD_snoc, if_neg (by omega), if_neg (by omega)] at hpy
              have hUj : (U ++ [v]).getD j (.slice none 0 0) = U.getD j (.slice none 0 0) := by rw [vgetD_snoc, if_neg (by omega)]
              have hUk : (U ++ [v]).getD k (.slice none 0 0) = v := by rw [vgetD_snoc, if_pos hUl.symm]
              obtain ⟨sA, sc, rfl, hsr, hsg⟩ := hps
              obtain ⟨yA, yc, hyv, hyr, hyg⟩ := hpy
              rw [hyv] at hUj
              obtain ⟨y0, hy0⟩ : ∃ y0, L.getD j [] = y0 := ⟨_, rfl⟩
              rw [hy0] at hyr hyb0 hyl0 hUj
              have HS := Lib.hid hUk
              have HY := Lib.hid hUj
              clear hyv hUk hUj
              have hfo : (x.ins.take (m + 1)).foldl (RC.in1 O L x) (RC.start x) = mulP s y0 := by
                rw [htk, List.foldl_append, HP.out]
                show RC.in1 O L x s (j : Int) = _
                unfold Rg.in1
                rw [if_pos (.inr H3.out), Int.toNat_natCast]
                show mulP s (L.getD j []) = _
                rw [hy0]
              rw [hfo] at hpb
              rw [ev_mulP] at hpb
              have HCB : Hid (s.length ≤ 100000 ∧ y0.length ≤ 100000 ∧ ev s < big * 2 ^ 200 ∧ ev y0 < big * 2 ^ 200 ∧ ev s * ev y0 < big * 2 ^ 200) := Lib.hid ⟨by omega, by omega, lt_more hsb, lt_more hyb0, lt_more hpb⟩
              have HFO := Lib.hid hfo
              have hi1 : (0 : Int) ≤ (j : Int) := by omega
              have hi2 : (j : Int) < (l.length : Int) := by omega
              have hjl : j < l.length := by omega
              clear hfo hy0 htk hpb hsb hsl hyb0 hyl0 hj1
              have hE' := hE.drew
              obtain ⟨hb5', hb6'⟩ := hE'.boxes
              obtain ⟨hf0', hf1', hf2', hf3', hf4', hf5'⟩ := hE'.fn
              have hs' := hE'.at k hlt _ HS.out
              have HPS : Hid (PolyAt wr.drew (w6.heap.size + 1 + 1 + 1) (.slice sA s.length sc) s) := Lib.hid ⟨sA, sc, rfl, hsr, hsg⟩
              have HPY : Hid (PolyAt wr.drew (w6.heap.size + 1 + 1 + 1) (.slice yA y0.length yc) y0) := Lib.hid ⟨yA, yc, rfl, hyr, hyg⟩
              clear hsr hsg hyr hyg
              have hy' := hE'.at j hjl _ HY.out
              have hneA : (⟨w6.heap.size + 1, k, none⟩ : Addr) ≠ ⟨w6.heap.size + 1, j, none⟩ := fun e => by injection e; omega
              have hs0 := hE.at k hlt _ HS.out
              have hy0 := hE.at j hjl _ HY.out
              go_wp2_with fail
              refine wp_region_heldE (fun w' => w'.cell? ⟨w6.heap.size + 1 + 1, 0, none⟩ = some (Value.slice (some ⟨w6.heap.size + 1, 0, none⟩) l.length l.length) ∧ w'.cell? ⟨w.heap.size + 1, 3, none⟩ = some (Value.func (.func 45) #[] #[]) ∧ w'.cell? ⟨w6.heap.size + 1, j, none⟩ = some (Value.slice yA y0.length yc) ∧ w'.cell? ⟨w6.heap.size + 1, k, none⟩ = some (Value.slice sA s.length sc)) 14 (by kernel_rfl) ⟨hb6', hf3', hy', hs'⟩ (fun hS => ?_)
              refine wpAnyE_take (i := 0) (v := ?_) hS (by kernel_rfl) rfl (by kernel_rfl) (by kernel_rfl) (fun _ _ _ h => h) (Or.inl ⟨by rfl, ?_⟩) ?_
              rotate_left
              · (intro w hSw; go_simp; try with_reducible rfl)
              try simp only [Act.put, List.setIfInBounds_toArray, List.set_cons_zero, List.set_cons_succ]
              refine wpAnyE_take (i := 1) (v := ?_) hS (by kernel_rfl) rfl (by kernel_rfl) (by kernel_rfl) (fun _ _ _ h => h) (Or.inl ⟨by rfl, ?_⟩) ?_
              rotate_left
              · (intro w hSw; go_simp; try with_reducible rfl)
              try simp only [Act.put, List.setIfInBounds_toArray, List.set_cons_zero, List.set_cons_succ]
              refine wpAnyE_take (i := 2) (v := ?_) hS (by kernel_rfl) rfl (by kernel_rfl) (by kernel_rfl) (fun _ _ _ h => h) (Or.inl ⟨by rfl, ?_⟩) ?_
              rotate_left
              · (intro w hSw; go_simp; try with_reducible rfl)
              try simp only [Act.put, List.setIfInBounds_toArray, List.set_cons_zero, List.set_cons_succ]
              refine wpAnyE_take (i := 3) (v := ?_) hS (by kernel_rfl) rfl (by kernel_rfl) (by kernel_rfl) (fun _ _ _ h => h) (Or.inl ⟨by rfl, ?_⟩) ?_
              rotate_left
              · (intro w hSw; go_simp; try with_reducible rfl)
              try simp only [Act.put, List.setIfInBounds_toArray, List.set_cons_zero, List.set_cons_succ]
              refine wpAnyE_take (i := 4) (v := ?_) hS (by kernel_rfl) rfl (by kernel_rfl) (by kernel_rfl) (fun _ _ _ h => h) (Or.inl ⟨by rfl, ?_⟩) ?_
              rotate_left
              · (intro w hSw; go_simp; try with_reducible rfl)
              try simp only [Act.put, List.setIfInBounds_toArray, List.set_cons_zero, List.set_cons_succ]
              refine wpAnyE_take (i := 5) (v := ?_) hS (by kernel_rfl) rfl (by kernel_rfl) (by kernel_rfl) (fun _ _ _ h => h) (Or.inl ⟨by rfl, ?_⟩) ?_
              rotate_left
              · (intro w hSw; go_simp; try with_reducible rfl)
              try simp only [Act.put, List.setIfInBounds_toArray, List.set_cons_zero, List.set_cons_succ]
              refine wpAnyE_take (i := 6) (v := ?_) hS (by kernel_rfl) rfl (by kernel_rfl) (by kernel_rfl) (fun _ _ _ h => h) (Or.inl ⟨by rfl, ?_⟩) ?_
              rotate_left
              · (intro w hSw; go_simp; try with_reducible rfl)
              try simp only [Act.put, List.setIfInBounds_toArray, List.set_cons_zero, List.set_cons_succ]
              refine wpAnyE_take (i := 7) (v := ?_) hS (by kernel_rfl) rfl (by kernel_rfl) (by kernel_rfl) (fun _ _ _ h => h) (Or.inl ⟨by rfl, ?_⟩) ?_
              rotate_left
              · (intro w hSw; go_simp; try with_reducible rfl)
              try simp only [Act.put, List.setIfInBounds_toArray, List.set_cons_zero, List.set_cons_succ]
              refine wpAnyE_take (i := 8) (v := ?_) hS (by kernel_rfl) rfl (by kernel_rfl) (by kernel_rfl) (fun _ _ _ h => h) (Or.inl ⟨by rfl, ?_⟩) ?_
              rotate_left
              · (intro w hSw; go_simp; try with_reducible rfl)
              try simp only [Act.put, List.setIfInBounds_toArray, List.set_cons_zero, List.set_cons_succ]
              refine wpAnyE_take (i := 9) (v := ?_) hS (by kernel_rfl) rfl (by kernel_rfl) (by kernel_rfl) (fun _ _ _ h => h) (Or.inl ⟨by rfl, ?_⟩) ?_
              rotate_left
              · (intro w hSw; go_simp; try with_reducible rfl)
              try simp only [Act.put, List.setIfInBounds_toArray, List.set_cons_zero, List.set_cons_succ]
              refine wpAnyE_take (i := 10) (v := ?_) hS (by kernel_rfl) rfl (by kernel_rfl) (by kernel_rfl) (fun _ _ _ h => h) (Or.inl ⟨by rfl, ?_⟩) ?_
              rotate_left
              · (intro w hSw; go_simp; try with_reducible rfl)
              try simp only [Act.put, List.setIfInBounds_toArray, List.set_cons_zero, List.set_cons_succ]
              refine wpAnyE_take (i := 11) (v := ?_) hS (by kernel_rfl) rfl (by kernel_rfl) (by kernel_rfl) (fun _ _ _ h => h) (Or.inl ⟨by rfl, ?_⟩) ?_
              rotate_left
              · (intro w hSw; go_simp; try with_reducible rfl)
              try simp only [Act.put, List.setIfInBounds_toArray, List.set_cons_zero, List.set_cons_succ]
              refine wpAnyE_one 12 (by kernel_rfl) rfl (fun K hK => ?_)
              go_simp
              go_at_call 45
              (with_reducible refine (timesP _ HPS.out HPY.out HCB.out.1 HCB.out.2.1 HCB.out.2.2.1 HCB.out.2.2.2.1 HCB.out.2.2.2.2).mono ?_)
              rintro e w9 ⟨vv, rfl, hvv, hb9⟩
              replace hE' := hE'.below hb9
              obtain ⟨hb5', hb6'⟩ := hE'.boxes
              obtain ⟨hf0', hf1', hf2', hf3', hf4', hf5'⟩ := hE'.fn
              have hfr' := hE'.nofr k
              have hs' := hE'.at k hlt _ HS.out
              have hy' := hE'.at j hjl _ HY.out
              obtain ⟨vA, vc, rfl, hvr, hvg⟩ := hvv
              refine hK.out _ _ (fun _ => ⟨hb6', hf3', hy', hs'⟩) (fun hS => ?_)
              replace hS := hS (by decide)
              clear hK K
              try simp only [Act.put, List.setIfInBounds_toArray, List.set_cons_zero, List.set_cons_succ]
              refine wpAnyE_take (i := 13) (v := ?_) hS (by kernel_rfl) rfl (by kernel_rfl) (by kernel_rfl) (fun _ _ _ h => h) (Or.inl ⟨by rfl, ?_⟩) ?_
              rotate_left
              · (intro w hSw; go_simp; try with_reducible rfl)
              try simp only [Act.put, List.setIfInBounds_toArray, List.set_cons_zero, List.set_cons_succ]
              refine wpAnyE_one 14 (by kernel_rfl) rfl (fun K hK => ?_)
              go_simp
              refine hK.out _ _ (fun h => absurd rfl h) (fun _ => ?_)
              clear hK K
              refine wpAnyE_done (by kernel_rfl) ?_ _
              all_goals
                try go_wp2
                go_roundw
                case rel => exact ⟨m + 1, mulP s y0, _, by omega, by go_num, HFO.out, hE'.last hw62' hg6 k hUl.symm (by omega) (PolyAt.more ⟨vA, vc, rfl, hvr, hvg⟩ (by first | omega | (simp; omega)))⟩
                case measure => simp [intOf]; omega
            · obtain rfl : m = x.ins.length := by omega
              have hfo := HP.out
              rw [List.take_length] at hfo
              have hst : RC.step O L x = s := hfo
              have hnx := HNX.out
              rw [hst] at hnx
              have HN2 := Lib.hid hnx
              clear hfo hst hnx
              go_wp2
              go_roundw
              case rel => exact ⟨k + 1, U ++ [v], by omega, by go_num, by simp [hUl], by rw [HN2.out]; exact hE⟩
              case measure => simp [intOf]; omega
      · clear hfk
        have b2 : (x.kind == 2) = false := beq_eq_false_iff_ne.2 (by omega)
        have b1 : (x.kind == 1) = false := beq_eq_false_iff_ne.2 (by omega)
        have b3 : (x.kind == 3) = false := beq_eq_false_iff_ne.2 (by omega)
        have H3 := Lib.hid h4; clear h4
        have HST : Hid (RC.start x = []) := Lib.hid (by unfold Rg.start; rw [if_neg (by rw [H3.out]; decide), if_neg (by rw [H3.out]; decide)]; rfl)
        obtain ⟨p0, hp0⟩ : ∃ p0, RC.start x = p0 := ⟨_, rfl⟩
        have hcon : ∀ W, W.cell? ⟨q, 0, none⟩ = some (.string (natB 1)) → Calls Tryd.prog 42 #[] W fun e w' => ∃ v, e = .returned v ∧ PolyAt w' W.heap.size v p0 ∧ Below W.heap.size W w' := fun W h => by
          rw [← hp0, HST.out]; exact c1_fn W
        have HCON := Lib.hid hcon
        have HP0 := Lib.hid hp0
        clear hcon hp0
        have hE' := hEN.drew
        have hx' := hxN.drew
        obtain ⟨hb5', hb6'⟩ := hE'.boxes
        obtain ⟨hf0', hf1', hf2', hf3', hf4', hf5'⟩ := hE'.fn
        have hx1' : _ = some (Value.int .i64 x.lit) := hx'.cell (i := 1) (by omega)
        have hx2' : _ = some (Value.slice A' x.ins.length c') := hx'.cell (i := 2) (by omega)
        go_wp2_with fail
        go_region_held3 (fun w' => w'.cell? ⟨w6.heap.size + 1 + 1, 0, none⟩ = some (Value.slice (some ⟨w6.heap.size + 1, 0, none⟩) l.length l.length) ∧ w'.cell? ⟨w.heap.size + 1, 0, none⟩ = some (Value.func (.func 42) #[] #[]))
          (first | exact ⟨hb6', hf0'⟩ | exact ⟨(World.cell?_setCell_far _ _ _ _ HNE1.out).trans hb6', (World.cell?_setCell_far _ _ _ _ HNE2.out).trans hf0'⟩ | go_keep)
          (first
            | (go_simp
               go_at_call 42
               (with_reducible refine (HCON.out _ (below_cell hE'.bl hqlt hq)).mono ?_)
               rintro e w9 ⟨vv, rfl, hvv, hb9⟩
               replace hE' := hE'.below hb9
               obtain ⟨hb5', hb6'⟩ := hE'.boxes
               obtain ⟨hf0', hf1', hf2', hf3', hf4', hf5'⟩ := hE'.fn
               have hfr' := hE'.nofr k
               replace hx' := rowBelow hx' hb9
               have hx1' : w9.cell? ⟨W0.heap.size, 1, none⟩ = some (Value.int .i64 x.lit) := hx'.cell (i := 1) (by omega)
               have hx2' : w9.cell? ⟨W0.heap.size, 2, none⟩ = some (Value.slice A' x.ins.length c') := hx'.cell (i := 2) (by omega)
               have hcur' := hE'.at k hlt _ HL0.out
               obtain ⟨vA, vc, rfl, hvr, hvg⟩ := hvv))
        all_goals
          try go_wp2
          have hE0 := hE'.next hw62' hg6 k hUl.symm (PolyAt.more ⟨vA, vc, rfl, hvr, hvg⟩ (by simp; omega))
          clear hE' hx' hE hEN hxN hk1 hk2 hk3 hbx5 hbx6 hf0 hf1 hf2 hf3 hf4 hf5 hfr hcur HX2 hb5' hb6' hf0' hf1' hf2' hf3' hf4' hf5' hx1' hx2' hvr hvg
          go_loopw [40] (fun t wq => ∃ (m : Nat) (s : List Nat) (v : Value), m ≤ x.ins.length ∧ t = .int .i64 m ∧ Hid ((x.ins.take m).foldl (RC.in1 O L x) (RC.start x) = s) ∧ SC w w6.heap.size g n l (some ⟨b, o, none⟩) c q O (L ++ [s]) (U ++ [v]) wq) (fun t _ => x.ins.length - (intOf t).toNat)
          case atStart => exact ⟨0, p0, _, by omega, rfl, HP0.out, hE0⟩
          case round =>
            clear hE0
            obtain ⟨m, s, v, hm, rfl, HP, hE⟩ := hrel
            have hz3 := hE.bl.size
            have hz4 := hE.b6.lt
            by_cases hmlt : m < x.ins.length
            · obtain ⟨b', o', rfl, hbB', hcs⟩ := HRD.out (by omega)
              have hc := below_cell hE.bl hbB' (hcs m hmlt)
              clear hcs
              unfold intF at hc
              obtain ⟨j, hj1, hj2⟩ := HIN.out m hmlt
              rw [hj1] at hc
              have htk : x.ins.take (m + 1) = x.ins.take m ++ [(j : Int)] := by
                rw [List.take_succ_eq_append_getElem hmlt]
                congr 2
                rw [← hj1]; simp [List.getD, hmlt]
              have hsb := HPT2.out m
              rw [HP.out] at hsb
              have hsl := HLN2.out m
              rw [HP.out] at hsl
              have hpb := HPT2.out (m + 1)
              have hyb0 := HPRE2.out j
              have hyl0 := HPL2.out j hj2
              have hps := hE.pls.2 k (by simp; omega)
              have hpy := hE.pls.2 j (by simp; omega)
              rw [vgetD_snoc, pgetD_snoc, if_pos hUl.symm, if_pos hLl.symm] at hps
              rw [vgetD_snoc, pgetD_snoc, if_neg (by omega), if_neg (by omega)] at hpy
              have hUj : (U ++ [v]).getD j (.slice none 0 0) = U.getD j (.slice none 0 0) := by rw [vgetD_snoc, if_neg (by omega)]
              have hUk : (U ++ [v]).getD k (.slice none 0 0) = v := by rw [vgetD_snoc, if_pos hUl.symm]
              obtain ⟨sA, sc, rfl, hsr, hsg⟩ := hps
              obtain ⟨yA, yc, hyv, hyr, hyg⟩ := hpy
              rw [hyv] at hUj
              obtain ⟨y0, hy0⟩ : ∃ y0, L.getD j [] = y0 := ⟨_, rfl⟩
              rw [hy0] at hyr hyb0 hyl0 hUj
              have HS := Lib.hid hUk
              have HY := Lib.hid hUj
              clear hyv hUk hUj
              obtain ⟨so, hso⟩ : ∃ so, O.getD k 0 = so := ⟨_, rfl⟩
              obtain ⟨y, hy⟩ : ∃ y, RC.wide y0 (vl (minus so (O.getD j 0))) = y := ⟨_, rfl⟩
              have hfo : (x.ins.take (m + 1)).foldl (RC.in1 O L x) (RC.start x) = addP s y := by
                rw [htk, List.foldl_append, HP.out]
                show RC.in1 O L x s (j : Int) = _
                unfold Rg.in1
                rw [if_neg (by rw [H3.out]; decide), Int.toNat_natCast, hLl, hso]
                show addP s (RC.wide (L.getD j []) _) = _
                rw [hy0, hy]
              rw [hfo, ev_addP] at hpb
              have hyl : y.length ≤ 100000 := by
                rw [← hy]
                have h1 := RC_wide_len (vl (minus so (O.getD j 0))) y0
                have h2 := vl_length (minus so (O.getD j 0))
                omega
              have hwide : ∀ W, SC w w6.heap.size g n l (some ⟨b, o, none⟩) c q O (L ++ [s]) (U ++ [.slice sA s.length sc]) W → Calls Tryd.prog 73 #[.int .i64 j, setV so, .pointer (some ⟨w6.heap.size + 1 + 1, 0, none⟩), .pointer (some ⟨w6.heap.size, 0, none⟩), .pointer (some ⟨w.heap.size + 1, 0, none⟩)] W fun e w' => ∃ v, e = .returned v ∧ PolyAt w' (w6.heap.size + 1 + 1 + 1) v y ∧ Below W.heap.size W w' := fun W hE => by
                have hpj := hE.pls.2 j (by simp; omega)
                rw [pgetD_snoc, if_neg (by omega), hy0] at hpj
                have h := wideC_any W O y0 _ j l.length so q (w6.heap.size + 1) g (w6.heap.size + 1 + 1) w6.heap.size (w.heap.size + 1) (w6.heap.size + 1 + 1 + 1) (by omega) hl1 hE.boxes.2 hE.boxes.1 (fun i hi => hE.ring.cell hi) (hE.at j (by omega) _ rfl) hpj (by have := hE.b6.lt; omega) (by omega) hyb0 hE.own (below_cell hE.bl hqlt hq) (hT.below hE.bl)
                rw [hy] at h
                exact h
              have HW := Lib.hid hwide
              have HSO := Lib.hid hso
              have HCB : Hid (s.length ≤ 100000 ∧ y.length ≤ 100000 ∧ ev s + ev y < big * 2 ^ 200) := Lib.hid ⟨by omega, hyl, lt_more hpb⟩
              clear hwide hso hy hyl
              have HFO := Lib.hid hfo
              have hi1 : (0 : Int) ≤ (j : Int) := by omega
              have hi2 : (j : Int) < (l.length : Int) := by omega
              have hjl : j < l.length := by omega
              clear hfo hy0 htk hpb hsb hsl hyb0 hyl0 hj1
              have hE' := hE.drew
              obtain ⟨hb5', hb6'⟩ := hE'.boxes
              obtain ⟨hf0', hf1', hf2', hf3', hf4', hf5'⟩ := hE'.fn
              have hs' := hE'.at k hlt _ HS.out
              have HPS : Hid (PolyAt wr.drew (w6.heap.size + 1 + 1 + 1) (.slice sA s.length sc) s) := Lib.hid ⟨sA, sc, rfl, hsr, hsg⟩
              have HPY : Hid (PolyAt wr.drew (w6.heap.size + 1 + 1 + 1) (.slice yA y0.length yc) y0) := Lib.hid ⟨yA, yc, rfl, hyr, hyg⟩
              clear hsr hsg hyr hyg
              obtain ⟨ho1', ho2', _, _⟩ := setsCells hE'.own k hkl2
              rw [HSO.out] at ho1' ho2'
              go_wp2_with fail
              refine wp_region_heldE (fun w' => w'.cell? ⟨w6.heap.size + 1 + 1, 0, none⟩ = some (Value.slice (some ⟨w6.heap.size + 1, 0, none⟩) l.length l.length) ∧ w'.cell? ⟨w6.heap.size, 0, none⟩ = some (Value.slice (some ⟨g, 0, none⟩) l.length l.length) ∧ w'.cell? ⟨w.heap.size + 1, 2, none⟩ = some (Value.func (.func 44) #[] #[]) ∧ w'.cell? ⟨g, k * 2, none⟩ = some (Value.int .u64 (lo so : Int)) ∧ w'.cell? ⟨g, k * 2 + 1, none⟩ = some (Value.int .u64 (hi so : Int)) ∧ w'.cell? ⟨w6.heap.size + 1, k, none⟩ = some (Value.slice sA s.length sc)) 17 (by kernel_rfl) ⟨hb6', hb5', hf2', ho1', ho2', hs'⟩ (fun hS => ?_)
              refine wpAnyE_take (i := 0) (v := ?_) hS (by kernel_rfl) rfl (by kernel_rfl) (by kernel_rfl) (fun _ _ _ h => h) (Or.inl ⟨by rfl, ?_⟩) ?_
              rotate_left
              · (intro w hSw; go_simp; try with_reducible rfl)
              try simp only [Act.put, List.setIfInBounds_toArray, List.set_cons_zero, List.set_cons_succ]
              refine wpAnyE_take (i := 1) (v := ?_) hS (by kernel_rfl) rfl (by kernel_rfl) (by kernel_rfl) (fun _ _ _ h => h) (Or.inl ⟨by rfl, ?_⟩) ?_
              rotate_left
              · (intro w hSw; go_simp; try with_reducible rfl)
              try simp only [Act.put, List.setIfInBounds_toArray, List.set_cons_zero, List.set_cons_succ]
              refine wpAnyE_take (i := 2) (v := ?_) hS (by kernel_rfl) rfl (by kernel_rfl) (by kernel_rfl) (fun _ _ _ h => h) (Or.inl ⟨by rfl, ?_⟩) ?_
              rotate_left
              · (intro w hSw; go_simp; try with_reducible rfl)
              try simp only [Act.put, List.setIfInBounds_toArray, List.set_cons_zero, List.set_cons_succ]
              refine wpAnyE_take (i := 3) (v := ?_) hS (by kernel_rfl) rfl (by kernel_rfl) (by kernel_rfl) (fun _ _ _ h => h) (Or.inl ⟨by rfl, ?_⟩) ?_
              rotate_left
              · (intro w hSw; go_simp; try with_reducible rfl)
              try simp only [Act.put, List.setIfInBounds_toArray, List.set_cons_zero, List.set_cons_succ]
              refine wpAnyE_take (i := 4) (v := ?_) hS (by kernel_rfl) rfl (by kernel_rfl) (by kernel_rfl) (fun _ _ _ h => h) (Or.inl ⟨by rfl, ?_⟩) ?_
              rotate_left
              · (intro w hSw; go_simp; try with_reducible rfl)
              try simp only [Act.put, List.setIfInBounds_toArray, List.set_cons_zero, List.set_cons_succ]
              refine wpAnyE_take (i := 5) (v := ?_) hS (by kernel_rfl) rfl (by kernel_rfl) (by kernel_rfl) (fun _ _ _ h => h) (Or.inl ⟨by rfl, ?_⟩) ?_
              rotate_left
              · (intro w hSw; go_simp; try with_reducible rfl)
              try simp only [Act.put, List.setIfInBounds_toArray, List.set_cons_zero, List.set_cons_succ]
              refine wpAnyE_take (i := 6) (v := ?_) hS (by kernel_rfl) rfl (by kernel_rfl) (by kernel_rfl) (fun _ _ _ h => h) (Or.inl ⟨by rfl, ?_⟩) ?_
              rotate_left
              · (intro w hSw; go_simp; try with_reducible rfl)
              try simp only [Act.put, List.setIfInBounds_toArray, List.set_cons_zero, List.set_cons_succ]
              refine wpAnyE_take (i := 7) (v := ?_) hS (by kernel_rfl) rfl (by kernel_rfl) (by kernel_rfl) (fun _ _ _ h => h) (Or.inl ⟨by rfl, ?_⟩) ?_
              rotate_left
              · (intro w hSw; go_simp; try with_reducible rfl)
              try simp only [Act.put, List.setIfInBounds_toArray, List.set_cons_zero, List.set_cons_succ]
              refine wpAnyE_take (i := 8) (v := ?_) hS (by kernel_rfl) rfl (by kernel_rfl) (by kernel_rfl) (fun _ _ _ h => h) (Or.inl ⟨by rfl, ?_⟩) ?_
              rotate_left
              · (intro w hSw; go_simp; try with_reducible rfl)
              try simp only [Act.put, List.setIfInBounds_toArray, List.set_cons_zero, List.set_cons_succ]
              refine wpAnyE_take (i := 9) (v := ?_) hS (by kernel_rfl) rfl (by kernel_rfl) (by kernel_rfl) (fun _ _ _ h => h) (Or.inl ⟨by rfl, ?_⟩) ?_
              rotate_left
              · (intro w hSw; go_simp; try with_reducible rfl)
              try simp only [Act.put, List.setIfInBounds_toArray, List.set_cons_zero, List.set_cons_succ]
              refine wpAnyE_take (i := 10) (v := ?_) hS (by kernel_rfl) rfl (by kernel_rfl) (by kernel_rfl) (fun _ _ _ h => h) (Or.inl ⟨by rfl, ?_⟩) ?_
              rotate_left
              · (intro w hSw; go_simp; try with_reducible rfl)
              try simp only [Act.put, List.setIfInBounds_toArray, List.set_cons_zero, List.set_cons_succ]
              refine wpAnyE_take (i := 11) (v := ?_) hS (by kernel_rfl) rfl (by kernel_rfl) (by kernel_rfl) (fun _ _ _ h => h) (Or.inl ⟨by rfl, ?_⟩) ?_
              rotate_left
              · (intro w hSw; go_simp; try with_reducible rfl)
              try simp only [Act.put, List.setIfInBounds_toArray, List.set_cons_zero, List.set_cons_succ]
              refine wpAnyE_take (i := 12) (v := ?_) hS (by kernel_rfl) rfl (by kernel_rfl) (by kernel_rfl) (fun _ _ _ h => h) (Or.inl ⟨by rfl, ?_⟩) ?_
              rotate_left
              · (intro w hSw; go_simp; try with_reducible rfl)
              try simp only [Act.put, List.setIfInBounds_toArray, List.set_cons_zero, List.set_cons_succ]
              refine wpAnyE_take (i := 13) (v := ?_) hS (by kernel_rfl) rfl (by kernel_rfl) (by kernel_rfl) (fun _ _ _ h => h) (Or.inl ⟨by rfl, ?_⟩) ?_
              rotate_left
              · (intro w hSw; go_simp; try with_reducible rfl)
              try simp only [Act.put, List.setIfInBounds_toArray, List.set_cons_zero, List.set_cons_succ]
              refine wpAnyE_one 14 (by kernel_rfl) rfl (fun K hK => ?_)
              go_simp
              go_at_call 73
              (with_reducible refine (HW.out _ hE').mono ?_)
              rintro e w9 ⟨vv, rfl, hvv, hb9⟩
              replace hE' := hE'.below hb9
              obtain ⟨hb5', hb6'⟩ := hE'.boxes
              obtain ⟨hf0', hf1', hf2', hf3', hf4', hf5'⟩ := hE'.fn
              have hfr' := hE'.nofr k
              have hs' := hE'.at k hlt _ HS.out
              obtain ⟨ho1', ho2', _, _⟩ := setsCells hE'.own k hkl2
              rw [HSO.out] at ho1' ho2'
              replace HPS : Hid _ := Lib.hid (HPS.out.below hb9)
              obtain ⟨zA, zc, rfl, hzr, hzg⟩ := hvv
              have HPZ : Hid (PolyAt w9 (w6.heap.size + 1 + 1 + 1) (.slice zA y.length zc) y) := Lib.hid ⟨zA, zc, rfl, hzr, hzg⟩
              refine hK.out _ _ (fun _ => ⟨hb6', hb5', hf2', ho1', ho2', hs'⟩) (fun hS => ?_)
              replace hS := hS (by decide)
              clear hK K
              try simp only [Act.put, List.setIfInBounds_toArray, List.set_cons_zero, List.set_cons_succ]
              refine wpAnyE_one 15 (by kernel_rfl) rfl (fun K hK => ?_)
              go_simp
              go_at_call 44
              (with_reducible refine (plusP _ HPS.out HPZ.out HCB.out.1 HCB.out.2.1 HCB.out.2.2).mono ?_)
              rintro e w9 ⟨vv, rfl, hvv, hb9⟩
              have hz9 := hE'.b6.lt
              replace hE' := hE'.below hb9
              obtain ⟨hb5', hb6'⟩ := hE'.boxes
              obtain ⟨hf0', hf1', hf2', hf3', hf4', hf5'⟩ := hE'.fn
              have hfr' := hE'.nofr k
              have hs' := hE'.at k hlt _ HS.out
              obtain ⟨ho1', ho2', _, _⟩ := setsCells hE'.own k hkl2
              rw [HSO.out] at ho1' ho2'
              obtain ⟨vA, vc, rfl, hvr, hvg⟩ := hvv
              refine hK.out _ _ (fun _ => ⟨hb6', hb5', hf2', ho1', ho2', hs'⟩) (fun hS => ?_)
              replace hS := hS (by decide)
              clear hK K
              try simp only [Act.put, List.setIfInBounds_toArray, List.set_cons_zero, List.set_cons_succ]
              refine wpAnyE_take (i := 16) (v := ?_) hS (by kernel_rfl) rfl (by kernel_rfl) (by kernel_rfl) (fun _ _ _ h => h) (Or.inl ⟨by rfl, ?_⟩) ?_
              rotate_left
              · (intro w hSw; go_simp; try with_reducible rfl)
              try simp only [Act.put, List.setIfInBounds_toArray, List.set_cons_zero, List.set_cons_succ]
              refine wpAnyE_one 17 (by kernel_rfl) rfl (fun K hK => ?_)
              go_simp
              refine hK.out _ _ (fun h => absurd rfl h) (fun _ => ?_)
              clear hK K
              refine wpAnyE_done (by kernel_rfl) ?_ _
              all_goals
                try go_wp2
                go_roundw
                case rel => exact ⟨m + 1, addP s y, _, by omega, by go_num, HFO.out, hE'.last hw62' hg6 k hUl.symm (by omega) (PolyAt.more ⟨vA, vc, rfl, hvr, hvg⟩ (by first | omega | (simp; omega)))⟩
                case measure => simp [intOf]; omega
            · obtain rfl : m = x.ins.length := by omega
              have hfo := HP.out
              rw [List.take_length] at hfo
              have hst : RC.step O L x = s := hfo
              have hnx := HNX.out
              rw [hst] at hnx
              have HN2 := Lib.hid hnx
              clear hfo hst hnx
              go_wp2
              go_roundw
              case rel => exact ⟨k + 1, U ++ [v], by omega, by go_num, by simp [hUl], by rw [HN2.out]; exact hE⟩
              case measure => simp [intOf]; omega
    · obtain rfl : k = l.length := by omega
      rw [List.take_length] at hE
      have hcast : ((l.length - 1 : Nat) : Int) = (l.length : Int) - 1 := by omega
      have hall := fun j => HPRE.out l.length (Nat.le_refl _) j
      have hpll := fun j hj => HPL.out l.length (Nat.le_refl _) j hj
      rw [List.take_length] at hall hpll
      have hwide : ∀ W, SC w w6.heap.size g n l A c q O (scan (RC.step O) [] l) U W → Calls Tryd.prog 73 #[.int .i64 ((l.length : Int) - 1), setV (allTo n), .pointer (some ⟨w6.heap.size + 1 + 1, 0, none⟩), .pointer (some ⟨w6.heap.size, 0, none⟩), .pointer (some ⟨w.heap.size + 1, 0, none⟩)] W fun e w' => ∃ v, e = .returned v ∧ PolyAt w' (w6.heap.size + 1 + 1 + 1) v (RC.sum ⟨n, l⟩) ∧ Below W.heap.size W w' := fun W hE => by
        have h := wideC_any W O ((scan (RC.step O) [] l).getD (l.length - 1) []) _ (l.length - 1) l.length (allTo n) q (w6.heap.size + 1) g (w6.heap.size + 1 + 1) w6.heap.size (w.heap.size + 1) (w6.heap.size + 1 + 1 + 1) (by omega) hl1 hE.boxes.2 hE.boxes.1 (fun i hi => hE.ring.cell hi) (hE.at (l.length - 1) (by omega) _ rfl) (hE.pls.2 _ (by omega)) (by have := hE.b6.lt; omega) (Nat.le_trans (hpll _ (by omega)) (by decide)) (hall _) hE.own (below_cell hE.bl hqlt hq) (hT.below hE.bl)
        rw [hcast] at h
        rw [HSUM.out]
        exact h
      have HW := Lib.hid hwide
      have hwr : IntKind.i64.wrap ((l.length : Int) - 1) = (l.length : Int) - 1 := by rw [IntKind.wrap_i64]; omega
      have HNE1 : Hid (w.heap.size + 1 ≠ w6.heap.size + 1 + 1) := Lib.hid (by omega)
      clear hall hwide hcast hpll
      have hE' := hE.drew
      obtain ⟨hb5', hb6'⟩ := hE'.boxes
      obtain ⟨hn1', hn2'⟩ := ntCells hE'.net
      go_wp2_with fail
      go_region_held3 (fun w' => w'.cell? ⟨w6.heap.size + 1 + 1, 0, none⟩ = some (Value.slice (some ⟨w6.heap.size + 1, 0, none⟩) l.length l.length) ∧ w'.cell? ⟨w.heap.size, 0, none⟩ = some (Value.int .i64 n))
        (first | exact ⟨hb6', hn1'⟩ | exact ⟨(World.cell?_setCell_far _ _ _ _ HNE1.out).trans hb6', (World.cell?_setCell_far _ _ _ _ HNE1.out).trans hn1'⟩ | go_keep)
        (first
          | (go_simp
             go_at_call 62
             (with_reducible refine (all_any _ n).mono ?_)
             rintro e w9 ⟨rfl, hb9⟩
             replace hE' := hE'.below hb9
             obtain ⟨hb5', hb6'⟩ := hE'.boxes
             obtain ⟨hn1', hn2'⟩ := ntCells hE'.net)
          | (go_simp
             go_at_call 73
             (with_reducible refine (HW.out _ hE').mono ?_)
             rintro e w9 ⟨vv, rfl, hvv, hb9⟩
             replace hE' := hE'.below hb9
             obtain ⟨hb5', hb6'⟩ := hE'.boxes
             obtain ⟨hn1', hn2'⟩ := ntCells hE'.net))
      all_goals
        try go_wp2
        go_ret
        exact ⟨vv, rfl, hvv.more (by omega), hE'.bl⟩
end Go.Proofs.YtcgejdlfiemjaaaDoor
