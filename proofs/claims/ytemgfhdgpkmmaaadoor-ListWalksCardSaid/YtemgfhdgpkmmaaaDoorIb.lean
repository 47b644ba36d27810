/- The walks of the reference's Vars, Values. The walks of the reference's Values and Eval. The walks of the reference's Eval and Decomposable. -/
import Derived.Test.YtemgfhdgpkmmaaaDoorIa
import Derived.Test.YtemgfhdgpkmmaaaDoorS1
import Derived.Test.YtemgfhdgpkmmaaaDoorL7
import Derived.Lib.MinMax
/-! The walks of the reference's Vars, Values. -/
section
set_option linter.unusedSimpArgs false
set_option linter.unusedVariables false
open Go Go.RowKit Cs
namespace Go.Proofs.YtemgfhdgpkmmaaaDoor
theorem setsSame {w : World} {g : Nat} {t : TypeId} {n : Nat} {L : List Nat} (h : w.rowIs g t n (setsF L)) : w.rowIs g t n (setsF (L ++ [0])) := h.congr fun i hi => by
  unfold setsF
  have e : (L ++ [0]).getD (i / 2) 0 = L.getD (i / 2) 0 := by
    rw [List.getD_eq_getElem?_getD, List.getD_eq_getElem?_getD, List.getElem?_append]
    split
    · rfl
    · rename_i hh
      rw [List.getElem?_eq_none (l := L) (by omega)]
      rcases Nat.eq_zero_or_pos (i / 2 - L.length) with h0 | h0
      · rw [h0]; rfl
      · rw [List.getElem?_eq_none (by simp; omega)]
  rw [e]
set_option maxRecDepth 100000 in
set_option maxHeartbeats 2000000 in
theorem vars21_any (w : World) (N : Nt) (A : Option Addr) (c : Nat) (hN : NtAt w w.heap.size A N.l) (hv : vld N = true) :
    Calls Tryd.prog 85 #[ntV N A c] w fun e w' => ∃ g, e = .returned (.slice (some ⟨g, 0, none⟩) N.l.length N.l.length) ∧ w.heap.size ≤ g ∧ w'.rowIs g 27 (N.l.length * 2) (setsF (own N.l)) ∧ Below w.heap.size w w' := by
  obtain ⟨hn0, hn1, hl0, hl1⟩ := vld_bounds hv
  have hfm := fun k hk => vld_formed hv k hk
  have hso := own_set N.l
  obtain ⟨n, l⟩ := N
  simp only at hN hn0 hn1 hl0 hl1 hfm hso
  have HF := Lib.hid hfm; clear hfm hv
  have hbox := ntNew w ⟨n, l⟩ A c 24 _ rfl
  have hbl : Below w.heap.size w (w.alloc (.cells #[.int .i64 n, .slice A l.length c] 24)) := (Below.refl _ _).alloc (Nat.le_refl _) _
  have hmk := mk_set l.length (by omega)
  have hrow5 := setsMade (w.alloc (.cells #[.int .i64 n, .slice A l.length c] 24)) l.length 27 (w.heap.size + 1) (by simp)
  have hbx5 := hbox.alloc (.cells (madeCells #[.int .u64 0, .int .u64 0] (l.length * 2)) 27)
  have hbl5 := hbl.alloc hbl.size (.cells (madeCells #[.int .u64 0, .int .u64 0] (l.length * 2)) 27)
  go_enter Tryd.func85, Tryd.ntmps85
  obtain ⟨hc1, hc2⟩ := ntCells hbox
  go_wp2_with fail
  clear hbox hbl hc1 hc2 hmk
  go_loopw [4] (fun t wr => ∃ k : Nat, k ≤ l.length ∧ t = .int .i64 k ∧ wr.rowIs w.heap.size 24 2 (ntF ⟨n, l⟩ A c) ∧ wr.rowIs (w.heap.size + 1) 27 (l.length * 2) (setsF (own (l.take k))) ∧ Below w.heap.size w wr) (fun t _ => l.length - (intOf t).toNat)
  case atStart => exact ⟨0, by omega, rfl, hbx5, hrow5, hbl5⟩
  case round =>
    clear hrow5 hbl5 hbx5
    obtain ⟨k, hk, rfl, hbx, hrow, hbl⟩ := hrel
    obtain ⟨hc1, hc2⟩ := ntCells hbx
    simp only at hc1 hc2
    have hg := hrow.lt
    by_cases hlt : k < l.length
    · obtain ⟨b, o, rfl, hbB, hcs⟩ := hN (by omega)
      have hnd := hcs k hlt
      clear hcs
      have ht := scan_take ownStep l k hlt
      have hfk := HF.out k hlt
      obtain ⟨x, hx⟩ : ∃ x, l[k] = x := ⟨_, rfl⟩
      rw [hx] at hnd ht hfk
      have HT := Lib.hid ht; clear ht hx
      have hin := formed_ins hfk
      have HIN := Lib.hid hin; clear hin
      obtain ⟨hk1, hk2, ⟨A', c', hk3, hrd⟩, hr1, hr2, hr3, hr4⟩ := hnd
      have HN1 := Lib.hid hk1
      have HN2 := Lib.hid hk2
      have HN3 := Lib.hid hk3
      replace hk1 := below_cell hbl hbB hk1
      replace hk2 := below_cell hbl hbB hk2
      replace hk3 := below_cell hbl hbB hk3
      have HRD := Lib.hid hrd; clear hrd
      obtain ⟨L, hL⟩ : ∃ L, own (l.take k) = L := ⟨_, rfl⟩
      have hLl : L.length = k := by rw [← hL]; exact scan_len _ _ _ (by omega)
      have hLs : ∀ j, IsSet (L.getD j 0) := by rw [← hL]; exact own_set _
      rw [hL] at hrow
      change Hid (own (l.take (k + 1)) = own (l.take k) ++ [ownStep (own (l.take k)) x]) at HT
      rw [hL] at HT
      have HLS := Lib.hid hLs
      clear hL hLs
      have hL0 : L.getD k 0 = 0 := by rw [List.getD_eq_getElem?_getD, List.getElem?_eq_none (by omega)]; rfl
      obtain ⟨hs1, hs2, hs3, hs4⟩ := setsCells hrow k (by omega)
      rw [hL0] at hs1 hs2
      have hi3 : (k : Int) < (l.length : Int) := by omega
      by_cases h2 : x.kind = 2
      · obtain ⟨hlo, hins⟩ := formed_litOk hfk h2
        have HLI := Lib.hid hins
        have HLN := Lib.hid (show x.ins.length = 0 by rw [hins]; rfl)
        clear hins
        obtain ⟨m0, hm1, hm2, hm3⟩ := litOk_split hlo
        obtain ⟨q, rfl⟩ : ∃ q, m0 = q + 1 := ⟨m0 - 1, by omega⟩
        have hwt : wth 0 (litVar x.lit) = 2 ^ q := by
          have e : litVar x.lit = (q : Int) + 1 := by
            rcases hm3 with h | h <;> rw [h]
            · exact (litVar_nat (q + 1) (by omega)).1
            · exact (litVar_nat (q + 1) (by omega)).2
          rw [e]; unfold wth; rw [if_pos (by omega), Nat.zero_or]; congr 1
        have hkb : (x.kind == 2) = true := beq_iff_eq.2 h2
        have hwi := fun W => with21_any W 0 q (by omega)
        simp only [Nat.zero_or] at hwi
        have hmx : max x.lit (-x.lit) = (q : Int) + 1 := by omega
        have HWI := Lib.hid hwi
        obtain ⟨lt, hlt2⟩ : ∃ lt, x.lit = lt := ⟨_, rfl⟩
        rw [hlt2] at hk2 hmx hm3 HN2
        rw [hlt2] at hwt
        have HWT := Lib.hid hwt
        have HLT := Lib.hid hlt2
        have hlr : -128 ≤ lt ∧ lt ≤ 128 := by omega
        obtain ⟨hlr1, hlr2⟩ := hlr
        have hwn : IntKind.i64.wrap (-lt) = -lt := IntWalk.i64_in _ (by omega)
        clear hwi hwt hm3 h2 hlo hlt2 hfk hL0
        go_wp2_with fail
        have hrow' := hrow.drew
        have hbx' := hbx.drew
        have hbl' : Below w.heap.size w wr.drew := belowDrewN hbl 1
        go_cut [] from 24 to 45 (fun wx => wx.rowIs w.heap.size 24 2 (ntF ⟨n, l⟩ (some ⟨b, o, none⟩) c) ∧ wx.rowIs (w.heap.size + 1) 27 (l.length * 2) (setsF (L ++ [2 ^ q])) ∧ Below w.heap.size w wx)
        case first =>
          go_region_law (
            go_simp
            go_at_call 105
            (with_reducible refine (HWI.out _).mono ?_)
            rintro e w8 ⟨rfl, hb8⟩
            have hrow8 := rowBelow hrow' hb8
            have hbx8 := rowBelow hbx' hb8
            have hbl8 := Cs.Below.trans' hbl' hb8 hbl'.size
            obtain ⟨hg1, hg2, hf1, hf2⟩ := setsCells hrow8 k (by omega))
          all_goals
            try go_wp2
            go_meet
            case rel => exact ⟨(hbx8.setOther (by simp) _).setOther (by simp) _, setsNext hrow8 k (2 ^ q) hLl.symm, (hbl8.setCell (by simp) _).setCell (by simp) _⟩
        case rest =>
          obtain ⟨hbx8, hst, hbl8⟩ := hcut
          have hwt := HWT.out
          clear hbx hrow hbl hk1 hk2 hk3 hc1 hc2 hs1 hs2 hs3 hs4 hg hbx' hrow' hbl'
          obtain ⟨hc1, hc2⟩ := ntCells hbx8
          simp only at hc1 hc2
          have hk3 := below_cell hbl8 hbB HN3.out
          rw [HLN.out] at hk3
          go_wp2_with fail
          go_loopw [5] (fun t wq => t = .int .i64 0 ∧ wq.rowIs w.heap.size 24 2 (ntF ⟨n, l⟩ (some ⟨b, o, none⟩) c) ∧ wq.rowIs (w.heap.size + 1) 27 (l.length * 2) (setsF (L ++ [2 ^ q])) ∧ Below w.heap.size w wq) (fun t _ => 0)
          case atStart => exact ⟨rfl, hbx8, hst, hbl8⟩
          case round =>
            clear hbx8 hst hbl8 hc1 hc2 hk3
            obtain ⟨rfl, hbx, hrow, hbl⟩ := hrel
            obtain ⟨hc1, hc2⟩ := ntCells hbx
            simp only at hc1 hc2
            have hk3 := below_cell hbl hbB HN3.out
            rw [HLN.out] at hk3
            have hg2 := hrow.lt
            clear hwt
            go_wp2
            go_roundw
            case rel =>
              refine ⟨k + 1, by omega, by go_num, hbx, ?_, hbl⟩
              rw [HT.out]
              have e : ownStep L x = 2 ^ q := by
                show x.ins.foldl _ (wth 0 (litVar x.lit)) = _
                rw [HLI.out, HLT.out]
                exact HWT.out
              rw [e]; exact hrow
            case measure => simp [intOf]; omega
      · have hkb : (x.kind == 2) = false := beq_eq_false_iff_ne.2 h2
        have hwt : wth 0 (litVar x.lit) = 0 := by
          rw [formed_lit0 hfk h2]; rfl
        have hst := setsSame hrow
        have HWT := Lib.hid hwt
        clear hwt h2 hfk hL0
        go_wp2_with fail
        go_loopw [5] (fun t wq => ∃ m : Nat, m ≤ x.ins.length ∧ t = .int .i64 m ∧ wq.rowIs w.heap.size 24 2 (ntF ⟨n, l⟩ (some ⟨b, o, none⟩) c) ∧ wq.rowIs (w.heap.size + 1) 27 (l.length * 2) (setsF (L ++ [(x.ins.take m).foldl (fun s k => s ||| L.getD k.toNat 0) (wth 0 (litVar x.lit))])) ∧ Below w.heap.size w wq) (fun t _ => x.ins.length - (intOf t).toNat)
        case atStart => exact ⟨0, by omega, rfl, hbx, by rw [HWT.out]; exact hst, hbl⟩
        case round =>
          clear hbx hrow hbl hk1 hk2 hk3 hc1 hc2 hs1 hs2 hs3 hs4 hg
          clear hst
          try clear hf1 hf2
          obtain ⟨m, hm, rfl, hbx, hrow, hbl⟩ := hrel
          obtain ⟨hc1, hc2⟩ := ntCells hbx
          simp only at hc1 hc2
          have hg2 := hrow.lt
          have hk3 := below_cell hbl hbB HN3.out
          by_cases hmlt : m < x.ins.length
          · obtain ⟨b', o', rfl, hbB', hcs⟩ := HRD.out (by omega)
            have hc := below_cell hbl hbB' (hcs m hmlt)
            clear hcs
            unfold intF at hc
            obtain ⟨j, hj1, hj2⟩ := HIN.out m hmlt
            rw [hj1] at hc
            have hft : (x.ins.take (m + 1)).foldl (fun s k => s ||| L.getD k.toNat 0) (wth 0 (litVar x.lit)) = (x.ins.take m).foldl (fun s k => s ||| L.getD k.toNat 0) (wth 0 (litVar x.lit)) ||| L.getD j 0 := by
              have ht : x.ins.take (m + 1) = x.ins.take m ++ [x.ins[m]] := List.take_succ_eq_append_getElem hmlt
              have he : x.ins[m] = (j : Int) := by rw [← hj1]; simp [List.getD, hmlt]
              rw [ht, List.foldl_append, he]; rfl
            have HFT := Lib.hid hft; clear hft hj1
            obtain ⟨s, hs⟩ : ∃ s, (x.ins.take m).foldl (fun s k => s ||| L.getD k.toNat 0) (wth 0 (litVar x.lit)) = s := ⟨_, rfl⟩
            rw [hs] at hrow HFT
            clear hs
            have hsj : (L ++ [s]).getD j 0 = L.getD j 0 := by rw [getD_snoc, if_neg (by omega)]
            have hsk : (L ++ [s]).getD k 0 = s := by rw [getD_snoc, if_pos hLl.symm]
            obtain ⟨hs1, hs2, hs3, hs4⟩ := setsCells hrow k (by omega)
            obtain ⟨hs5, hs6, _, _⟩ := setsCells hrow j (by omega)
            rw [hsj] at hs5 hs6
            rw [hsk] at hs1 hs2
            clear hsj hsk
            obtain ⟨sj, hsj⟩ : ∃ sj, L.getD j 0 = sj := ⟨_, rfl⟩
            have hss : IsSet sj := by rw [← hsj]; exact HLS.out j
            rw [hsj] at hs5 hs6 HFT
            have hi1 : (0 : Int) ≤ (j : Int) := by omega
            have hi2 : (j : Int) < (l.length : Int) := by omega
            have HUN := Lib.hid (fun W => union21_any W s sj hss)
            clear hsj hss
            go_wp2_with fail
            have hrow' := hrow.drew
            have hbx' := hbx.drew
            have hbl' : Below w.heap.size w wr.drew := belowDrewN hbl 1
            go_region_law (
              go_simp
              go_at_call 106
              (with_reducible refine (HUN.out _).mono ?_)
              rintro e w8 ⟨rfl, hb8⟩
              have hrow8 := rowBelow hrow' hb8
              have hbx8 := rowBelow hbx' hb8
              have hbl8 := Cs.Below.trans' hbl' hb8 hbl'.size
              obtain ⟨hk1, hk2, hf1, hf2⟩ := setsCells hrow8 k (by omega))
            all_goals
              try go_wp2
              go_roundw
              case rel =>
                refine ⟨m + 1, by omega, by go_num, (hbx8.setOther (by simp) _).setOther (by simp) _, ?_, (hbl8.setCell (by simp) _).setCell (by simp) _⟩
                rw [HFT.out]
                exact setsLast hrow8 k _ hLl.symm
              case measure => simp [intOf]; omega
          · obtain rfl : m = x.ins.length := by omega
            go_wp2
            go_roundw
            case rel =>
              refine ⟨k + 1, by omega, by go_num, hbx, ?_, hbl⟩
              rw [HT.out]
              rw [List.take_length] at hrow
              exact hrow
            case measure => simp [intOf]; omega
    · obtain rfl : k = l.length := by omega
      go_wp2
      go_ret
      rw [List.take_length] at hrow
      exact ⟨_, rfl, by omega, hrow, hbl⟩
end Go.Proofs.YtemgfhdgpkmmaaaDoor
end
/-! The walks of the reference's Values and Eval. -/
section
set_option linter.unusedSimpArgs false
set_option linter.unusedVariables false
open Go Go.RowKit Cs
namespace Go.Proofs.YtemgfhdgpkmmaaaDoor
theorem boolsLast {w : World} {g n : Nat} {t : TypeId} {L : List Bool} {b0 : Bool} (h : w.rowIs g t n (boolF (L ++ [b0]))) (j : Nat) (b : Bool) (hj : j = L.length) : (w.setCell ⟨g, j, none⟩ (.bool b)).rowIs g t n (boolF (L ++ [b])) :=
  (h.set j _).congr fun i hi => by
    unfold boolF
    by_cases h1 : i = j
    · rw [if_pos h1, getD_snocB, if_pos (by omega)]
    · rw [if_neg h1, getD_snocB, if_neg (by omega), getD_snocB, if_neg (by omega)]
theorem formed_none {x : Nd} {n b : Int} (h : formed x n b = true) (hk : x.kind < 3) : x.ins = [] := by
  rcases Nat.eq_zero_or_pos x.ins.length with h0 | h0
  · exact List.eq_nil_of_length_eq_zero h0
  · rw [formed_len hk h0] at h; cases h
set_option maxRecDepth 100000 in
set_option maxHeartbeats 4000000 in
theorem values21_any (w : World) (N : Nt) (A : Option Addr) (c s : Nat) (hN : NtAt w w.heap.size A N.l) (hv : vld N = true) :
    Calls Tryd.prog 87 #[ntV N A c, setV s] w fun e w' => ∃ g, e = .returned (.slice (some ⟨g, 0, none⟩) N.l.length N.l.length) ∧ w.heap.size ≤ g ∧ w'.rowIs g 4 N.l.length (boolF (truth s N.l)) ∧ Below w.heap.size w w' := by
  obtain ⟨hn0, hn1, hl0, hl1⟩ := vld_bounds hv
  have hfm := fun k hk => vld_formed hv k hk
  obtain ⟨n, l⟩ := N
  simp only at hN hn0 hn1 hl0 hl1 hfm
  have HF := Lib.hid hfm; clear hfm hv
  have hq0 : Bag w w w.heap.size [(w.heap.size + 1, 27, 2, #[.int .u64 (lo s : Int), .int .u64 (hi s : Int)]), (w.heap.size, 24, 2, #[.int .i64 n, .slice A l.length c])] ((w.alloc (.cells #[.int .i64 n, .slice A l.length c] 24)).alloc (.cells #[.int .u64 (lo s : Int), .int .u64 (hi s : Int)] 27)) := ((Bag.start (Below.refl _ w)).new _ _ _ 2 rfl rfl).new _ _ (w.heap.size + 1) 2 (by simp) rfl
  have hmk := mk_bool l.length (by omega)
  have hrow5 := boolsMade ((w.alloc (.cells #[.int .i64 n, .slice A l.length c] 24)).alloc (.cells #[.int .u64 (lo s : Int), .int .u64 (hi s : Int)] 27)) l.length 4 (w.heap.size + 1 + 1) (by simp)
  have hq5 := hq0.alloc (.cells (madeCells #[.bool false] l.length) 4)
  go_enter Tryd.func87, Tryd.ntmps87
  have c1 := hq0.tail.is0 0 (by decide) (.int .i64 n) rfl
  have c2 := hq0.tail.is0 1 (by decide) (.slice A l.length c) rfl
  go_wp2_with fail
  clear hq0 c1 c2 hmk
  go_loopw [6] (fun t wr => ∃ k : Nat, k ≤ l.length ∧ t = .int .i64 k ∧ Bag w w w.heap.size [(w.heap.size + 1, 27, 2, #[.int .u64 (lo s : Int), .int .u64 (hi s : Int)]), (w.heap.size, 24, 2, #[.int .i64 n, .slice A l.length c])] wr ∧ wr.rowIs (w.heap.size + 1 + 1) 4 l.length (boolF (truth s (l.take k)))) (fun t _ => l.length - (intOf t).toNat)
  case atStart => exact ⟨0, by omega, rfl, hq5, hrow5⟩
  case round =>
    clear hq5 hrow5
    obtain ⟨k, hk, rfl, q, hrow⟩ := hrel
    have c1 := q.tail.is0 0 (by decide) (.int .i64 n) rfl
    have c2 := q.tail.is0 1 (by decide) (.slice A l.length c) rfl
    have hgl := hrow.lt
    by_cases hlt : k < l.length
    · obtain ⟨b, o, rfl, hbB, hcs⟩ := hN (by omega)
      have hnd := hcs k hlt
      clear hcs
      have ht := scan_take (evStep s) l k hlt
      have hfk := HF.out k hlt
      obtain ⟨x, hx⟩ : ∃ x, l[k] = x := ⟨_, rfl⟩
      rw [hx] at hnd ht hfk
      clear hx
      have hin := formed_ins hfk
      have HIN := Lib.hid hin; clear hin
      obtain ⟨hk1, hk2, ⟨A', c', hk3, hrd⟩, hr1, hr2, hr3, hr4⟩ := hnd
      replace hk1 := below_cell q.bl hbB hk1
      replace hk2 := below_cell q.bl hbB hk2
      replace hk3 := below_cell q.bl hbB hk3
      have HRD := Lib.hid hrd; clear hrd
      obtain ⟨L, hL⟩ : ∃ L, truth s (l.take k) = L := ⟨_, rfl⟩
      have hLl : L.length = k := by rw [← hL, truth_len]; simp; omega
      rw [hL] at hrow
      have HT : Hid (truth s (l.take (k + 1)) = L ++ [evStep s L x]) := by
        have : truth s (l.take (k + 1)) = truth s (l.take k) ++ [evStep s (truth s (l.take k)) x] := ht
        rw [hL] at this; exact this
      clear ht hL
      have hi3 : (k : Int) < (l.length : Int) := by omega
      have hf := hrow.frozen k
      have ho := hrow.cell (i := k) hlt
      have hok : boolF L k = .bool false := by unfold boolF; rw [List.getD_eq_getElem?_getD, List.getElem?_eq_none (by omega)]; rfl
      rw [hok] at ho
      clear hok
      obtain ⟨kd, lt, ins⟩ := x
      simp only at hk1 hk2 hk3 hr1 hr2 hr4 HRD HIN
      have hkk := formed_kinds hfk
      simp only at hkk
      rcases hkk with rfl | rfl | rfl | rfl | rfl
      · have hins := (formed_none hfk (by show (0 : Int) < 3; omega))
        simp only at hins
        subst hins
        have he : evStep s L ⟨0, lt, []⟩ = false := rfl
        have HE := Lib.hid he
        clear he
        have q1 := q.new #[.int .i64 0, .int .i64 lt, .slice A' 0 c'] 41 wr.heap.size 3 rfl rfl
        have r1 := hrow.alloc (.cells #[.int .i64 0, .int .i64 lt, .slice A' 0 c'] 41)
        go_wp2_with fail
        go_loopw [8] (fun t wq => t = .int .i64 0 ∧ Bag w w w.heap.size [(wr.heap.size, 41, 3, #[.int .i64 0, .int .i64 lt, .slice A' 0 c']), (w.heap.size + 1, 27, 2, #[.int .u64 (lo s : Int), .int .u64 (hi s : Int)]), (w.heap.size, 24, 2, #[.int .i64 n, .slice (some ⟨b, o, none⟩) l.length c])] wq ∧ wq.rowIs (w.heap.size + 1 + 1) 4 l.length (boolF (L ++ [false]))) (fun t _ => 0)
        case atStart => exact ⟨rfl, q1, boolsSame r1⟩
        case round =>
          clear q hrow c1 c2 hk1 hk2 hk3 ho hf
          obtain ⟨rfl, q, hrow⟩ := hrel
          have m3 := q.is0 2 (by decide) (.slice A' 0 c') rfl
          go_wp2
          go_roundw
          case rel => exact ⟨k + 1, by omega, by go_num, q.tail, by rw [HT.out, HE.out]; exact hrow⟩
          case measure => simp [intOf]; omega
      · have hins := (formed_none hfk (by show (1 : Int) < 3; omega))
        simp only at hins
        subst hins
        have he : evStep s L ⟨1, lt, []⟩ = true := rfl
        have HE := Lib.hid he
        clear he
        have q1 := q.new #[.int .i64 1, .int .i64 lt, .slice A' 0 c'] 41 wr.heap.size 3 rfl rfl
        have r1 := hrow.alloc (.cells #[.int .i64 1, .int .i64 lt, .slice A' 0 c'] 41)
        go_wp2_with fail
        go_loopw [8] (fun t wq => t = .int .i64 0 ∧ Bag w w w.heap.size [(wr.heap.size, 41, 3, #[.int .i64 1, .int .i64 lt, .slice A' 0 c']), (w.heap.size + 1, 27, 2, #[.int .u64 (lo s : Int), .int .u64 (hi s : Int)]), (w.heap.size, 24, 2, #[.int .i64 n, .slice (some ⟨b, o, none⟩) l.length c])] wq ∧ wq.rowIs (w.heap.size + 1 + 1) 4 l.length (boolF (L ++ [true]))) (fun t _ => 0)
        case atStart => exact ⟨rfl, ((q.other (by omega) (by intro r hr; simp only [List.mem_cons, List.mem_nil_iff, or_false] at hr; rcases hr with rfl | rfl <;> first | (simp <;> omega) | omega) k (.bool true)).new #[.int .i64 1, .int .i64 lt, .slice A' 0 c'] 41 wr.heap.size 3 (size_setCell _ _ _) rfl), (boolsNext hrow k true hLl.symm).alloc _⟩
        case round =>
          clear q hrow c1 c2 hk1 hk2 hk3 ho hf
          obtain ⟨rfl, q, hrow⟩ := hrel
          have m3 := q.is0 2 (by decide) (.slice A' 0 c') rfl
          go_wp2
          go_roundw
          case rel => exact ⟨k + 1, by omega, by go_num, q.tail, by rw [HT.out, HE.out]; exact hrow⟩
          case measure => simp [intOf]; omega
      · have hins := (formed_none hfk (by show (2 : Int) < 3; omega))
        simp only at hins
        subst hins
        have he : evStep s L ⟨2, lt, []⟩ = hld s lt := by show (decide ((2 : Int) = 1) || decide ((2 : Int) = 3) || (decide ((2 : Int) = 2) && hld s lt)) = _; simp
        have HE := Lib.hid he
        clear he
        have q1 := q.new #[.int .i64 2, .int .i64 lt, .slice A' 0 c'] 41 wr.heap.size 3 rfl rfl
        have r1 := hrow.alloc (.cells #[.int .i64 2, .int .i64 lt, .slice A' 0 c'] 41)
        obtain ⟨hlo, _⟩ := formed_litOk hfk rfl
        have hlz : litVar lt ≠ 0 := by unfold litOk at hlo; simp at hlo; exact hlo.1
        have HHO := Lib.hid (fun W => holds5_any W s lt hlz)
        clear hlo hlz
        have z1 := q.is0 0 (by decide) (.int .u64 (lo s : Int)) rfl
        have z2 := q.is0 1 (by decide) (.int .u64 (hi s : Int)) rfl
        have hz2 := q.lt0
        go_wp2_with fail
        refine (HHO.out _).mono ?_
        rintro e w8 ⟨rfl, hb8⟩
        have q2 := q1.below hb8
        have r2 := rowBelow r1 hb8
        have ho2 := r2.cell (i := k) hlt
        have hf2 := r2.frozen k
        clear z1 z2 hz2 q1 r1
        have hnl := q2.lt0
        go_wp2_with fail
        go_loopw [8] (fun t wq => t = .int .i64 0 ∧ Bag w w w.heap.size [(wr.heap.size, 41, 3, #[.int .i64 2, .int .i64 lt, .slice A' 0 c']), (w.heap.size + 1, 27, 2, #[.int .u64 (lo s : Int), .int .u64 (hi s : Int)]), (w.heap.size, 24, 2, #[.int .i64 n, .slice (some ⟨b, o, none⟩) l.length c])] wq ∧ wq.rowIs (w.heap.size + 1 + 1) 4 l.length (boolF (L ++ [hld s lt]))) (fun t _ => 0)
        case atStart => exact ⟨rfl, (q2.other (by omega) (by intro r hr; simp only [List.mem_cons, List.mem_nil_iff, or_false] at hr; rcases hr with rfl | rfl | rfl <;> first | (simp <;> omega) | omega) k _), boolsNext r2 k (hld s lt) hLl.symm⟩
        case round =>
          clear q2 r2 ho2 hf2 q hrow c1 c2 hk1 hk2 hk3 ho hf
          obtain ⟨rfl, q, hrow⟩ := hrel
          have m3 := q.is0 2 (by decide) (.slice A' 0 c') rfl
          go_wp2
          go_roundw
          case rel => exact ⟨k + 1, by omega, by go_num, q.tail, by rw [HT.out, HE.out]; exact hrow⟩
          case measure => simp [intOf]; omega
      · have q1 := q.new #[.int .i64 3, .int .i64 lt, .slice A' ins.length c'] 41 wr.heap.size 3 rfl rfl
        have r1 := hrow.alloc (.cells #[.int .i64 3, .int .i64 lt, .slice A' ins.length c'] 41)
        have HE : Hid (evStep s L ⟨3, lt, ins⟩ = ins.foldl (evIn L ⟨3, lt, ins⟩) true) := rfl
        go_wp2_with fail
        go_loopw [8] (fun t wq => ∃ m : Nat, m ≤ ins.length ∧ t = .int .i64 (m : Int) ∧ Bag w w w.heap.size [(wr.heap.size, 41, 3, #[.int .i64 3, .int .i64 lt, .slice A' ins.length c']), (w.heap.size + 1, 27, 2, #[.int .u64 (lo s : Int), .int .u64 (hi s : Int)]), (w.heap.size, 24, 2, #[.int .i64 n, .slice (some ⟨b, o, none⟩) l.length c])] wq ∧ wq.rowIs (w.heap.size + 1 + 1) 4 l.length (boolF (L ++ [(ins.take m).foldl (evIn L ⟨3, lt, ins⟩) true]))) (fun t _ => ins.length - (intOf t).toNat)
        case atStart => exact ⟨0, by omega, rfl, ((q.other (by omega) (by intro r hr; simp only [List.mem_cons, List.mem_nil_iff, or_false] at hr; rcases hr with rfl | rfl <;> first | (simp <;> omega) | omega) k (.bool true)).new #[.int .i64 3, .int .i64 lt, .slice A' ins.length c'] 41 wr.heap.size 3 (size_setCell _ _ _) rfl), (boolsNext hrow k true hLl.symm).alloc _⟩
        case round =>
          clear q hrow c1 c2 hk1 hk2 hk3 ho hf
          obtain ⟨m, hm, rfl, q, hrow⟩ := hrel
          have m1 := q.is0 0 (by decide) (.int .i64 3) rfl
          have m3 := q.is0 2 (by decide) (.slice A' ins.length c') rfl
          by_cases hmlt : m < ins.length
          · obtain ⟨b', o', rfl, hbB', hcs⟩ := HRD.out (by omega)
            have hc := below_cell q.bl hbB' (hcs m hmlt)
            clear hcs
            unfold intF at hc
            obtain ⟨j, hj1, hj2⟩ := HIN.out m hmlt
            have hft : (ins.take (m + 1)).foldl (evIn L ⟨3, lt, ins⟩) true = ((ins.take m).foldl (evIn L ⟨3, lt, ins⟩) true && L.getD j false) := by
              have ht : ins.take (m + 1) = ins.take m ++ [ins[m]] := List.take_succ_eq_append_getElem hmlt
              have he : ins[m] = (j : Int) := by rw [← hj1]; simp [List.getD, hmlt]
              rw [ht, List.foldl_append, he]; rfl
            rw [hj1] at hc
            have HFT := Lib.hid hft; clear hft hj1
            obtain ⟨F, hF⟩ : ∃ F, (ins.take m).foldl (evIn L ⟨3, lt, ins⟩) true = F := ⟨_, rfl⟩
            rw [hF] at hrow HFT
            have ho := hrow.cell (i := k) hlt
            have hoj := hrow.cell (i := j) (by omega)
            have hf := hrow.frozen k
            have e1 : boolF (L ++ [F]) k = .bool F := by unfold boolF; rw [getD_snocB, if_pos hLl.symm]
            have e2 : boolF (L ++ [F]) j = .bool (L.getD j false) := by unfold boolF; rw [getD_snocB, if_neg (by omega)]
            rw [e1] at ho
            rw [e2] at hoj
            obtain ⟨G, hG⟩ : ∃ G, L.getD j false = G := ⟨_, rfl⟩
            rw [hG] at hoj HFT
            have hi1 : (0 : Int) ≤ (j : Int) := by omega
            have hi2 : (j : Int) < (l.length : Int) := by omega
            have HF2 := Lib.hid hF
            clear e1 e2 hG hF
            cases F
            all_goals
              go_wp2
              go_roundw
              case rel =>
                refine ⟨m + 1, by omega, by go_num, (q.other (by omega) (by intro r hr; simp only [List.mem_cons, List.mem_nil_iff, or_false] at hr; rcases hr with rfl | rfl | rfl <;> first | (simp <;> omega) | omega) k _), ?_⟩
                rw [HFT.out]
                exact boolsLast hrow k _ hLl.symm
              case measure => simp [intOf]; omega
          · obtain rfl : m = ins.length := by omega
            go_wp2
            go_roundw
            case rel =>
              refine ⟨k + 1, by omega, by go_num, q.tail, ?_⟩
              rw [HT.out, HE.out]
              rw [List.take_length] at hrow
              exact hrow
            case measure => simp [intOf]; omega
      · have q1 := q.new #[.int .i64 4, .int .i64 lt, .slice A' ins.length c'] 41 wr.heap.size 3 rfl rfl
        have r1 := hrow.alloc (.cells #[.int .i64 4, .int .i64 lt, .slice A' ins.length c'] 41)
        have HE : Hid (evStep s L ⟨4, lt, ins⟩ = ins.foldl (evIn L ⟨4, lt, ins⟩) false) := rfl
        go_wp2_with fail
        go_loopw [8] (fun t wq => ∃ m : Nat, m ≤ ins.length ∧ t = .int .i64 (m : Int) ∧ Bag w w w.heap.size [(wr.heap.size, 41, 3, #[.int .i64 4, .int .i64 lt, .slice A' ins.length c']), (w.heap.size + 1, 27, 2, #[.int .u64 (lo s : Int), .int .u64 (hi s : Int)]), (w.heap.size, 24, 2, #[.int .i64 n, .slice (some ⟨b, o, none⟩) l.length c])] wq ∧ wq.rowIs (w.heap.size + 1 + 1) 4 l.length (boolF (L ++ [(ins.take m).foldl (evIn L ⟨4, lt, ins⟩) false]))) (fun t _ => ins.length - (intOf t).toNat)
        case atStart => exact ⟨0, by omega, rfl, q1, boolsSame r1⟩
        case round =>
          clear q hrow c1 c2 hk1 hk2 hk3 ho hf
          obtain ⟨m, hm, rfl, q, hrow⟩ := hrel
          have m1 := q.is0 0 (by decide) (.int .i64 4) rfl
          have m3 := q.is0 2 (by decide) (.slice A' ins.length c') rfl
          by_cases hmlt : m < ins.length
          · obtain ⟨b', o', rfl, hbB', hcs⟩ := HRD.out (by omega)
            have hc := below_cell q.bl hbB' (hcs m hmlt)
            clear hcs
            unfold intF at hc
            obtain ⟨j, hj1, hj2⟩ := HIN.out m hmlt
            have hft : (ins.take (m + 1)).foldl (evIn L ⟨4, lt, ins⟩) false = ((ins.take m).foldl (evIn L ⟨4, lt, ins⟩) false || L.getD j false) := by
              have ht : ins.take (m + 1) = ins.take m ++ [ins[m]] := List.take_succ_eq_append_getElem hmlt
              have he : ins[m] = (j : Int) := by rw [← hj1]; simp [List.getD, hmlt]
              rw [ht, List.foldl_append, he]; rfl
            rw [hj1] at hc
            have HFT := Lib.hid hft; clear hft hj1
            obtain ⟨F, hF⟩ : ∃ F, (ins.take m).foldl (evIn L ⟨4, lt, ins⟩) false = F := ⟨_, rfl⟩
            rw [hF] at hrow HFT
            have ho := hrow.cell (i := k) hlt
            have hoj := hrow.cell (i := j) (by omega)
            have hf := hrow.frozen k
            have e1 : boolF (L ++ [F]) k = .bool F := by unfold boolF; rw [getD_snocB, if_pos hLl.symm]
            have e2 : boolF (L ++ [F]) j = .bool (L.getD j false) := by unfold boolF; rw [getD_snocB, if_neg (by omega)]
            rw [e1] at ho
            rw [e2] at hoj
            obtain ⟨G, hG⟩ : ∃ G, L.getD j false = G := ⟨_, rfl⟩
            rw [hG] at hoj HFT
            have hi1 : (0 : Int) ≤ (j : Int) := by omega
            have hi2 : (j : Int) < (l.length : Int) := by omega
            have HF2 := Lib.hid hF
            clear e1 e2 hG hF
            cases F
            all_goals
              go_wp2
              go_roundw
              case rel =>
                refine ⟨m + 1, by omega, by go_num, (q.other (by omega) (by intro r hr; simp only [List.mem_cons, List.mem_nil_iff, or_false] at hr; rcases hr with rfl | rfl | rfl <;> first | (simp <;> omega) | omega) k _), ?_⟩
                rw [HFT.out]
                exact boolsLast hrow k _ hLl.symm
              case measure => simp [intOf]; omega
          · obtain rfl : m = ins.length := by omega
            go_wp2
            go_roundw
            case rel =>
              refine ⟨k + 1, by omega, by go_num, q.tail, ?_⟩
              rw [HT.out, HE.out]
              rw [List.take_length] at hrow
              exact hrow
            case measure => simp [intOf]; omega
    · obtain rfl : k = l.length := by omega
      go_wp2
      go_ret
      rw [List.take_length] at hrow
      exact ⟨_, rfl, by omega, hrow, q.bl⟩
end Go.Proofs.YtemgfhdgpkmmaaaDoor
end
/-! The walks of the reference's Eval and Decomposable. -/
section
set_option linter.unusedSimpArgs false
set_option linter.unusedVariables false
open Go Go.RowKit Cs
namespace Cs
theorem or_zero (a b : Nat) : a ||| b = 0 ↔ a = 0 ∧ b = 0 := by
  constructor
  · intro h
    have h1 : a ≤ a ||| b := Nat.left_le_or
    have h2 : b ≤ a ||| b := Nat.right_le_or
    omega
  · rintro ⟨rfl, rfl⟩; rfl
/-- The set of an input's variables. -/
def inS (O : List Nat) (ks : List Int) (a : Nat) : Nat := O.getD (ks.getD a 0).toNat 0
theorem apart_iff (O : List Nat) : ∀ (ks : List Int) (s : Nat), apart O s ks = true ↔ (∀ a, a < ks.length → s &&& inS O ks a = 0) ∧ ∀ a, a < ks.length → ∀ b, b < a → inS O ks a &&& inS O ks b = 0
  | [], s => by simp [apart]
  | k :: ks, s => by
    unfold apart
    have ih := apart_iff O ks (s ||| O.getD k.toNat 0)
    have e0 : inS O (k :: ks) 0 = O.getD k.toNat 0 := rfl
    have es : ∀ a, inS O (k :: ks) (a + 1) = inS O ks a := fun a => rfl
    constructor
    · intro h
      split at h
      · rename_i h0
        obtain ⟨h1, h2⟩ := ih.1 h
        have h3 : ∀ a, a < ks.length → s &&& inS O ks a = 0 ∧ O.getD k.toNat 0 &&& inS O ks a = 0 := fun a ha => by
          have := h1 a ha
          rw [Nat.and_or_distrib_right] at this
          exact (or_zero _ _).1 this
        refine ⟨fun a ha => ?_, fun a ha b hb => ?_⟩
        · match a with
          | 0 => rw [e0]; exact h0
          | a + 1 => rw [es]; exact (h3 a (by simp at ha; omega)).1
        · match a with
          | 0 => omega
          | a + 1 =>
            match b with
            | 0 => rw [es, e0, Nat.and_comm]; exact (h3 a (by simp at ha; omega)).2
            | b + 1 => rw [es, es]; exact h2 a (by simp at ha; omega) b (by omega)
      · cases h
    · rintro ⟨h1, h2⟩
      have h0 := h1 0 (by simp)
      rw [e0] at h0
      rw [if_pos h0]
      refine ih.2 ⟨fun a ha => ?_, fun a ha b hb => ?_⟩
      · rw [Nat.and_or_distrib_right]
        have h3 := h1 (a + 1) (by simp; omega)
        have h4 := h2 (a + 1) (by simp; omega) 0 (by omega)
        rw [es] at h3 h4
        rw [e0, Nat.and_comm] at h4
        exact (or_zero _ _).2 ⟨h3, h4⟩
      · have h4 := h2 (a + 1) (by simp; omega) (b + 1) (by omega)
        rw [es, es] at h4
        exact h4
theorem dcmpL_iff (O : List Nat) : ∀ (l : List Nd), dcmpL O l = true ↔ ∀ k (hk : k < l.length), l[k].kind = 3 → ∀ a, a < l[k].ins.length → ∀ b, b < a → inS O l[k].ins a &&& inS O l[k].ins b = 0
  | [] => by simp [dcmpL]
  | x :: xs => by
    have ih := dcmpL_iff O xs
    unfold dcmpL
    have h0 : apart O 0 x.ins = true ↔ ∀ a, a < x.ins.length → ∀ b, b < a → inS O x.ins a &&& inS O x.ins b = 0 := by
      rw [apart_iff]
      exact ⟨fun h => h.2, fun h => ⟨fun a _ => Nat.zero_and _, h⟩⟩
    constructor
    · intro h k hk h3
      match k, hk, h3 with
      | 0, hk, h3 =>
        simp only [List.getElem_cons_zero] at h3 ⊢
        rw [if_pos h3, Bool.and_eq_true] at h
        exact h0.1 h.1
      | k + 1, hk, h3 =>
        simp only [List.getElem_cons_succ] at h3 ⊢
        have h5 : dcmpL O xs = true := by
          split at h
          · rw [Bool.and_eq_true] at h; exact h.2
          · exact h
        exact ih.1 h5 k (by simp at hk; omega) h3
    · intro h
      have h5 : dcmpL O xs = true := ih.2 fun k hk h3 => by
        have := h (k + 1) (by simp; omega)
        simp only [List.getElem_cons_succ] at this
        exact this h3
      split
      · rename_i h3
        rw [Bool.and_eq_true]
        have := h 0 (by simp)
        simp only [List.getElem_cons_zero] at this
        exact ⟨h0.2 (this h3), h5⟩
      · exact h5
theorem dcmp_true {l : List Nd} {n : Int} {O : List Nat} (hO : own l = O) (h : ∀ k (hk : k < l.length), l[k].kind = 3 → ∀ a, a < l[k].ins.length → ∀ b, b < a → inS O l[k].ins a &&& inS O l[k].ins b = 0) : dcmp ⟨n, l⟩ = true := by
  unfold dcmp; rw [show own (Nt.mk n l).l = O from hO]; exact (dcmpL_iff O l).2 h
theorem dcmp_false {l : List Nd} {n : Int} {O : List Nat} (hO : own l = O) {k a b : Nat} {x : Nd} (hk : k < l.length) (hx : l[k] = x) (h3 : x.kind = 3) (ha : a < x.ins.length) (hb : b < a) (h : inS O x.ins a &&& inS O x.ins b ≠ 0) : dcmp ⟨n, l⟩ = false := by
  cases hd : dcmp ⟨n, l⟩
  · rfl
  · unfold dcmp at hd
    rw [show own (Nt.mk n l).l = O from hO] at hd
    have := (dcmpL_iff O l).1 hd k hk (by rw [hx]; exact h3) a (by rw [hx]; exact ha) b hb
    rw [hx] at this
    exact absurd this h
end Cs
namespace Go.Proofs.YtemgfhdgpkmmaaaDoor
set_option maxRecDepth 100000 in
set_option maxHeartbeats 1000000 in
theorem eval21_any (w : World) (N : Nt) (A : Option Addr) (c s : Nat) (hN : NtAt w w.heap.size A N.l) (hv : vld N = true) :
    Calls Tryd.prog 62 #[ntV N A c, setV s] w fun e w' => e = .returned (.bool (evB N s)) ∧ Below w.heap.size w w' := by
  obtain ⟨hn0, hn1, hl0, hl1⟩ := vld_bounds hv
  have hva := fun W h => values21_any W N A c s h hv
  have hev : boolF (truth s N.l) (N.l.length - 1) = .bool (evB N s) := rfl
  obtain ⟨E, hE⟩ : ∃ E, evB N s = E := ⟨_, rfl⟩
  rw [hE] at hev ⊢
  have hq0 : Bag w w w.heap.size [(w.heap.size + 1, 27, 2, #[.int .u64 (lo s : Int), .int .u64 (hi s : Int)]), (w.heap.size, 24, 2, #[.int .i64 N.n, .slice A N.l.length c])] ((w.alloc (.cells #[.int .i64 N.n, .slice A N.l.length c] 24)).alloc (.cells #[.int .u64 (lo s : Int), .int .u64 (hi s : Int)] 27)) := ((Bag.start (Below.refl _ w)).new _ _ _ 2 rfl rfl).new _ _ (w.heap.size + 1) 2 (by simp) rfl
  have HVA := Lib.hid hva
  have HEV := Lib.hid hev
  obtain ⟨J, hJ⟩ : ∃ J, N.l.length - 1 = J := ⟨_, rfl⟩
  have hJ2 : (N.l.length : Int) - 1 = (J : Int) := by omega
  have hwr : IntKind.i64.wrap ((N.l.length : Int) - 1) = (J : Int) := by rw [hJ2]; exact IntWalk.i64_in _ (by omega)
  have hwr2 : IntKind.i64.wrap (J : Int) = (J : Int) := IntWalk.i64_in _ (by omega)
  have hi0 : (0 : Int) ≤ (J : Int) := by omega
  have hi1 : (J : Int) < (N.l.length : Int) := by omega
  have hJn : J < N.l.length := by omega
  rw [hJ] at HEV
  clear hva hev hE hv hJ
  go_enter Tryd.func62, Tryd.ntmps62
  go_wp2_with fail
  have q := hq0.drew
  have hnt : ∀ W, Below w.heap.size w W → NtAt W W.heap.size A N.l := fun W hb => (hN.below hb).more hb.size
  have HNT := Lib.hid hnt
  clear hnt hN
  have s1 := q.is0 0 (by decide) (.int .u64 (lo s : Int)) rfl
  have s2 := q.is0 1 (by decide) (.int .u64 (hi s : Int)) rfl
  have c1 := q.tail.is0 0 (by decide) (.int .i64 N.n) rfl
  have c2 := q.tail.is0 1 (by decide) (.slice A N.l.length c) rfl
  go_region_law (
    go_simp
    go_at_call 87
    (with_reducible refine (HVA.out _ (HNT.out _ q.bl)).mono ?_)
    rintro e w9 ⟨g, rfl, hg, hrow, hb9⟩
    replace q := q.below hb9
    have r1 := hrow.cell (i := J) hJn
    rw [HEV.out] at r1
    have s1 := q.is0 0 (by decide) (.int .u64 (lo s : Int)) rfl
    have s2 := q.is0 1 (by decide) (.int .u64 (hi s : Int)) rfl
    have c1 := q.tail.is0 0 (by decide) (.int .i64 N.n) rfl
    have c2 := q.tail.is0 1 (by decide) (.slice A N.l.length c) rfl)
  all_goals
    try go_wp2
    go_ret
    exact ⟨rfl, q.bl⟩
set_option maxRecDepth 100000 in
set_option maxHeartbeats 4000000 in
theorem decomp21_ok (w : World) (N : Nt) (A : Option Addr) (c : Nat) (hN : NtAt w w.heap.size A N.l) (hv : vld N = true) :
    Calls Tryd.prog 60 #[ntV N A c] w fun e w' => e = .returned (.bool (dcmp N)) ∧ Below w.heap.size w w' := by
  obtain ⟨hn0, hn1, hl0, hl1⟩ := vld_bounds hv
  have hfm := fun k hk => vld_formed hv k hk
  have hva := fun W h => vars21_any W N A c h hv
  obtain ⟨n, l⟩ := N
  simp only at hN hn0 hn1 hl0 hl1 hfm hva
  have hol := own_len l
  have hos : ∀ j, IsSet ((own l).getD j 0) := own_set l
  obtain ⟨O, hO⟩ : ∃ O, own l = O := ⟨_, rfl⟩
  rw [hO] at hol hos
  simp only [hO] at hva
  have hdt := fun h => dcmp_true (n := n) hO h
  have hdf := fun k a b x hk hx h3 ha hb h => dcmp_false (n := n) (k := k) (a := a) (b := b) (x := x) hO hk hx h3 ha hb h
  obtain ⟨D, hD⟩ : ∃ D, dcmp ⟨n, l⟩ = D := ⟨_, rfl⟩
  simp only [hD] at hdt hdf
  rw [hD]
  have hvl := fun W h => valid21_any W ⟨n, l⟩ A c (by simp only; omega) h
  rw [hv] at hvl
  have HVL := Lib.hid hvl
  clear hvl
  have HDT := Lib.hid hdt
  have HDF := Lib.hid hdf
  have HFM := Lib.hid hfm
  have HVA := Lib.hid hva
  have HOL := Lib.hid hol
  have HOS := Lib.hid hos
  clear hfm hva hol hv hO hos hdt hdf hD
  have hbox := ntNew w ⟨n, l⟩ A c 24 _ rfl
  have hbl : Below w.heap.size w (w.alloc (.cells #[.int .i64 n, .slice A l.length c] 24)) := (Below.refl _ _).alloc (Nat.le_refl _) _
  go_enter Tryd.func60, Tryd.ntmps60
  go_wp2_with fail
  refine (HVL.out _ ((hN.below hbl).more hbl.size)).mono ?_
  rintro e w4 ⟨rfl, hb4⟩
  replace hbox := rowBelow hbox hb4
  replace hbl := Cs.Below.trans' hbl hb4 hbl.size
  obtain ⟨v1, v2⟩ := ntCells hbox
  go_wp2_with fail
  refine (HVA.out _ ((hN.below hbl).more hbl.size)).mono ?_
  rintro e w5 ⟨g, rfl, hgg, hvr, hb5⟩
  clear v1 v2
  replace hbox := rowBelow hbox hb5
  replace hb5 := Cs.Below.trans' hbl hb5 hbl.size
  have hz5 : w.heap.size < w5.heap.size := hbox.lt
  have hgv : g < w5.heap.size := hvr.lt
  have HB5 := Lib.hid hb5
  have HBOX := Lib.hid hbox
  have HVR := Lib.hid hvr
  clear hb5 HVA hbl hvr hgg hbox
  obtain ⟨v1, v2⟩ := ntCells HBOX.out
  go_wp2_with fail
  clear v1 v2
  go_loopw [4] (fun t wr => ∃ (k : Nat), k ≤ l.length ∧ t = .int .i64 k ∧ Hid (∀ k' (hk : k' < l.length), k' < k → l[k'].kind = 3 → ∀ a, a < l[k'].ins.length → ∀ b, b < a → inS O l[k'].ins a &&& inS O l[k'].ins b = 0) ∧ Below w5.heap.size w5 wr) (fun t _ => l.length - (intOf t).toNat)
  case atStart => exact ⟨0, by omega, rfl, Lib.hid (fun k' _ h => absurd h (by omega)), Below.refl _ _⟩
  case round =>
    obtain ⟨k, hk, rfl, HP, hE⟩ := hrel
    obtain ⟨hn1', hn2'⟩ := ntCells (rowBelow HBOX.out hE)
    simp only at hn1' hn2'
    have hz6 := hE.size
    by_cases hlt : k < l.length
    · obtain ⟨b0, o0, rfl, hbB, hcs⟩ := hN (by omega)
      have hnd := hcs k hlt
      clear hcs
      have hfk := HFM.out k hlt
      obtain ⟨x, hx⟩ : ∃ x, l[k] = x := ⟨_, rfl⟩
      rw [hx] at hnd hfk
      have HX := Lib.hid hx
      have HIN := Lib.hid (formed_ins hfk)
      clear hfk hx
      obtain ⟨hk1, hk2, ⟨A', c', hk3, hrd⟩, hr1, hr2, hr3, hr4⟩ := hnd
      have HK1 := Lib.hid hk1
      have HK3 := Lib.hid hk3
      have hb0 : Below w.heap.size w wr := HB5.out.trans (hE.mono (Nat.le_of_lt hz5))
      replace hk3 := below_cell hb0 hbB hk3
      have HRD := Lib.hid hrd; clear hrd hk1 hk2
      have hi0 : (0 : Int) ≤ (k : Int) := by omega
      have hi1 : (k : Int) < (l.length : Int) := by omega
      obtain ⟨W0, rfl⟩ : ∃ W0, W0 = wr := ⟨wr, rfl⟩
      go_wp2_with fail
      clear hk3 hb0
      go_loopw [6] (fun t wr => ∃ (a : Nat), a ≤ x.ins.length ∧ t = .int .i64 a ∧ Hid (x.kind = 3 → ∀ a', a' < a → ∀ b, b < a' → inS O x.ins a' &&& inS O x.ins b = 0) ∧ Below w5.heap.size w5 wr) (fun t _ => x.ins.length - (intOf t).toNat)
      case atStart => exact ⟨0, by omega, rfl, Lib.hid (fun _ a' h => absurd h (by omega)), hE⟩
      case round =>
        clear hE hn1' hn2' hz6
        obtain ⟨a, ha, rfl, HQ, hE⟩ := hrel
        obtain ⟨hn1', hn2'⟩ := ntCells (rowBelow HBOX.out hE)
        simp only at hn1' hn2'
        have hz6 := hE.size
        have hb0 : Below w.heap.size w wr := HB5.out.trans (hE.mono (Nat.le_of_lt hz5))
        have hk1 := below_cell hb0 hbB HK1.out
        by_cases hal : a < x.ins.length
        · have ha1 : (a : Int) < (x.ins.length : Int) := by omega
          by_cases h3 : x.kind = 3
          · rw [h3] at hk1
            have H3 := Lib.hid h3
            go_wp2_with fail
            clear hk1 hn1' hn2' hb0
            go_loopw [7] (fun t wr => ∃ (b : Nat), b ≤ a ∧ t = .int .i64 b ∧ Hid (∀ b', b' < b → inS O x.ins a &&& inS O x.ins b' = 0) ∧ Below w5.heap.size w5 wr) (fun t _ => a - (intOf t).toNat)
            case atStart => exact ⟨0, by omega, rfl, Lib.hid (fun b' h => absurd h (by omega)), hE⟩
            case round =>
              clear hE hz6
              obtain ⟨b, hb, rfl, HR, hE⟩ := hrel
              have hz6 := hE.size
              have hb0 : Below w.heap.size w wr := HB5.out.trans (hE.mono (Nat.le_of_lt hz5))
              by_cases hbl : b < a
              · obtain ⟨b', o', rfl, hbB', hcs⟩ := HRD.out (by omega)
                have hca := below_cell hb0 hbB' (hcs a (by omega))
                have hcb := below_cell hb0 hbB' (hcs b (by omega))
                clear hcs
                unfold intF at hca hcb
                obtain ⟨i, hi1', hi2⟩ := HIN.out a (by omega)
                obtain ⟨j, hj1', hj2⟩ := HIN.out b (by omega)
                have hsi : inS O x.ins a = O.getD i 0 := by unfold inS; rw [hi1']; rfl
                have hsj : inS O x.ins b = O.getD j 0 := by unfold inS; rw [hj1']; rfl
                rw [hi1'] at hca
                rw [hj1'] at hcb
                have hvr1 := rowBelow HVR.out hE
                obtain ⟨s1, s2, _, _⟩ := setsCells hvr1 i (by omega)
                obtain ⟨s3, s4, _, _⟩ := setsCells hvr1 j (by omega)
                have hsS := HOS.out i
                obtain ⟨si, hSi⟩ : ∃ z, O.getD i 0 = z := ⟨_, rfl⟩
                obtain ⟨sj, hSj⟩ : ∃ z, O.getD j 0 = z := ⟨_, rfl⟩
                rw [hSi] at s1 s2 hsi hsS
                rw [hSj] at s3 s4 hsj
                have hme := fun W => meets21_any W si sj hsS
                obtain ⟨B, hB⟩ : ∃ B, decide (si &&& sj ≠ 0) = B := ⟨_, rfl⟩
                simp only [hB] at hme
                have HME := Lib.hid hme
                have HBB := Lib.hid hB
                have HSI := Lib.hid hsi
                have HSJ := Lib.hid hsj
                have i0 : (0 : Int) ≤ (i : Int) := by omega
                have i1 : (i : Int) < (l.length : Int) := by omega
                have j0 : (0 : Int) ≤ (j : Int) := by omega
                have j1 : (j : Int) < (l.length : Int) := by omega
                have a0 : (0 : Int) ≤ (a : Int) := by omega
                have b1 : (b : Int) < (x.ins.length : Int) := by omega
                have b2 : (b : Int) < (a : Int) := by omega
                have b0' : (0 : Int) ≤ (b : Int) := by omega
                clear hi1' hj1' hSi hSj hsS hsi hsj hvr1 hme hB
                go_wp2_with fail
                have d3 : wr.drew.cell? ⟨b', o' + a, none⟩ = some (.int .i64 (i : Int)) := hca
                have d4 : wr.drew.cell? ⟨b', o' + b, none⟩ = some (.int .i64 (j : Int)) := hcb
                have d5 : wr.drew.cell? ⟨g, i * 2, none⟩ = some (.int .u64 (lo si : Int)) := s1
                have d6 : wr.drew.cell? ⟨g, i * 2 + 1, none⟩ = some (.int .u64 (hi si : Int)) := s2
                have d7 : wr.drew.cell? ⟨g, j * 2, none⟩ = some (.int .u64 (lo sj : Int)) := s3
                have d8 : wr.drew.cell? ⟨g, j * 2 + 1, none⟩ = some (.int .u64 (hi sj : Int)) := s4
                clear hca hcb s1 s2 s3 s4
                have hE2 : Below w5.heap.size w5 wr.drew := belowDrewN hE 1
                have hlb : b' < wr.drew.heap.size := Nat.lt_of_lt_of_le hbB' hb0.size
                have hlg : g < wr.drew.heap.size := Nat.lt_of_lt_of_le hgv hE.size
                cases B
                · go_region_held3 (fun w' => w'.cell? ⟨b', o' + a, none⟩ = some (.int .i64 (i : Int)) ∧ w'.cell? ⟨b', o' + b, none⟩ = some (.int .i64 (j : Int)) ∧ w'.cell? ⟨g, i * 2, none⟩ = some (.int .u64 (lo si : Int)) ∧ w'.cell? ⟨g, i * 2 + 1, none⟩ = some (.int .u64 (hi si : Int)) ∧ w'.cell? ⟨g, j * 2, none⟩ = some (.int .u64 (lo sj : Int)) ∧ w'.cell? ⟨g, j * 2 + 1, none⟩ = some (.int .u64 (hi sj : Int)))
                    (first | exact ⟨d3, d4, d5, d6, d7, d8⟩ | go_keep)
                    (first
                      | (go_simp
                         go_at_call 86
                         (with_reducible first | refine (HME.out _).mono ?_)
                         rintro e w9 ⟨rfl, hb9⟩
                         replace hE2 := Cs.Below.trans' hE2 hb9 hE2.size
                         have d3 := below_cell hb9 hlb d3
                         have d4 := below_cell hb9 hlb d4
                         have d5 := below_cell hb9 hlg d5
                         have d6 := below_cell hb9 hlg d6
                         have d7 := below_cell hb9 hlg d7
                         have d8 := below_cell hb9 hlg d8))
                  all_goals
                    try go_wp2
                    go_roundw
                    case rel =>
                      refine ⟨b + 1, by omega, by go_num, Lib.hid (fun b' hb' => ?_), hE2⟩
                      rcases Nat.lt_or_ge b' b with h | h
                      · exact HR.out b' h
                      · obtain rfl : b' = b := by omega
                        rw [HSI.out, HSJ.out]
                        exact Classical.byContradiction fun hn => by
                          have := HBB.out
                          rw [decide_eq_true hn] at this; cases this
                    case measure => simp [intOf]; omega
                · have hD := HDF.out k a b x hlt HX.out H3.out hal hbl (by
                    rw [HSI.out, HSJ.out]
                    exact of_decide_eq_true HBB.out)
                  subst hD
                  go_region_held3 (fun w' => w'.cell? ⟨b', o' + a, none⟩ = some (.int .i64 (i : Int)) ∧ w'.cell? ⟨b', o' + b, none⟩ = some (.int .i64 (j : Int)) ∧ w'.cell? ⟨g, i * 2, none⟩ = some (.int .u64 (lo si : Int)) ∧ w'.cell? ⟨g, i * 2 + 1, none⟩ = some (.int .u64 (hi si : Int)) ∧ w'.cell? ⟨g, j * 2, none⟩ = some (.int .u64 (lo sj : Int)) ∧ w'.cell? ⟨g, j * 2 + 1, none⟩ = some (.int .u64 (hi sj : Int)))
                    (first | exact ⟨d3, d4, d5, d6, d7, d8⟩ | go_keep)
                    (first
                      | (go_simp
                         go_at_call 86
                         (with_reducible first | refine (HME.out _).mono ?_)
                         rintro e w9 ⟨rfl, hb9⟩
                         replace hE2 := Cs.Below.trans' hE2 hb9 hE2.size
                         have d3 := below_cell hb9 hlb d3
                         have d4 := below_cell hb9 hlb d4
                         have d5 := below_cell hb9 hlg d5
                         have d6 := below_cell hb9 hlg d6
                         have d7 := below_cell hb9 hlg d7
                         have d8 := below_cell hb9 hlg d8))
                  all_goals
                    try go_wp2
                    go_ret
                    exact ⟨rfl, HB5.out.trans (hE2.mono (Nat.le_of_lt hz5))⟩
              · obtain rfl : b = a := by omega
                go_wp2
                go_roundw
                case rel =>
                  refine ⟨b + 1, by omega, by go_num, Lib.hid (fun h3 a' ha' b' hb' => ?_), hE⟩
                  rcases Nat.lt_or_ge a' b with h | h
                  · exact HQ.out h3 a' h b' hb'
                  · obtain rfl : a' = b := by omega
                    exact HR.out b' hb'
                case measure => simp [intOf]; omega
          · have HN3 := Lib.hid h3
            have hk33 : (x.kind == 3) = false := beq_eq_false_iff_ne.2 h3
            go_wp2_with fail
            go_roundw
            case rel =>
              refine ⟨k + 1, by omega, by go_num, Lib.hid (fun k' hk' hlt' h => ?_), hE⟩
              rcases Nat.lt_or_ge k' k with h4 | h4
              · exact HP.out k' hk' h4 h
              · obtain rfl : k' = k := by omega
                rw [HX.out] at h
                exact absurd h HN3.out
            case measure => simp [intOf]; omega
        · obtain rfl : a = x.ins.length := by omega
          have hd : decide ((x.ins.length : Int) < (x.ins.length : Int)) = false := decide_eq_false (by omega)
          go_wp2_with fail
          go_roundw
          case rel =>
            refine ⟨k + 1, by omega, by go_num, Lib.hid (fun k' hk' hlt' h => ?_), hE⟩
            rcases Nat.lt_or_ge k' k with h4 | h4
            · exact HP.out k' hk' h4 h
            · obtain rfl : k' = k := by omega
              rw [HX.out] at h ⊢
              exact HQ.out h
          case measure => simp [intOf]; omega
    · obtain rfl : k = l.length := by omega
      have hD := HDT.out (fun k' hk' h3 => HP.out k' hk' hk' h3)
      subst hD
      have hbw : Below w.heap.size w wr := HB5.out.trans (hE.mono (Nat.le_of_lt hz5))
      clear hlt hE
      go_wp2
      go_ret
      exact ⟨rfl, hbw⟩
set_option maxRecDepth 100000 in
theorem decomp21_any (w : World) (N : Nt) (A : Option Addr) (c : Nat) (hlen : N.l.length ≤ 140737488355328) (hN : NtAt w w.heap.size A N.l) :
    Calls Tryd.prog 60 #[ntV N A c] w fun e w' => e = .returned (.bool (vld N && dcmp N)) ∧ Below w.heap.size w w' := by
  by_cases hv : vld N = true
  · rw [hv, Bool.true_and]; exact decomp21_ok w N A c hN hv
  · have hv : vld N = false := by simpa using hv
    have hvl := fun W h => valid21_any W N A c hlen h
    rw [hv] at hvl
    rw [hv, Bool.false_and]
    have HVL := Lib.hid hvl
    have hbl : Below w.heap.size w (w.alloc (.cells #[.int .i64 N.n, .slice A N.l.length c] 24)) := (Below.refl _ _).alloc (Nat.le_refl _) _
    clear hvl hv
    go_enter Tryd.func60, Tryd.ntmps60
    go_wp2_with fail
    refine (HVL.out _ ((hN.below hbl).more hbl.size)).mono ?_
    rintro e w5 ⟨rfl, hb5⟩
    go_wp2
    go_ret
    exact ⟨rfl, Cs.Below.trans' hbl hb5 hbl.size⟩
end Go.Proofs.YtemgfhdgpkmmaaaDoor
end
