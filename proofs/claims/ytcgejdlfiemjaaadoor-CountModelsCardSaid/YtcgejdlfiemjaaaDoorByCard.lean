/- The walk of count.ByCard. -/
import Derived.Test.YtcgejdlfiemjaaaDoorSumC
set_option linter.unusedSimpArgs false
set_option linter.unusedVariables false
open Go Go.RowKit Cs
namespace Cs
theorem litVar_formed {x : Nd} {n before : Int} (h : formed x n before = true) (hn : 0 ≤ n) : litVar x.lit ≤ n := by
  unfold formed at h
  split at h
  · cases h
  · split at h
    · simp at h; rw [h.1]; exact hn
    · split at h
      · simp [litOk] at h; exact h.1.2
      · split at h
        · simp at h; rw [h]; exact hn
        · cases h
theorem wth_zero_bit (v : Int) (i : Nat) (h : (wth 0 v).testBit i = true) : (i : Int) + 1 = v := by
  unfold wth at h
  split at h
  · rw [Nat.zero_or, Nat.testBit_two_pow] at h
    simp at h; omega
  · simp at h
/-- The variables of a node are among those of its net. -/
theorem own_sub {N : Nt} (hv : vld N = true) : ∀ (m k : Nat), k < m → k < N.l.length → ∀ i, ((own N.l).getD k 0).testBit i = true → (i : Int) < N.n
  | m + 1, k, hkm, hk, i, h => by
    obtain ⟨hn0, hn1, _, _⟩ := vld_bounds hv
    rw [own_bit hv k hk i, Bool.or_eq_true, List.any_eq_true] at h
    rcases h with h | ⟨j, hj, h⟩
    · have h1 := wth_zero_bit _ _ h
      have h2 := litVar_formed (vld_formed hv k hk) hn0
      omega
    · obtain ⟨a, ha, rfl⟩ := List.getElem_of_mem hj
      obtain ⟨b, hb1, hb2⟩ := Go.Proofs.YtcgejdlfiemjaaaDoor.formed_ins (vld_formed hv k hk) a ha
      have e : N.l[k].ins[a] = (b : Int) := by rw [← hb1]; simp [List.getD, ha]
      rw [e, Int.toNat_natCast] at h
      exact own_sub hv m b (by omega) (by omega) i h
theorem crd_all (n : Int) (h0 : 0 ≤ n) (h1 : n ≤ 128) : crd (allTo n) = n.toNat := by
  unfold crd
  have e : (fun i => (allTo n).testBit i) = fun i => decide (i < n.toNat) := by funext i; rw [allTo_bit, show min n 128 = n by omega]
  rw [e]
  have h2 : ∀ m k : Nat, k ≤ m → (List.range m).countP (fun i => decide (i < k)) = k := by
    intro m
    induction m with
    | zero => intro k hk; simp; omega
    | succ m ih =>
      intro k hk
      rw [List.range_succ, List.countP_append]
      rcases Nat.eq_or_lt_of_le hk with rfl | hk
      · have h3 : (List.range m).countP (fun i => decide (i < m + 1)) = (List.range m).countP (fun i => decide (i < m)) := by
          apply List.countP_congr
          intro i hi
          rw [List.mem_range] at hi
          simp; omega
        rw [h3, ih m (Nat.le_refl _)]; simp
      · rw [ih k (by omega)]; simp; omega
  exact h2 128 n.toNat (by omega)
theorem RC_sum_len {N : Nt} (hv : vld N = true) (hd : dcmp N = true) : (RC.sum N).length ≤ N.n.toNat + 1 := by
  obtain ⟨hn0, hn1, hl0, hl1⟩ := vld_bounds hv
  have h1 := RC_all_len hv hd N.l.length (Nat.le_refl _) (N.l.length - 1) (by omega)
  rw [List.take_length] at h1
  have h2 := crd_minus (allTo N.n) ((own N.l).getD (N.l.length - 1) 0) (fun i hi => by
    have := own_sub hv (N.l.length) (N.l.length - 1) (by omega) (by omega) i hi
    rw [allTo_bit]; simp; omega)
  rw [crd_all _ hn0 hn1] at h2
  have h3 := RC_wide_len (vl (minus (allTo N.n) ((own N.l).getD (N.l.length - 1) 0))) ((RC.all (own N.l) N.l).getD (N.l.length - 1) RC.zero)
  rw [crd_vl] at h3
  show (RC.wide _ _).length ≤ _
  have h4 : ((RC.all (own N.l) N.l).getD (N.l.length - 1) RC.zero).length ≤ crd ((own N.l).getD (N.l.length - 1) 0) + 1 := h1
  omega
/-- The numbers of models by how many variables are true. -/
def cardL (N : Nt) (m : Nat) : List Nat := (List.range (m + 1)).map fun i => (RC.sum N).getD i 0
theorem cardL_get (N : Nt) (m i : Nat) : (cardL N m).getD i 0 = if i < m + 1 then (RC.sum N).getD i 0 else 0 := by unfold cardL; rw [getD_map_range]
end Cs
namespace Go.Proofs.YtcgejdlfiemjaaaDoor
set_option maxRecDepth 100000 in
set_option maxHeartbeats 1000000 in
theorem byCard_any (w : World) (N : Nt) (A : Option Addr) (c m : Nat) (hm : N.n = (m : Int)) (hN : NtAt w w.heap.size A N.l) (hT : Tab w) (hk : cchk N = 0) :
    Calls Tryd.prog 18 #[ntV N A c] w fun e w' => ∃ g, e = .returned (.tuple #[.slice (some ⟨g, 0, none⟩) (m + 1) (m + 1), .int .i64 0]) ∧ w.heap.size ≤ g ∧ w'.rowIs g 28 (m + 1) (natsF (cardL N m)) ∧ Below w.heap.size w w' := by
  obtain ⟨hv, hdc, hs⟩ := cchk_zero hk
  obtain ⟨hn0, hn1, hl0, hl1⟩ := vld_bounds hv
  have hcc := fun W h hT => countCheck_any W N A c (by omega) h hT
  rw [hk] at hcc
  have hsm := fun W q h1 h2 h3 => sumCard_any W N A c q h1 hv hdc hs h2 h3
  have hsl := RC_sum_len hv hdc
  have hcl := cardL_get N m
  obtain ⟨P, hP⟩ : ∃ P, RC.sum N = P := ⟨_, rfl⟩
  rw [hP] at hsl
  simp only [hP] at hsm hcl
  have HCL := Lib.hid hcl
  have HCC := Lib.hid hcc
  have HSM := Lib.hid hsm
  clear hcc hsm hk hv hs hdc hP hcl
  obtain ⟨n, l⟩ := N
  obtain rfl : n = (m : Int) := hm
  simp only [Int.toNat_natCast] at hn0 hn1 hl0 hl1 hN hsl
  have hnet := ntNew w ⟨(m : Int), l⟩ A c 24 _ rfl
  have hbl : Below w.heap.size w (w.alloc (.cells #[.int .i64 (m : Int), .slice A l.length c] 24)) := (Below.refl _ _).alloc (Nat.le_refl _) _
  have hmk := mk_nat (m + 1) (by omega)
  rw [Int.natCast_succ] at hmk
  have hwr : IntKind.i64.wrap ((m : Int) + 1) = (m : Int) + 1 := by rw [IntKind.wrap_i64]; omega
  have hof := fun W => of_any W 1 (by decide)
  simp only [Int.natCast_one] at hof
  have HOF := Lib.hid hof
  clear hof
  go_enter Tryd.func18, Tryd.ntmps18
  go_wp2_with (
    go_at_call 31
    (with_reducible refine (HCC.out _ ((hN.below hbl).more hbl.size) (hT.below hbl)).mono ?_)
    rintro e w5 ⟨rfl, hb5⟩
    replace hnet := rowBelow hnet hb5
    replace hbl := Cs.Below.trans' hbl hb5 hbl.size
    obtain ⟨hc1, hc2⟩ := ntCells hnet)
  go_wp2_with (
    go_at_call 23
    (with_reducible refine (HOF.out _).mono ?_)
    rintro e w6 ⟨rfl, hb6⟩
    replace hnet := rowBelow hnet hb6
    replace hbl := Cs.Below.trans' hbl hb6 hbl.size
    replace hnet := hnet.alloc (.cells #[.string (natB 1)] 28)
    replace hbl := hbl.alloc hbl.size (.cells #[.string (natB 1)] 28)
    have hone := boxCell (boxNew w6 (.string (natB 1)) 28 _ rfl)
    obtain ⟨hc1, hc2⟩ := ntCells hnet)
  (with_reducible refine (HSM.out _ w6.heap.size ((hN.below hbl).more hbl.size) hone (hT.below hbl)).mono ?_)
  rintro e w7 ⟨v, rfl, ⟨PA, pc, rfl, hpr, hpg⟩, hb7⟩
  replace hnet := rowBelow hnet hb7
  replace hbl := Cs.Below.trans' hbl hb7 hbl.size
  obtain ⟨hc1, hc2⟩ := ntCells hnet
  have hr0 := natsMade w7 (m + 1) 28 w7.heap.size rfl
  have hbl8 := hbl.alloc hbl.size (.cells (madeCells #[.string ⟨#[]⟩] (m + 1)) 28)
  have hpr8 : Rd (w7.alloc (.cells (madeCells #[.string ⟨#[]⟩] (m + 1)) 28)) w7.heap.size PA P.length (natsF P) := hpr.below ((Below.refl _ _).alloc (Nat.le_refl _) _)
  have hsz := hbl.size
  have HPR := Lib.hid hpr8
  clear hpr8 hpr hb7
  have HR0 := Lib.hid hr0
  clear hr0
  go_wp2_with ((with_reducible refine wpList_copy_row rfl (.tmp 24) (.tmp 25) 35 35 rfl 28 Tryd.underlying35 size_nat w7.heap.size (m + 1) (m + 1) P.length pc PA rfl rfl 28 (m + 1) _ HR0.out (by omega) hsl (natsF P) ?c1 ?c2 ?_); rotate_left; rotate_left; intro w9 hr9 hg9)
  case c1 =>
    intro h0
    obtain ⟨b', o', hA', _, hc⟩ := HPR.out h0
    exact ⟨b', o', hA', hc⟩
  case c2 => exact fun _ _ => rfl
  have hbl9 : Below w.heap.size w w9 := hbl8.grown hg9 (by simp; omega) (fun k e => by cases e; omega)
  refine bodyPost_ret (v := .tuple #[.slice (some ⟨w7.heap.size, 0, none⟩) (m + 1) (m + 1), .int .i64 0]) (by simp [results, Tryd.results18, go_sem]) rfl ⟨w7.heap.size, rfl, hsz, hr9.congr fun i hi => ?_, hbl9⟩
  unfold natsF
  rw [HCL.out, if_pos hi]
  split
  · rfl
  · rename_i h
    rw [getD_ge P i (by omega)]; rfl
set_option maxRecDepth 100000 in
set_option maxHeartbeats 400000 in
theorem byCard_no (w : World) (N : Nt) (A : Option Addr) (c : Nat) (hlen : N.l.length ≤ 140737488355328) (hN : NtAt w w.heap.size A N.l) (hT : Tab w) (hk : cchk N ≠ 0) :
    Calls Tryd.prog 18 #[ntV N A c] w fun e w' => e = .returned (.tuple #[.slice none 0 0, .int .i64 (cchk N)]) ∧ Below w.heap.size w w' := by
  have hnet := ntNew w N A c 24 _ rfl
  have hbl : Below w.heap.size w (w.alloc (.cells #[.int .i64 N.n, .slice A N.l.length c] 24)) := (Below.refl _ _).alloc (Nat.le_refl _) _
  have hcc := fun W h hT => countCheck_any W N A c hlen h hT
  have HCC := Lib.hid hcc
  have hb : (cchk N == 0) = false := beq_eq_false_iff_ne.2 hk
  clear hk hcc
  obtain ⟨n, l⟩ := N
  obtain ⟨E, hE⟩ : ∃ E, cchk ⟨n, l⟩ = E := ⟨_, rfl⟩
  rw [hE] at HCC hb ⊢
  clear hE
  go_enter Tryd.func18, Tryd.ntmps18
  go_wp2_with (
    go_at_call 31
    (with_reducible refine (HCC.out _ ((hN.below hbl).more hbl.size) (hT.below hbl)).mono ?_)
    rintro e w5 ⟨rfl, hb5⟩
    replace hbl := Cs.Below.trans' hbl hb5 hbl.size)
  go_ret2
  exact ⟨rfl, hbl⟩
end Go.Proofs.YtcgejdlfiemjaaaDoor
