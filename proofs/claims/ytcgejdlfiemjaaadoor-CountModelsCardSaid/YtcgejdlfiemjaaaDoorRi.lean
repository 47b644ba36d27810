/- The walk of the reference's product of polynomials. -/
import Derived.Test.YtcgejdlfiemjaaaDoorR4
import Derived.Test.YtcgejdlfiemjaaaDoorM1
set_option linter.unusedSimpArgs false
set_option linter.unusedVariables false
open Go Go.RowKit Cs
namespace Go.Proofs.YtcgejdlfiemjaaaDoor
theorem rmk_str (n : Nat) (h : n ≤ 1000000000) (u : World) : (Instr.makeSlice 69 (.int .i64 (n : Int)) (.int .i64 (n : Int))).run Tryd.prog u =
    .ok (.slice (some ⟨u.heap.size, 0, none⟩) n n) (u.alloc (.cells (madeCells #[.string ⟨#[]⟩] n) 9)) := by
  obtain ⟨i0, hi, hz0, hz1, hz2⟩ := info_parts info_str
  exact run_make_row 69 9 i0 (.string ⟨#[]⟩) Tryd.underlying69 hi hz0 hz1 rfl .i64 .i64 n (by rw [hz2]; omega) (by omega) u
def cvF (f : Nat → Nat) (j : Nat) : Value := .string (dec (f j))
set_option maxRecDepth 100000 in
set_option maxHeartbeats 2000000 in
theorem rpmul_any (w : World) (A B : Option Addr) (ca cb : Nat) (a b : List Nat) (hla : a.length ≤ 100000) (hlb : b.length ≤ 100000) (hA : Rd w w.heap.size A a.length (decF a)) (hB : Rd w w.heap.size B b.length (decF b))
    (hda : ∀ i, decN (a.getD i 0) ≤ 10000000) (hdb : ∀ i, decN (b.getD i 0) ≤ 10000000) (hdab : ∀ i k, decN (a.getD i 0 * b.getD k 0) ≤ 10000000) (hcv : ∀ i k t, i < a.length → k ≤ b.length → decN (cvI a b i (cvO a b i) k t) ≤ 10000000) :
    Calls Tryd.prog 68 #[.slice A a.length ca, .slice B b.length cb] w (RPoly w (trimP (mulF a b))) := by
  have hlen := mulF_len a b
  have hget := mulF_get a b
  obtain ⟨p, hp⟩ : ∃ p, mulF a b = p := ⟨_, rfl⟩
  rw [hp] at hlen ⊢
  simp only [hp] at hget
  have HGET := Lib.hid hget
  have HA := Lib.hid hA
  have HB := Lib.hid hB
  have HDA := Lib.hid hda
  have HDB := Lib.hid hdb
  have HDAB := Lib.hid hdab
  have HCVB := Lib.hid hcv
  have HL := Lib.hid hlen
  have hmk := rmk_str (a.length + b.length) (by omega)
  rw [Int.natCast_add] at hmk
  have hz0 : (Value.string ⟨#[48]⟩) = .string (dec 0) := by rw [dec_zero]
  have HZ := Lib.hid hz0
  clear hda hdb hdab hget hp hA hB hlen hcv hz0
  go_enter Tryd.func68, Tryd.ntmps68
  go_wp2
  go_loopw [6] (fun t wr => ∃ k : Nat, k ≤ a.length + b.length ∧ t = .int .i64 k ∧ wr.rowIs w.heap.size 9 (a.length + b.length) (fun j => if j < k then .string (dec 0) else .string ⟨#[]⟩) ∧ Below w.heap.size w wr) (fun t _ => a.length + b.length - (intOf t).toNat)
  case atStart => exact ⟨0, by omega, rfl, rowMade _ _ _ _ _ rfl (fun i _ => by simp), (Below.refl _ _).alloc (Nat.le_refl _) _⟩
  case round =>
    obtain ⟨k, hk, rfl, hrow, hbel⟩ := hrel
    by_cases hlt : k < a.length + b.length
    · have hf := hrow.frozen k
      have hc := hrow.cell (i := k) hlt
      have i1 : (k : Int) < (a.length : Int) + (b.length : Int) := by omega
      go_wp2
      go_roundw
      case rel =>
        refine ⟨k + 1, by omega, by go_num, (hrow.set k _).congr fun j _ => ?_, hbel.setCell (by simp) _⟩
        split
        · subst j; rw [if_pos (by omega), HZ.out]
        · by_cases h : j < k
          · rw [if_pos h, if_pos (by omega)]
          · rw [if_neg h, if_neg (by omega)]
      case measure => simp [intOf]; omega
    · obtain rfl : k = a.length + b.length := by omega
      have hrow0 : wr.rowIs w.heap.size 9 (a.length + b.length) (cvF (cvO a b 0)) := hrow.congr fun j hj => by rw [if_pos hj]; rfl
      have hnlt : ¬ ((a.length + b.length : Nat) : Int) < (a.length : Int) + (b.length : Int) := by omega
      clear hrow hlt
      obtain ⟨W1, rfl⟩ : ∃ W1, W1 = wr := ⟨wr, rfl⟩
      go_wp2
      go_loopw [7] (fun t wr => ∃ i : Nat, i ≤ a.length ∧ t = .int .i64 i ∧ wr.rowIs w.heap.size 9 (a.length + b.length) (cvF (cvO a b i)) ∧ Below w.heap.size w wr) (fun t _ => a.length - (intOf t).toNat)
      case atStart => exact ⟨0, by omega, rfl, hrow0, hbel⟩
      case round =>
        clear hrow0 hbel hnlt
        obtain ⟨i, hi, rfl, hrow, hbel⟩ := hrel
        by_cases hilt : i < a.length
        · obtain ⟨b1, o1, rfl, hb1, hcs⟩ := HA.out (by omega)
          have hca0 := hcs i hilt
          unfold decF at hca0
          obtain ⟨x, hx⟩ : ∃ x, a.getD i 0 = x := ⟨_, rfl⟩
          rw [hx] at hca0
          have HX := Lib.hid hx
          clear hcs hx
          obtain ⟨W0, rfl⟩ : ∃ W0, W0 = wr := ⟨wr, rfl⟩
          have hrow1 : W0.rowIs w.heap.size 9 (a.length + b.length) (cvF (cvI a b i (cvO a b i) 0)) := hrow
          clear hrow
          go_wp2
          go_loopw [8] (fun t wr => ∃ k : Nat, k ≤ b.length ∧ t = .int .i64 k ∧ wr.rowIs w.heap.size 9 (a.length + b.length) (cvF (cvI a b i (cvO a b i) k)) ∧ Below w.heap.size w wr) (fun t _ => b.length - (intOf t).toNat)
          case atStart => exact ⟨0, by omega, rfl, hrow1, hbel⟩
          case round =>
            clear hrow1 hbel
            obtain ⟨k, hk, rfl, hrow, hbel⟩ := hrel
            by_cases hklt : k < b.length
            · obtain ⟨b2, o2, rfl, hb2, hcs⟩ := HB.out (by omega)
              have hcb0 := hcs k hklt
              unfold decF at hcb0
              obtain ⟨y, hy⟩ : ∃ y, b.getD k 0 = y := ⟨_, rfl⟩
              rw [hy] at hcb0
              have hik : i + k < a.length + b.length := by omega
              have hcv : ∀ t, cvI a b i (cvO a b i) (k + 1) t = cvI a b i (cvO a b i) k t + if t = i + k then x * y else 0 := fun t => by rw [← hy, ← HX.out]; rfl
              have HCV := Lib.hid hcv
              have hmul := fun W => rmul_any W x y (by rw [← HX.out]; exact HDA.out i) (by rw [← hy]; exact HDB.out k)
              have hsb := HCVB.out i k (i + k) hilt (by omega)
              have hxy := HDAB.out i k
              rw [HX.out, hy] at hxy
              obtain ⟨s, hs⟩ : ∃ s, cvI a b i (cvO a b i) k (i + k) = s := ⟨_, rfl⟩
              rw [hs] at hsb
              have HS := Lib.hid hs
              have hadd := fun W => radd_any W s (x * y) hsb hxy
              have HMUL := Lib.hid hmul
              have HADD := Lib.hid hadd
              clear hcs hy hcv hmul hadd hs hsb hxy
              have hbl' := belowDrewN hbel 1
              change Below _ _ (World.drew _) at hbl'
              have hzz' := hbl'.size
              have hrow' := hrow.drew
              have hca : wr.drew.cell? ⟨b1, o1 + i, none⟩ = some (.string (dec x)) := below_cell hbl' hb1 hca0
              have hcb : wr.drew.cell? ⟨b2, o2 + k, none⟩ = some (.string (dec y)) := below_cell hbl' hb2 hcb0
              have hs1' : wr.drew.cell? ⟨w.heap.size, i + k, none⟩ = some (.string (dec s)) := (hrow'.cell (i := i + k) hik).trans (by unfold cvF; rw [HS.out])
              have hs2' := hrow'.frozen (i + k)
              have hi1 : (0 : Int) ≤ (i : Int) + (k : Int) := by omega
              have hi2 : (i : Int) + (k : Int) < (a.length : Int) + (b.length : Int) := by omega
              have hwr : IntKind.i64.wrap ((i : Int) + (k : Int)) = (i : Int) + (k : Int) := by rw [IntKind.wrap_i64]; omega
              have htn : ((i : Int) + (k : Int)).toNat = i + k := by omega
              clear hcb0
              go_wp2_with fail
              refine wp_region_heldE (fun w' => w'.cell? ⟨w.heap.size, i + k, none⟩ = some (.string (dec s)) ∧ w'.cell? ⟨b1, o1 + i, none⟩ = some (.string (dec x)) ∧ w'.cell? ⟨b2, o2 + k, none⟩ = some (.string (dec y))) 21 (by kernel_rfl) ⟨hs1', hca, hcb⟩ (fun hS => ?_)
              refine wpAnyE_take (i := 0) (v := ?_) hS (by kernel_rfl) rfl (by kernel_rfl) (by kernel_rfl) (fun _ _ _ h => h) (Or.inl ⟨by rfl, ?_⟩) ?_
              rotate_left
              · (intro w hSw; go_simp; try with_reducible rfl)
              try simp only [Act.put, List.setIfInBounds_toArray, List.set_cons_zero, List.set_cons_succ]
              refine wpAnyE_take (i := 1) (v := ?_) hS (by kernel_rfl) rfl (by kernel_rfl) (by kernel_rfl) (fun _ _ _ h => h) (Or.inl ⟨by rfl, ?_⟩) ?_
              rotate_left
              · (intro w hSw; go_simp; try with_reducible rfl)
              try simp only [Act.put, List.setIfInBounds_toArray, List.set_cons_zero, List.set_cons_succ]
              refine wpAnyE_take (i := 2) (v := ?_) hS (by kernel_rfl) rfl (by kernel_rfl) (by kernel_rfl) (fun _ _ _ h => h) (Or.inl ⟨by rfl, ?_⟩) ?_
              rotate_left
              · (intro w hSw; go_simp; try with_reducible rfl)
              try simp only [Act.put, List.setIfInBounds_toArray, List.set_cons_zero, List.set_cons_succ]
              refine wpAnyE_take (i := 3) (v := ?_) hS (by kernel_rfl) rfl (by kernel_rfl) (by kernel_rfl) (fun _ _ _ h => h) (Or.inl ⟨by rfl, ?_⟩) ?_
              rotate_left
              · (intro w hSw; go_simp; try with_reducible rfl)
              try simp only [Act.put, List.setIfInBounds_toArray, List.set_cons_zero, List.set_cons_succ]
              refine wpAnyE_take (i := 4) (v := ?_) hS (by kernel_rfl) rfl (by kernel_rfl) (by kernel_rfl) (fun _ _ _ h => h) (Or.inl ⟨by rfl, ?_⟩) ?_
              rotate_left
              · (intro w hSw; go_simp; try with_reducible rfl)
              try simp only [Act.put, List.setIfInBounds_toArray, List.set_cons_zero, List.set_cons_succ]
              refine wpAnyE_take (i := 5) (v := ?_) hS (by kernel_rfl) rfl (by kernel_rfl) (by kernel_rfl) (fun _ _ _ h => h) (Or.inl ⟨by rfl, ?_⟩) ?_
              rotate_left
              · (intro w hSw; go_simp; try with_reducible rfl)
              try simp only [Act.put, List.setIfInBounds_toArray, List.set_cons_zero, List.set_cons_succ]
              refine wpAnyE_take (i := 6) (v := ?_) hS (by kernel_rfl) rfl (by kernel_rfl) (by kernel_rfl) (fun _ _ _ h => h) (Or.inl ⟨by rfl, ?_⟩) ?_
              rotate_left
              · (intro w hSw; go_simp; try with_reducible rfl)
              try simp only [Act.put, List.setIfInBounds_toArray, List.set_cons_zero, List.set_cons_succ]
              refine wpAnyE_take (i := 7) (v := ?_) hS (by kernel_rfl) rfl (by kernel_rfl) (by kernel_rfl) (fun _ _ _ h => h) (Or.inl ⟨by rfl, ?_⟩) ?_
              rotate_left
              · (intro w hSw; go_simp; try with_reducible rfl)
              try simp only [Act.put, List.setIfInBounds_toArray, List.set_cons_zero, List.set_cons_succ]
              refine wpAnyE_take (i := 8) (v := ?_) hS (by kernel_rfl) rfl (by kernel_rfl) (by kernel_rfl) (fun _ _ _ h => h) (Or.inl ⟨by rfl, ?_⟩) ?_
              rotate_left
              · (intro w hSw; go_simp; try with_reducible rfl)
              try simp only [Act.put, List.setIfInBounds_toArray, List.set_cons_zero, List.set_cons_succ]
              refine wpAnyE_take (i := 9) (v := ?_) hS (by kernel_rfl) rfl (by kernel_rfl) (by kernel_rfl) (fun _ _ _ h => h) (Or.inl ⟨by rfl, ?_⟩) ?_
              rotate_left
              · (intro w hSw; go_simp; try with_reducible rfl)
              try simp only [Act.put, List.setIfInBounds_toArray, List.set_cons_zero, List.set_cons_succ]
              refine wpAnyE_take (i := 10) (v := ?_) hS (by kernel_rfl) rfl (by kernel_rfl) (by kernel_rfl) (fun _ _ _ h => h) (Or.inl ⟨by rfl, ?_⟩) ?_
              rotate_left
              · (intro w hSw; go_simp; try with_reducible rfl)
              try simp only [Act.put, List.setIfInBounds_toArray, List.set_cons_zero, List.set_cons_succ]
              refine wpAnyE_take (i := 11) (v := ?_) hS (by kernel_rfl) rfl (by kernel_rfl) (by kernel_rfl) (fun _ _ _ h => h) (Or.inl ⟨by rfl, ?_⟩) ?_
              rotate_left
              · (intro w hSw; go_simp; try with_reducible rfl)
              try simp only [Act.put, List.setIfInBounds_toArray, List.set_cons_zero, List.set_cons_succ]
              refine wpAnyE_take (i := 12) (v := ?_) hS (by kernel_rfl) rfl (by kernel_rfl) (by kernel_rfl) (fun _ _ _ h => h) (Or.inl ⟨by rfl, ?_⟩) ?_
              rotate_left
              · (intro w hSw; go_simp; try with_reducible rfl)
              try simp only [Act.put, List.setIfInBounds_toArray, List.set_cons_zero, List.set_cons_succ]
              refine wpAnyE_take (i := 13) (v := ?_) hS (by kernel_rfl) rfl (by kernel_rfl) (by kernel_rfl) (fun _ _ _ h => h) (Or.inl ⟨by rfl, ?_⟩) ?_
              rotate_left
              · (intro w hSw; go_simp; try with_reducible rfl)
              try simp only [Act.put, List.setIfInBounds_toArray, List.set_cons_zero, List.set_cons_succ]
              refine wpAnyE_take (i := 14) (v := ?_) hS (by kernel_rfl) rfl (by kernel_rfl) (by kernel_rfl) (fun _ _ _ h => h) (Or.inl ⟨by rfl, ?_⟩) ?_
              rotate_left
              · (intro w hSw; go_simp; try with_reducible rfl)
              try simp only [Act.put, List.setIfInBounds_toArray, List.set_cons_zero, List.set_cons_succ]
              refine wpAnyE_take (i := 15) (v := ?_) hS (by kernel_rfl) rfl (by kernel_rfl) (by kernel_rfl) (fun _ _ _ h => h) (Or.inl ⟨by rfl, ?_⟩) ?_
              rotate_left
              · (intro w hSw; go_simp; try with_reducible rfl)
              try simp only [Act.put, List.setIfInBounds_toArray, List.set_cons_zero, List.set_cons_succ]
              refine wpAnyE_take (i := 16) (v := ?_) hS (by kernel_rfl) rfl (by kernel_rfl) (by kernel_rfl) (fun _ _ _ h => h) (Or.inl ⟨by rfl, ?_⟩) ?_
              rotate_left
              · (intro w hSw; go_simp; try with_reducible rfl)
              try simp only [Act.put, List.setIfInBounds_toArray, List.set_cons_zero, List.set_cons_succ]
              refine wpAnyE_take (i := 17) (v := ?_) hS (by kernel_rfl) rfl (by kernel_rfl) (by kernel_rfl) (fun _ _ _ h => h) (Or.inl ⟨by rfl, ?_⟩) ?_
              rotate_left
              · (intro w hSw; go_simp; try with_reducible rfl)
              try simp only [Act.put, List.setIfInBounds_toArray, List.set_cons_zero, List.set_cons_succ]
              refine wpAnyE_one 18 (by kernel_rfl) rfl (fun K hK => ?_)
              go_simp
              go_at_call 75
              (with_reducible refine (HMUL.out _).mono ?_)
              rintro e w9 ⟨rfl, hb9⟩
              replace hrow' := rowBelow hrow' hb9
              have hca := below_cell hb9 (Nat.lt_of_lt_of_le hb1 hzz') hca
              have hcb := below_cell hb9 (Nat.lt_of_lt_of_le hb2 hzz') hcb
              replace hbl' := Cs.Below.trans' hbl' hb9 hbl'.size
              have hzz' := hbl'.size
              have hs1' : w9.cell? ⟨w.heap.size, i + k, none⟩ = some (.string (dec s)) := (hrow'.cell (i := i + k) hik).trans (by unfold cvF; rw [HS.out])
              have hs2' := hrow'.frozen (i + k)
              refine hK.out _ _ (fun _ => ⟨hs1', hca, hcb⟩) (fun hS => ?_)
              replace hS := hS (by decide)
              clear hK K
              try simp only [Act.put, List.setIfInBounds_toArray, List.set_cons_zero, List.set_cons_succ]
              refine wpAnyE_one 19 (by kernel_rfl) rfl (fun K hK => ?_)
              go_simp
              go_at_call 79
              (with_reducible refine (HADD.out _).mono ?_)
              rintro e w9 ⟨rfl, hb9⟩
              replace hrow' := rowBelow hrow' hb9
              have hca := below_cell hb9 (Nat.lt_of_lt_of_le hb1 hzz') hca
              have hcb := below_cell hb9 (Nat.lt_of_lt_of_le hb2 hzz') hcb
              replace hbl' := Cs.Below.trans' hbl' hb9 hbl'.size
              have hzz' := hbl'.size
              have hs1' : w9.cell? ⟨w.heap.size, i + k, none⟩ = some (.string (dec s)) := (hrow'.cell (i := i + k) hik).trans (by unfold cvF; rw [HS.out])
              have hs2' := hrow'.frozen (i + k)
              refine hK.out _ _ (fun _ => ⟨hs1', hca, hcb⟩) (fun hS => ?_)
              replace hS := hS (by decide)
              clear hK K
              try simp only [Act.put, List.setIfInBounds_toArray, List.set_cons_zero, List.set_cons_succ]
              refine wpAnyE_take (i := 20) (v := ?_) hS (by kernel_rfl) rfl (by kernel_rfl) (by kernel_rfl) (fun _ _ _ h => h) (Or.inl ⟨by rfl, ?_⟩) ?_
              rotate_left
              · (intro w hSw; go_simp; try with_reducible rfl)
              try simp only [Act.put, List.setIfInBounds_toArray, List.set_cons_zero, List.set_cons_succ]
              refine wpAnyE_one 21 (by kernel_rfl) rfl (fun K hK => ?_)
              go_simp
              refine hK.out _ _ (fun h => absurd rfl h) (fun _ => ?_)
              clear hK K
              refine wpAnyE_done (by kernel_rfl) ?_ _
              go_wp2
              go_roundw
              case rel =>
                refine ⟨k + 1, by omega, by go_num, (hrow'.set (i + k) _).congr fun t _ => ?_, hbl'.setCell (by simp) _⟩
                unfold cvF
                rw [HCV.out]
                split
                · subst t; rw [HS.out]
                · rw [Nat.add_zero]
              case measure => simp [intOf]; omega
            · obtain rfl : k = b.length := by omega
              have hrow2 : wr.rowIs w.heap.size 9 (a.length + b.length) (cvF (cvO a b (i + 1))) := hrow
              clear hrow
              go_wp2
              go_roundw
              case rel => exact ⟨i + 1, by omega, by go_num, hrow2, hbel⟩
              case measure => simp [intOf]; omega
        · obtain rfl : i = a.length := by omega
          have hszw := hbel.size
          have hrd : Rd wr wr.heap.size (some ⟨w.heap.size, 0, none⟩) p.length (decF p) := (Rd.of_row hrow (by have := HL.out; omega) hrow.lt).congr fun j _ => by unfold decF cvF; rw [HGET.out]
          have hrs : RdS wr wr.heap.size (some ⟨w.heap.size, 0, none⟩) p := ⟨hrd, fun _ b o e => by
            have : w.heap.size = b := by injection e with e; injection e
            subst this; exact ⟨_, _, rowArr hrow⟩⟩
          have hpl : a.length + b.length = p.length := HL.out.symm
          have htr := fun W h => rtrim_any W (some ⟨w.heap.size, 0, none⟩) (a.length + b.length) p (by omega) (by omega) h
          rw [← hpl] at htr
          have HTR := Lib.hid (htr wr (by rw [hpl]; exact hrd))
          have HRD := Lib.hid hrs
          clear hrow hilt hrd hrs htr hpl
          go_wp2_with (go_at_call 91; (with_reducible refine HTR.out.mono ?_); rintro e w' ⟨rfl, rfl⟩)
          go_ret
          exact ⟨_, _, rfl, by rw [trimP_len]; have := tn_le p; have := HL.out; omega, RdS.trimP HRD.out, hbel⟩
end Go.Proofs.YtcgejdlfiemjaaaDoor
