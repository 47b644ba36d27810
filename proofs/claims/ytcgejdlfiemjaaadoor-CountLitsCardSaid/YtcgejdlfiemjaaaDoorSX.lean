/- The walk of the reference's Count. -/
import Derived.Test.YtcgejdlfiemjaaaDoorSW
import Derived.Test.YtcgejdlfiemjaaaDoorRY
set_option linter.unusedSimpArgs false
set_option linter.unusedVariables false
open Go Go.RowKit Cs
namespace Go.Proofs.YtcgejdlfiemjaaaDoor
/-- A row of its own that holds polynomials is a slice of polynomials. -/
theorem SR.rps {w5 w : World} {v : Value} {n : Nat} {U : List Value} {L : List (List Nat)} (h : SR w5 v n U L w) (hn : 0 < n) : ∃ g cap, v = .slice (some ⟨g, 0, none⟩) n cap ∧ w5.heap.size ≤ g ∧ g < w.heap.size ∧ RPs w w.heap.size (some ⟨g, 0, none⟩) L := by
  obtain ⟨g, cap, rfl, h1, h2⟩ := ownsForm h.own hn
  have hU : U.length = n := by have := h.own.1; omega
  refine ⟨g, cap, rfl, h1, h2, fun hL => ⟨g, 0, rfl, h2, fun i hi => ?_⟩⟩
  have hown := h.own
  obtain ⟨A, c, e1, e2, e3⟩ := h.pls.2 i (by have := h.pls.1; omega)
  exact ⟨A, c, by rw [Nat.zero_add, hown.cellAt i (by have := h.pls.1; omega)]; exact e1, e2, e3⟩
/-- The weights 1. -/
def Ones (m : Nat) (w : World) (e : Ending) (w' : World) : Prop := ∃ g cap, e = .returned (.slice (some ⟨g, 0, none⟩) (m + 1) cap) ∧ w.heap.size ≤ g ∧ RPs w' w'.heap.size (some ⟨g, 0, none⟩) (onesW m 0) ∧ Below w.heap.size w w'
theorem ones_any (w : World) (m : Nat) (hm : m ≤ 128) : Calls Tryd.prog 36 #[.int .i64 m] w (Ones m w) := by
  refine (rones_any w m hm).mono ?_
  rintro e w' ⟨v, U, rfl, h⟩
  have h2 := h.bl
  obtain ⟨g, cap, rfl, h3, h4, h5⟩ := h.rps (by omega)
  exact ⟨g, cap, rfl, h3, h5, h2⟩
set_option maxRecDepth 100000 in
set_option maxHeartbeats 4000000 in
theorem rcount_any (w : World) (N : Nt) (A : Option Addr) (c : Nat) (hlen : N.l.length ≤ 140737488355328) (hN : NtAt w w.heap.size A N.l) :
    Calls Tryd.prog 13 #[ntV N A c] w fun e w' => e = .returned (.tuple #[.string (dec (cntN N)), .int .i64 (cchk N)]) ∧ Below w.heap.size w w' := by
  have hck := fun W h => rcheck_any W N A c hlen h
  have hcn : cntN N = if cchk N = 0 then (RN 0).sum N else 0 := rfl
  have hval : cchk N = 0 → vld N = true ∧ dcmp N = true ∧ shortB N = true := fun h => by
    unfold cchk at h
    cases h1 : vld N <;> cases h2 : dcmp N <;> cases h3 : shortB N <;> rw [h1, h2, h3] at h <;> simp at h ⊢
  obtain ⟨C, hC⟩ : ∃ C, cchk N = C := ⟨_, rfl⟩
  obtain ⟨V, hV⟩ : ∃ C, cntN N = C := ⟨_, rfl⟩
  simp only [hC] at hck hval hcn
  rw [hV] at hcn
  rw [hC, hV]
  clear hC hV
  have HCK := Lib.hid hck
  clear hck
  have hbox := ntNew w N A c 24 _ rfl
  have hbl : Below w.heap.size w (w.alloc (.cells #[.int .i64 N.n, .slice A N.l.length c] 24)) := (Below.refl _ _).alloc (Nat.le_refl _) _
  by_cases h0 : C = 0
  · subst h0
    obtain ⟨hv, hd, hs⟩ := hval rfl
    rw [if_pos rfl] at hcn
    obtain ⟨hn0, hn1, hl0, hl1⟩ := vld_bounds hv
    obtain ⟨m, hm⟩ : ∃ m : Nat, N.n = (m : Int) := ⟨N.n.toNat, by omega⟩
    have hsum := fun W Al Ah cl ch h1 h2 h3 => rsum_any W N A Al Ah c cl ch m (onesW m 0) (onesW m 0) hm h1 hv hd hs (onesW_ok m 0 0) (onesW_len m 0) (onesW_len m 0) h2 h3
    have hnum := numP_get (ones_sum hv m 0 0 hm (.inl rfl))
    have hnum2 : ((RF (onesW m 0) (onesW m 0)).sum N).getD 0 0 = V := by rw [hcn]; exact hnum
    have hlen1 : ((RF (onesW m 0) (onesW m 0)).sum N).length ≤ 1 := (ones_sum hv m 0 0 hm (.inl rfl)).1
    obtain ⟨p, hp⟩ : ∃ p, (RF (onesW m 0) (onesW m 0)).sum N = p := ⟨_, rfl⟩
    simp only [hp] at hsum
    rw [hp] at hnum2 hlen1
    have hon := fun W => ones_any W m (by omega)
    have hat : ∀ W A c, Rd W W.heap.size A p.length (decF p) → Calls Tryd.prog 34 #[.slice A p.length c, .int .i64 0] W fun e w' => e = .returned (.string (dec (p.getD 0 0))) ∧ W = w' := fun W A c h => rat_any W A c p 0 (by omega) h
    simp only [hnum2] at hat
    have HSUM := Lib.hid hsum
    have HON := Lib.hid hon
    have HAT := Lib.hid hat
    clear hsum hon hat hcn hnum hnum2 hp hv hd hs hval
    obtain ⟨n, l⟩ := N
    simp only at hm hN hlen
    subst hm
    go_enter Tryd.func13, Tryd.ntmps13
    go_wp2_with fail
    refine (HCK.out _ ((hN.below hbl).more hbl.size)).mono ?_
    rintro e w5 ⟨rfl, hb5⟩
    have hbox5 := rowBelow hbox hb5
    have hb := Cs.Below.trans' hbl hb5 hbl.size
    obtain ⟨p1, p2⟩ := ntCells hbox5
    have hbD : Below w.heap.size w w5.drew := belowDrewN hb 1
    have HBD := Lib.hid hbD
    have hboxD := Lib.hid hbox5.drew
    have hsD := hbD.size
    have hgD : w.heap.size < w5.drew.heap.size := hbox5.lt
    have c1 : w5.drew.cell? ⟨w.heap.size, 0, none⟩ = some (.int .i64 (m : Int)) := p1
    have c2 : w5.drew.cell? ⟨w.heap.size, 1, none⟩ = some (.slice A l.length c) := p2
    clear hb hbD
    go_wp2_with fail
    go_region_held3 (fun w' => w'.cell? ⟨w.heap.size, 0, none⟩ = some (.int .i64 (m : Int)) ∧ w'.cell? ⟨w.heap.size, 1, none⟩ = some (.slice A l.length c)) (first | exact ⟨c1, c2⟩ | go_keep)
      (first
        | (go_simp
           go_at_call 36
           have hmark := HR9
           (with_reducible refine (HON.out _).mono ?_)
           rintro e' w10 ⟨g10, d10, rfl, hg10, hr10, hb10⟩
           have c1 := below_cell hb10 (Nat.lt_of_lt_of_le hgD hz9) c1
           have c2 := below_cell hb10 (Nat.lt_of_lt_of_le hgD hz9) c2
           have hz10 := hb10.size
           have HR10 := Lib.hid hr10
           have HR9b := Lib.hid ((HR9.out.below hb10).more hb10.size)
           have HB10 := Lib.hid (Cs.Below.trans' HB9.out hb10 HB9.out.size)
           clear hr10 hmark)
        | (go_simp
           go_at_call 36
           (with_reducible refine (HON.out _).mono ?_)
           rintro e' w9 ⟨g9, d9, rfl, hg9, hr9, hb9⟩
           have c1 := below_cell hb9 hgD c1
           have c2 := below_cell hb9 hgD c2
           have hz9 := hb9.size
           have HR9 := Lib.hid hr9
           have HB9 := Lib.hid (Cs.Below.trans' HBD.out hb9 HBD.out.size)
           clear hr9)
        | (go_simp
           go_at_call 35
           (with_reducible first
             | refine (HSUM.out _ _ _ _ _ ((hN.below HB10.out).more HB10.out.size) HR9b.out HR10.out).mono ?_
             | refine (HSUM.out _ _ _ _ _ ((hN.below HB10.out).more HB10.out.size) HR10.out HR9b.out).mono ?_)
           rintro e' w11 ⟨B11, d11, rfl, hd11, hr11, hb11⟩
           have c1 := below_cell hb11 (Nat.lt_of_lt_of_le hgD (Nat.le_trans hz9 hz10)) c1
           have c2 := below_cell hb11 (Nat.lt_of_lt_of_le hgD (Nat.le_trans hz9 hz10)) c2
           have HB11 := Lib.hid (Cs.Below.trans' HB10.out hb11 HB10.out.size)
           have HR11 := Lib.hid hr11
           clear hr11)
        | (go_simp
           go_at_call 34
           (with_reducible refine (HAT.out _ B11 d11 HR11.out.rd).mono ?_)
           rintro e' w12 ⟨rfl, rfl⟩))
    all_goals
      try go_wp2
      go_ret2
      exact ⟨rfl, HB11.out⟩
  · rw [if_neg h0] at hcn
    subst hcn
    have hd0 := dec_zero
    obtain ⟨n, l⟩ := N
    simp only at hN hlen
    rw [hd0]
    clear hd0 hval
    go_enter Tryd.func13, Tryd.ntmps13
    go_wp2_with fail
    refine (HCK.out _ ((hN.below hbl).more hbl.size)).mono ?_
    rintro e w5 ⟨rfl, hb5⟩
    have hb := Cs.Below.trans' hbl hb5 hbl.size
    go_wp2
    go_ret2
    exact ⟨rfl, hb⟩
end Go.Proofs.YtcgejdlfiemjaaaDoor
