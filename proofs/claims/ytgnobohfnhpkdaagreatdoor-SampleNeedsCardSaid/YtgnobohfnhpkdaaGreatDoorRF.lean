/- The reference's sums with the weights 1 and 0 are the ring of counts. The walk of the reference's Count. -/
import Derived.Test.YtgnobohfnhpkdaaGreatDoorRE
import Derived.Test.YtgnobohfnhpkdaaGreatDoorC1
import Derived.Test.YtgnobohfnhpkdaaGreatDoorQ2
set_option linter.unusedSimpArgs false
set_option linter.unusedVariables false
section
open Go Go.RowKit Cs
namespace Cs
/-- A polynomial that is a number. -/
def numP (p : List Nat) (v : Nat) : Prop := p.length ≤ 1 ∧ ev p = v
theorem numP_get {p : List Nat} {v : Nat} (h : numP p v) : p.getD 0 0 = v := by
  obtain ⟨h1, h2⟩ := h
  match p, h1 with
  | [], _ => rw [← h2]; rfl
  | [a], _ => rw [← h2]; simp [ev]
theorem numP_add {a b : List Nat} {x y : Nat} (h1 : numP a x) (h2 : numP b y) : numP (trimP (addP a b)) (x + y) := by
  refine ⟨?_, by rw [ev_trimP, ev_addP, h1.2, h2.2]⟩
  rw [trimP_len]
  refine Nat.le_trans (tn_le _) ?_
  rw [addP_len]
  have := h1.1; have := h2.1; omega
theorem numP_mul {a b : List Nat} {x y : Nat} (h1 : numP a x) (h2 : numP b y) : numP (trimP (mulF a b)) (x * y) := by
  refine ⟨?_, by rw [ev_trimP, ev_mulF, h1.2, h2.2]⟩
  rw [trimP_len]
  exact mulF_tn a b [1] [1] h1.1 h2.1
theorem litOk_pos {v n : Int} (h1 : 1 ≤ v) (h2 : v ≤ n) (hn : n ≤ 128) : litOk v n = true ∧ litOk (-v) n = true := by
  unfold litOk litVar
  constructor <;> refine decide_eq_true ?_ <;> (repeat' split) <;> omega
theorem litOk_rng {l n : Int} (h : litOk l n = true) : (1 ≤ l ∧ l ≤ n) ∨ (l ≤ -1 ∧ -l ≤ n) := by
  unfold litOk litVar at h
  have h := of_decide_eq_true h
  revert h
  (repeat' split) <;> intro h <;> omega
theorem RF_RN {lw hw : List (List Nat)} {nt n : Int} (hn : n ≤ 128) (h : ∀ l, litOk l n = true → numP ((RF lw hw).lit l) (wt nt l)) : Rv (RF lw hw) (RN nt) n numP where
  zero := ⟨Nat.zero_le _, rfl⟩
  one := ⟨Nat.le_refl _, rfl⟩
  add := fun _ _ _ _ h1 h2 => numP_add h1 h2
  mul := fun _ _ _ _ h1 h2 => numP_mul h1 h2
  lit := h
  both := fun v h1 h2 => by
    obtain ⟨h3, h4⟩ := litOk_pos h1 h2 hn
    have h5 := h _ h3
    have h6 := h _ h4
    have e5 : (RF lw hw).lit v = hw.getD v.toNat [] := by show (if 0 < v then _ else _) = _; rw [if_pos (by omega)]
    have e6 : (RF lw hw).lit (-v) = lw.getD v.toNat [] := by show (if 0 < -v then _ else _) = _; rw [if_neg (by omega), Int.neg_neg]
    rw [e5] at h5
    rw [e6] at h6
    show numP (trimP (addP (lw.getD v.toNat []) (hw.getD v.toNat []))) (wt nt v + wt nt (-v))
    rw [Nat.add_comm]
    exact numP_add h6 h5
/-- The weights 1, with a hole at h (0: none). -/
def onesW (n h : Nat) : List (List Nat) := if h = 0 then List.replicate (n + 1) [1] else (List.replicate (n + 1) [1]).set h []
theorem onesW_len (n h : Nat) : (onesW n h).length = n + 1 := by unfold onesW; split <;> simp
theorem onesW_get (n h i : Nat) : (onesW n h).getD i [] = if i ≤ n ∧ (i ≠ h ∨ h = 0) then [1] else [] := by
  unfold onesW
  rw [List.getD_eq_getElem?_getD]
  by_cases h0 : h = 0
  · rw [if_pos h0, List.getElem?_replicate]
    by_cases h1 : i < n + 1
    · rw [if_pos h1, if_pos ⟨by omega, .inr h0⟩]; rfl
    · rw [if_neg h1, if_neg (by omega)]; rfl
  · rw [if_neg h0, List.getElem?_set]
    simp only [List.length_replicate]
    by_cases h1 : h = i
    · subst h1
      have hc : ¬ (h ≤ n ∧ (h ≠ h ∨ h = 0)) := fun h => by omega
      rw [if_pos rfl, if_neg hc]
      split
      · rfl
      · rfl
    · rw [if_neg h1, List.getElem?_replicate]
      by_cases h2 : i < n + 1
      · rw [if_pos h2, if_pos ⟨by omega, .inl (by omega)⟩]; rfl
      · rw [if_neg h2, if_neg (by omega)]; rfl
theorem onesW_ok (n a b : Nat) : WOK (onesW n a) (onesW n b) := fun i => by
  have h : ∀ h, ((onesW n h).getD i []).length ≤ 1 ∧ ev ((onesW n h).getD i []) ≤ 1 := fun h => by
    rw [onesW_get]; split
    · exact ⟨Nat.le_refl _, Nat.le_refl _⟩
    · exact ⟨Nat.zero_le _, Nat.zero_le _⟩
  exact ⟨(h a).1, (h a).2, Nat.le_trans (h b).1 (by decide), (h b).2⟩
theorem onesW_lit (n a b : Nat) (hab : a = 0 ∨ b = 0) (l : Int) (hl : litOk l n = true) : numP ((RF (onesW n a) (onesW n b)).lit l) (wt (if a ≠ 0 then -(a : Int) else (b : Int)) l) := by
  have hr := litOk_rng hl
  show numP (if 0 < l then (onesW n b).getD l.toNat [] else (onesW n a).getD (-l).toNat []) _
  obtain ⟨nt, hnt⟩ : ∃ nt, (if a ≠ 0 then -(a : Int) else (b : Int)) = nt := ⟨_, rfl⟩
  rw [hnt]
  have hn2 : (a ≠ 0 ∧ nt = -(a : Int)) ∨ (a = 0 ∧ nt = (b : Int)) := by
    by_cases h : a ≠ 0
    · rw [if_pos h] at hnt; exact .inl ⟨h, hnt.symm⟩
    · rw [if_neg h] at hnt; exact .inr ⟨by omega, hnt.symm⟩
  clear hnt hl
  unfold wt
  by_cases h0 : 0 < l
  · rw [if_pos h0, onesW_get]
    by_cases h2 : l = nt
    · rw [if_pos h2, if_neg (fun h => by omega)]; exact ⟨Nat.zero_le _, rfl⟩
    · rw [if_neg h2, if_pos ⟨by omega, by omega⟩]; exact ⟨Nat.le_refl _, rfl⟩
  · rw [if_neg h0, onesW_get]
    by_cases h2 : l = nt
    · rw [if_pos h2, if_neg (fun h => by omega)]; exact ⟨Nat.zero_le _, rfl⟩
    · rw [if_neg h2, if_pos ⟨by omega, by omega⟩]; exact ⟨Nat.le_refl _, rfl⟩
theorem rones_sum {N : Nt} (hv : vld N = true) (n a b : Nat) (hn : N.n = (n : Int)) (hab : a = 0 ∨ b = 0) : numP ((RF (onesW n a) (onesW n b)).sum N) ((RN (if a ≠ 0 then -(a : Int) else (b : Int))).sum N) :=
  Rv.sum (RF_RN (vld_bounds hv).2.1 fun l hl => onesW_lit n a b hab l (hn ▸ hl)) hv
end Cs
end
section
open Go Go.RowKit Cs
namespace Go.Proofs.YtgnobohfnhpkdaaGreatDoor
/-- A row of its own that holds polynomials is a slice of polynomials. -/
theorem SR.rps {w5 w : World} {v : Value} {n : Nat} {U : List Value} {L : List (List Nat)} (h : SR w5 v n U L w) (hn : 0 < n) : ∃ g cap, v = .slice (some ⟨g, 0, none⟩) n cap ∧ w5.heap.size ≤ g ∧ g < w.heap.size ∧ RPs w w.heap.size (some ⟨g, 0, none⟩) L := by
  obtain ⟨g, cap, rfl, h1, h2⟩ := ownsForm h.own hn
  have hU : U.length = n := by have := h.own.1; omega
  refine ⟨g, cap, rfl, h1, h2, fun hL => ⟨g, 0, rfl, h2, fun i hi => ?_⟩⟩
  have hown := h.own
  obtain ⟨A, c, e1, e2, e3⟩ := h.pls.2 i (by have := h.pls.1; omega)
  exact ⟨A, c, by rw [Nat.zero_add, hown.cellAt i (by have := h.pls.1; omega)]; exact e1, e2, e3⟩
/-- The weights 1. -/
def Ones (m : Nat) (w : World) (e : Ending) (w' : World) : Prop := ∃ g cap, e = .returned (.slice (some ⟨g, 0, none⟩) (m + 1) cap) ∧ w.heap.size ≤ g ∧ RPs w' w'.heap.size (some ⟨g, 0, none⟩) (onesW m 0) ∧ Below w.heap.size w w'
theorem rOnes_any (w : World) (m : Nat) (hm : m ≤ 128) : Calls Tryz.prog 59 #[.int .i64 m] w (Ones m w) := by
  refine (rones_any w m hm).mono ?_
  rintro e w' ⟨v, U, rfl, h⟩
  have h2 := h.bl
  obtain ⟨g, cap, rfl, h3, h4, h5⟩ := h.rps (by omega)
  exact ⟨g, cap, rfl, h3, h5, h2⟩
set_option maxRecDepth 100000 in
set_option maxHeartbeats 4000000 in
theorem rcount_any (w : World) (N : Nt) (A : Option Addr) (c : Nat) (hlen : N.l.length ≤ 140737488355328) (hN : NtAt w w.heap.size A N.l) :
    Calls Tryz.prog 32 #[ntV N A c] w fun e w' => e = .returned (.tuple #[.string (dec (cntN N)), .int .i64 (cchk N)]) ∧ Below w.heap.size w w' := by
  have hck := fun W h => rcheck_any W N A c hlen h
  have hcn : cntN N = if cchk N = 0 then (RN 0).sum N else 0 := rfl
  have hval : cchk N = 0 → vld N = true ∧ dcmp N = true ∧ shortB N = true := fun h => by
    unfold cchk at h
    cases h1 : vld N <;> cases h2 : dcmp N <;> cases h3 : shortB N <;> rw [h1, h2, h3] at h <;> simp at h ⊢
  obtain ⟨C, hC⟩ : ∃ C, cchk N = C := ⟨_, rfl⟩
  obtain ⟨V, hV⟩ : ∃ C, cntN N = C := ⟨_, rfl⟩
  simp only [hC] at hck hval hcn
  rw [hV] at hcn
  rw [hC, hV]
  clear hC hV
  have HCK := Lib.hid hck
  clear hck
  have hbox := ntNew w N A c 24 _ rfl
  have hbl : Below w.heap.size w (w.alloc (.cells #[.int .i64 N.n, .slice A N.l.length c] 24)) := (Below.refl _ _).alloc (Nat.le_refl _) _
  by_cases h0 : C = 0
  · subst h0
    obtain ⟨hv, hd, hs⟩ := hval rfl
    rw [if_pos rfl] at hcn
    obtain ⟨hn0, hn1, hl0, hl1⟩ := vld_bounds hv
    obtain ⟨m, hm⟩ : ∃ m : Nat, N.n = (m : Int) := ⟨N.n.toNat, by omega⟩
    have hsum := fun W Al Ah cl ch h1 h2 h3 => rsum_any W N A Al Ah c cl ch m (onesW m 0) (onesW m 0) hm h1 hv hd hs (onesW_ok m 0 0) (onesW_len m 0) (onesW_len m 0) h2 h3
    have hnum := numP_get (rones_sum hv m 0 0 hm (.inl rfl))
    have hnum2 : ((RF (onesW m 0) (onesW m 0)).sum N).getD 0 0 = V := by rw [hcn]; exact hnum
    have hlen1 : ((RF (onesW m 0) (onesW m 0)).sum N).length ≤ 1 := (rones_sum hv m 0 0 hm (.inl rfl)).1
    obtain ⟨p, hp⟩ : ∃ p, (RF (onesW m 0) (onesW m 0)).sum N = p := ⟨_, rfl⟩
    simp only [hp] at hsum
    rw [hp] at hnum2 hlen1
    have hon := fun W => rOnes_any W m (by omega)
    have hat : ∀ W A c, Rd W W.heap.size A p.length (decF p) → Calls Tryz.prog 57 #[.slice A p.length c, .int .i64 0] W fun e w' => e = .returned (.string (dec (p.getD 0 0))) ∧ W = w' := fun W A c h => rat_any W A c p 0 (by omega) h
    simp only [hnum2] at hat
    have HSUM := Lib.hid hsum
    have HON := Lib.hid hon
    have HAT := Lib.hid hat
    clear hsum hon hat hcn hnum hnum2 hp hv hd hs hval
    obtain ⟨n, l⟩ := N
    simp only at hm hN hlen
    subst hm
    go_enter Tryz.func32, Tryz.ntmps32
    go_wp2_with fail
    refine (HCK.out _ ((hN.below hbl).more hbl.size)).mono ?_
    rintro e w5 ⟨rfl, hb5⟩
    have hbox5 := rowBelow hbox hb5
    have hb := Cs.Below.trans' hbl hb5 hbl.size
    obtain ⟨p1, p2⟩ := ntCells hbox5
    have hbD : Below w.heap.size w w5.drew := belowDrewN hb 1
    have HBD := Lib.hid hbD
    have hboxD := Lib.hid hbox5.drew
    have hsD := hbD.size
    have hgD : w.heap.size < w5.drew.heap.size := hbox5.lt
    have c1 : w5.drew.cell? ⟨w.heap.size, 0, none⟩ = some (.int .i64 (m : Int)) := p1
    have c2 : w5.drew.cell? ⟨w.heap.size, 1, none⟩ = some (.slice A l.length c) := p2
    clear hb hbD
    go_wp2_with fail
    go_region_held3 (fun w' => w'.cell? ⟨w.heap.size, 0, none⟩ = some (.int .i64 (m : Int)) ∧ w'.cell? ⟨w.heap.size, 1, none⟩ = some (.slice A l.length c)) (first | exact ⟨c1, c2⟩ | go_keep)
      (first
        | (go_simp
           go_at_call 59
           have hmark := HR9
           (with_reducible refine (HON.out _).mono ?_)
           rintro e' w10 ⟨g10, d10, rfl, hg10, hr10, hb10⟩
           have c1 := below_cell hb10 (Nat.lt_of_lt_of_le hgD hz9) c1
           have c2 := below_cell hb10 (Nat.lt_of_lt_of_le hgD hz9) c2
           have hz10 := hb10.size
           have HR10 := Lib.hid hr10
           have HR9b := Lib.hid ((HR9.out.below hb10).more hb10.size)
           have HB10 := Lib.hid (Cs.Below.trans' HB9.out hb10 HB9.out.size)
           clear hr10 hmark)
        | (go_simp
           go_at_call 59
           (with_reducible refine (HON.out _).mono ?_)
           rintro e' w9 ⟨g9, d9, rfl, hg9, hr9, hb9⟩
           have c1 := below_cell hb9 hgD c1
           have c2 := below_cell hb9 hgD c2
           have hz9 := hb9.size
           have HR9 := Lib.hid hr9
           have HB9 := Lib.hid (Cs.Below.trans' HBD.out hb9 HBD.out.size)
           clear hr9)
        | (go_simp
           go_at_call 58
           (with_reducible first
             | refine (HSUM.out _ _ _ _ _ ((hN.below HB10.out).more HB10.out.size) HR9b.out HR10.out).mono ?_
             | refine (HSUM.out _ _ _ _ _ ((hN.below HB10.out).more HB10.out.size) HR10.out HR9b.out).mono ?_)
           rintro e' w11 ⟨B11, d11, rfl, hd11, hr11, hb11⟩
           have c1 := below_cell hb11 (Nat.lt_of_lt_of_le hgD (Nat.le_trans hz9 hz10)) c1
           have c2 := below_cell hb11 (Nat.lt_of_lt_of_le hgD (Nat.le_trans hz9 hz10)) c2
           have HB11 := Lib.hid (Cs.Below.trans' HB10.out hb11 HB10.out.size)
           have HR11 := Lib.hid hr11
           clear hr11)
        | (go_simp
           go_at_call 57
           (with_reducible refine (HAT.out _ B11 d11 HR11.out.rd).mono ?_)
           rintro e' w12 ⟨rfl, rfl⟩))
    all_goals
      try go_wp2
      go_ret2
      exact ⟨rfl, HB11.out⟩
  · rw [if_neg h0] at hcn
    subst hcn
    have hd0 := dec_zero
    obtain ⟨n, l⟩ := N
    simp only at hN hlen
    rw [hd0]
    clear hd0 hval
    go_enter Tryz.func32, Tryz.ntmps32
    go_wp2_with fail
    refine (HCK.out _ ((hN.below hbl).more hbl.size)).mono ?_
    rintro e w5 ⟨rfl, hb5⟩
    have hb := Cs.Below.trans' hbl hb5 hbl.size
    go_wp2
    go_ret2
    exact ⟨rfl, hb⟩
end Go.Proofs.YtgnobohfnhpkdaaGreatDoor
end
