/- The walk of the reference's ByCard. -/
import Derived.Test.YtcgejdlfiemjaaaDoorSY
set_option linter.unusedSimpArgs false
set_option linter.unusedVariables false
open Go Go.RowKit Cs
namespace Cs
theorem cvI_sm (a b : List Nat) (i : Nat) (f : Nat → Nat) (t : Nat) : ∀ k, cvI a b i f k t = f t + sm (fun j => if t = i + j then a.getD i 0 * b.getD j 0 else 0) k
  | 0 => rfl
  | k + 1 => by
    show cvI a b i f k t + _ = f t + (sm _ k + _)
    rw [cvI_sm a b i f t k, Nat.add_assoc]
theorem cvO_sm (a b : List Nat) (t : Nat) : ∀ i, cvO a b i t = sm (fun i' => sm (fun j => if t = i' + j then a.getD i' 0 * b.getD j 0 else 0) b.length) i
  | 0 => rfl
  | i + 1 => by
    show cvI a b i (cvO a b i) b.length t = sm _ i + _
    rw [cvI_sm, cvO_sm a b t i]
theorem cvO_far (a b : List Nat) (t m : Nat) (ha : a.length ≤ m) (hb : b.length ≤ m) : cvO a b a.length t = sm (fun i' => sm (fun j => if t = i' + j then a.getD i' 0 * b.getD j 0 else 0) m) m := by
  rw [cvO_sm, sm_more (fun i' => sm (fun j => if t = i' + j then a.getD i' 0 * b.getD j 0 else 0) m) a.length m ha fun i hi _ => sm_zero _ m fun j _ => by rw [getD_ge a i hi, Nat.zero_mul]; split <;> rfl]
  refine sm_congr _ _ _ fun i _ => ?_
  exact (sm_more _ b.length m hb fun j hj _ => by rw [getD_ge b j hj, Nat.mul_zero]; split <;> rfl).symm
theorem cv_same (a b c d : List Nat) (h1 : ∀ i, a.getD i 0 = c.getD i 0) (h2 : ∀ i, b.getD i 0 = d.getD i 0) (t : Nat) : cvO a b a.length t = cvO c d c.length t := by
  rw [cvO_far a b t (a.length + b.length + c.length + d.length) (by omega) (by omega), cvO_far c d t (a.length + b.length + c.length + d.length) (by omega) (by omega)]
  refine sm_congr _ _ _ fun i _ => sm_congr _ _ _ fun j _ => ?_
  rw [h1, h2]
/-- The weights of ByCard: those of the first k variables are set. -/
def cardW (m k : Nat) : List (List Nat) := (List.range (m + 1)).map fun i => if 1 ≤ i ∧ i ≤ k then [0, 1] else [1]
theorem cardW_len (m k : Nat) : (cardW m k).length = m + 1 := by unfold cardW; simp
theorem cardW_zero (m : Nat) : cardW m 0 = onesW m 0 := by
  unfold cardW onesW
  rw [if_pos rfl]
  refine List.ext_getElem (by simp) fun i h1 h2 => ?_
  rw [List.getElem_map, List.getElem_replicate, if_neg (by omega)]
theorem cardW_next (m k : Nat) (h : k < m) : (cardW m k).set (k + 1) [0, 1] = cardW m (k + 1) := by
  unfold cardW
  refine List.ext_getElem (by simp) fun i h1 h2 => ?_
  rw [List.getElem_set]
  simp only [List.getElem_map, List.getElem_range]
  by_cases h3 : k + 1 = i
  · rw [if_pos h3, if_pos (by omega)]
  · rw [if_neg h3]
    by_cases h4 : 1 ≤ i ∧ i ≤ k
    · rw [if_pos h4, if_pos (by omega)]
    · rw [if_neg h4, if_neg (by omega)]
theorem cardW_get (m k i : Nat) : (cardW m k).getD i [] = if i ≤ m then (if 1 ≤ i ∧ i ≤ k then [0, 1] else [1]) else [] := by
  unfold cardW
  rw [List.getD_eq_getElem?_getD]
  by_cases h : i ≤ m
  · rw [if_pos h, List.getElem?_map, List.getElem?_range (by omega)]; rfl
  · rw [if_neg h, List.getElem?_eq_none (by simp; omega)]; rfl
theorem cardW_ok (m : Nat) : WOK (onesW m 0) (cardW m m) := fun i => by
  refine ⟨((onesW_ok m 0 0) i).1, ((onesW_ok m 0 0) i).2.1, ?_⟩
  rw [cardW_get]
  repeat' split
  all_goals simp [ev]
theorem same_addP {a b c d : List Nat} (h1 : ∀ i, a.getD i 0 = c.getD i 0) (h2 : ∀ i, b.getD i 0 = d.getD i 0) (i : Nat) : (trimP (addP a b)).getD i 0 = (addP c d).getD i 0 := by
  rw [trimP_get, addP_get, addP_get, h1, h2]
theorem RF_card {m : Nat} {n : Int} (hn : n = (m : Int)) (h128 : n ≤ 128) : Rv (RF (onesW m 0) (cardW m m)) RC n (fun p q => ∀ i, p.getD i 0 = q.getD i 0) where
  zero := fun _ => rfl
  one := fun _ => rfl
  add := fun a b c d h1 h2 => same_addP h1 h2
  mul := fun a b c d h1 h2 i => by
    show (trimP (mulF a c)).getD i 0 = (mulP b d).getD i 0
    rw [trimP_get, mulF_get, mulP_get]
    exact cv_same _ _ _ _ h1 h2 i
  lit := fun l hl i => by
    have := litOk_rng hl
    show (if 0 < l then (cardW m m).getD l.toNat [] else (onesW m 0).getD (-l).toNat []).getD i 0 = (if l < 0 then [1] else [0, 1] : List Nat).getD i 0
    by_cases h : 0 < l
    · rw [if_pos h, if_neg (by omega), cardW_get, if_pos (by omega), if_pos (by omega)]
    · rw [if_neg h, if_pos (by omega), onesW_get, if_pos ⟨by omega, .inr rfl⟩]
  both := fun v h1 h2 i => by
    show (trimP (addP ((onesW m 0).getD v.toNat []) ((cardW m m).getD v.toNat []))).getD i 0 = ([1, 1] : List Nat).getD i 0
    rw [cardW_get, if_pos (by omega), if_pos (by omega), onesW_get, if_pos ⟨by omega, .inr rfl⟩, trimP_get, addP_get]
    match i with
    | 0 => rfl
    | 1 => rfl
    | i + 2 => simp [List.getD]
theorem card_ref {N : Nt} (hv : vld N = true) (m : Nat) (hm : N.n = (m : Int)) (i : Nat) : ((RF (onesW m 0) (cardW m m)).sum N).getD i 0 = (RC.sum N).getD i 0 :=
  Rv.sum (RF_card hm (vld_bounds hv).2.1) hv i
end Cs
namespace Go.Proofs.YtcgejdlfiemjaaaDoor
section
variable {B n : Nat} {v : Value} {L : List (List Nat)} {w w' : World}
/-- One entry is set. -/
theorem WtR.put {g cap j c : Nat} {A : Option Addr} {p : List Nat} (h : WtR B (.slice (some ⟨g, 0, none⟩) n cap) n L w) (hj : j < n) (hp : RdS w w.heap.size A p) (hc : p.length ≤ c) :
    WtR B (.slice (some ⟨g, 0, none⟩) n cap) n (L.set j p) (w.setCell ⟨g, j, none⟩ (.slice A p.length c)) := by
  obtain ⟨cs, T, fr, hty0⟩ := h.type
  obtain ⟨U, h1, h2, h3⟩ := h
  obtain ⟨s1, s2⟩ := h1.stored j (.slice A p.length c)
  have hU : U.length = n := by have := h1.1; omega
  have hty : ∀ b, (some g : Option Nat) = some b → ∃ cs T fr, w.heap[b]? = some (.cells cs T fr) ∧ T ≠ 9 := fun b hb => by
    injection hb with hb
    subst hb
    exact ⟨_, _, _, hty0⟩
  refine ⟨U.set j (.slice A p.length c), s1, ⟨by simp [hU, h3], fun i hi => ?_⟩, by simp [h3]⟩
  rw [List.length_set] at hi
  by_cases hij : i = j
  · subst hij
    have e : (L.set i p).getD i [] = p := by rw [List.getD_eq_getElem?_getD, List.getElem?_set_self (by omega)]; rfl
    rw [e]
    exact ⟨A, c, by rw [List.getElem?_set_self hi], hc, hp.grown s2 hty⟩
  · have e : (L.set j p).getD i [] = L.getD i [] := by rw [List.getD_eq_getElem?_getD, List.getElem?_set_ne (fun e => hij e.symm), ← List.getD_eq_getElem?_getD]
    rw [e]
    obtain ⟨A, c, e1, e2, e3⟩ := h2.2 i hi
    exact ⟨A, c, by rw [List.getElem?_set_ne (fun e => hij e.symm)]; exact e1, e2, e3.grown s2 hty⟩
theorem WtR.cell {g cap j : Nat} (h : WtR B (.slice (some ⟨g, 0, none⟩) n cap) n L w) (hj : j < n) : (∃ u, w.cell? ⟨g, j, none⟩ = some u) ∧ w.frozen? ⟨g, j, none⟩ = false := (h.hole hj).2
end
theorem twoStr (W : World) (g : Nat) (hg : W.heap.size = g) : RdS (W.alloc (.cells #[.string ⟨#[48]⟩, .string ⟨#[49]⟩] 9)) (g + 1) (some ⟨g, 0, none⟩) [0, 1] := by
  subst hg
  have hr : ∀ i v, (#[.string ⟨#[48]⟩, .string ⟨#[49]⟩] : Array Value)[i]? = some v → (W.alloc (.cells #[.string ⟨#[48]⟩, .string ⟨#[49]⟩] 9)).cell? ⟨W.heap.size, i, none⟩ = some v := fun i v h => by
    rw [cell_of_row _ _ i _ _ _ (heap_alloc_new W _)]; exact h
  exact ⟨fun _ => ⟨_, 0, rfl, by omega, fun i hi => by
    rw [Nat.zero_add]
    match i, hi with
    | 0, _ => exact (hr 0 _ rfl).trans (congrArg (fun s => some (Value.string s)) dec_zero.symm)
    | 1, _ => exact (hr 1 _ rfl).trans (congrArg (fun s => some (Value.string s)) dec_one.symm)⟩, fun _ b o e => by
      injection e with e; injection e with e1 e2
      subst e1
      exact ⟨_, _, Array.getElem?_push_size⟩⟩
/-- The coefficients of a polynomial. -/
def cfs (p : List Nat) (k : Nat) : List Nat := (List.range k).map fun i => p.getD i 0
theorem cfs_succ (p : List Nat) (k : Nat) : dl (cfs p (k + 1)) = dl (cfs p k) ++ [.string (dec (p.getD k 0))] := by
  unfold cfs; rw [List.range_succ, List.map_append, ← dl_snoc]; rfl
theorem cfs_len (p : List Nat) (k : Nat) : (cfs p k).length = k := by unfold cfs; simp
/-- A slice of texts, and OK. -/
def CardsR (w : World) (m : Nat) (L : List Nat) (e : Ending) (w' : World) : Prop := ∃ Al cl, e = .returned (.tuple #[.slice Al (m + 1) cl, .int .i64 0]) ∧ Rd w' w'.heap.size Al (m + 1) (decF L) ∧ Below w.heap.size w w'
/-- The weights that ByCard makes, and the net's box. -/
structure CW (w : World) (N : Nt) (A : Option Addr) (c g cap m : Nat) (L : List (List Nat)) (wr : World) : Prop where
  wt : WtR (w.heap.size + 1) (.slice (some ⟨g, 0, none⟩) (m + 1) cap) (m + 1) L wr
  net : wr.rowIs w.heap.size 24 2 (ntF N A c)
  bl : Below w.heap.size w wr
section
variable {w : World} {N : Nt} {A : Option Addr} {c g cap m : Nat} {L : List (List Nat)} {wr w' : World}
theorem CW.below (h : CW w N A c g cap m L wr) (hb : Below wr.heap.size wr w') : CW w N A c g cap m L w' := ⟨h.wt.below hb, rowBelow h.net hb, Cs.Below.trans' h.bl hb h.bl.size⟩
theorem CW.put (h : CW w N A c g cap m L wr) {j : Nat} (hj : j < m + 1) : CW w N A c g cap m (L.set j [0, 1]) ((wr.alloc (.cells #[.string ⟨#[48]⟩, .string ⟨#[49]⟩] 9)).setCell ⟨g, j, none⟩ (.slice (some ⟨wr.heap.size, 0, none⟩) 2 2)) := by
  have h2 := h.below ((Below.refl wr.heap.size wr).alloc (Nat.le_refl _) (.cells #[.string ⟨#[48]⟩, .string ⟨#[49]⟩] 9))
  have hg := h2.wt.rps.2.1
  refine ⟨h2.wt.put (p := [0, 1]) (c := 2) hj ((twoStr wr wr.heap.size rfl).more (by simp)) (Nat.le_refl _), h2.net.setOther (fun e => ?_) _, h2.bl.setCell (by show w.heap.size ≤ g; omega) _⟩
  have : g = w.heap.size := by first | exact e | exact e.symm
  omega
end
set_option maxRecDepth 100000 in
set_option maxHeartbeats 8000000 in
theorem rbyCard_any (w : World) (N : Nt) (A : Option Addr) (c m : Nat) (hm : N.n = (m : Int)) (hN : NtAt w w.heap.size A N.l) (hk : cchk N = 0) :
    Calls Tryd.prog 19 #[ntV N A c] w (CardsR w m (cardL N m)) := by
  obtain ⟨hv, hd, hs⟩ := cchk_zero hk
  obtain ⟨hn0, hn1, hl0, hl1⟩ := vld_bounds hv
  obtain ⟨ti, hi, hz0, hz1, hz2⟩ := info_parts info_str
  have hck := fun W h => rcheck_any W N A c (by omega) h
  rw [hk] at hck
  have hsum := fun W Al Ah cl ch h1 h2 h3 => rsum_any W N A Al Ah c cl ch m (onesW m 0) (cardW m m) hm h1 hv hd hs (cardW_ok m) (onesW_len m 0) (cardW_len m m) h2 h3
  have hcd : cfs ((RF (onesW m 0) (cardW m m)).sum N) (m + 1) = cardL N m := by
    unfold cfs cardL
    exact List.map_congr_left fun i _ => card_ref hv m hm i
  have hpl : ((RF (onesW m 0) (cardW m m)).sum N).length ≤ 1000000000 := by
    have h1 := Rl.sum (RF_RC (cardW_ok m)) N
    have h2 := RC_sum_len hv hd
    omega
  obtain ⟨p, hp⟩ : ∃ p, (RF (onesW m 0) (cardW m m)).sum N = p := ⟨_, rfl⟩
  simp only [hp] at hsum hcd hpl
  rw [← hcd]
  have hat := fun W A c (i : Nat) h => rat_any W A c p i hpl h
  have hsu := cfs_succ p
  have hle := cfs_len p
  have hcn := fun k => cardW_next m k
  have hc0 := cardW_zero m
  have HCK := Lib.hid hck
  have HSUM := Lib.hid hsum
  have HAT := Lib.hid hat
  have HSU := Lib.hid hsu
  have HLE := Lib.hid hle
  have HCN := Lib.hid hcn
  have HC0 := Lib.hid hc0
  have hon := fun W => onesR_any W m (by omega)
  have HON := Lib.hid hon
  clear hck hsum hat hsu hle hcn hc0 hon hcd hpl hp hv hd hs hk
  have hnet := ntNew w N A c 24 _ rfl
  have hbl : Below w.heap.size w (w.alloc (.cells #[.int .i64 N.n, .slice A N.l.length c] 24)) := (Below.refl _ _).alloc (Nat.le_refl _) _
  obtain ⟨n, l⟩ := N
  simp only at hm hN hl0 hl1
  subst hm
  go_enter Tryd.func19, Tryd.ntmps19
  go_wp2_with fail
  refine (HCK.out _ ((hN.below hbl).more hbl.size)).mono ?_
  rintro e w5 ⟨rfl, hb5⟩
  replace hnet := rowBelow hnet hb5
  replace hbl := Cs.Below.trans' hbl hb5 hbl.size
  obtain ⟨hc1, hc2⟩ := ntCells hnet
  have hg := hnet.lt
  go_wp2_with fail
  refine (HON.out _).mono ?_
  rintro e w6 ⟨g, cap, rfl, hg6, hr6, hb6⟩
  have hE0 : CW w ⟨(m : Int), l⟩ A c g cap m (cardW m 0) w6 := ⟨by rw [HC0.out]; exact hr6.more hg, rowBelow hnet hb6, Cs.Below.trans' hbl hb6 hbl.size⟩
  have HE0 := Lib.hid hE0
  clear hnet hbl hb5 hb6 hr6 hE0 hc1 hc2 HCK
  go_wp2
  go_loopw [6] (fun t wr => ∃ k : Nat, k ≤ m ∧ t = .int .i64 ((k : Int) + 1) ∧ CW w ⟨(m : Int), l⟩ A c g cap m (cardW m k) wr) (fun t _ => m + 1 - (intOf t).toNat)
  case atStart => exact ⟨0, by omega, rfl, HE0.out⟩
  case round =>
    clear HE0
    obtain ⟨k, hk, rfl, hE⟩ := hrel
    obtain ⟨hc1, hc2⟩ := ntCells hE.net
    have HE := Lib.hid hE
    by_cases hlt : k < m
    · have hi1 : (k : Int) + 1 ≤ (m : Int) := by omega
      have hi2 : (0 : Int) ≤ (k : Int) + 1 := by omega
      have hi3 : (k : Int) + 1 < ((m : Int) + 1) := by omega
      obtain ⟨⟨uo, hco⟩, hfo⟩ := hE.wt.cell (j := k + 1) (by omega)
      have hlt2 := hE.wt.rps.2.2
      clear hE
      go_wp2
      go_roundw
      case rel => exact ⟨k + 1, by omega, by go_num, by rw [← HCN.out k hlt]; have hq := HE.out.put (j := k + 1) (by omega); rw [World.setCell_alloc_past _ _ _ _ hlt2] at hq; exact hq⟩
      case measure => simp [intOf]; omega
    · obtain rfl : k = m := by omega
      have hi1 : ¬ ((k : Int) + 1 ≤ (k : Int)) := by omega
      clear hE hlt
      have hgw := HE.out.net.lt
      go_wp2_with fail
      have hbx : Below wr.heap.size wr wr.drew := belowDrewN (Below.refl _ _) 1
      have HBX := Lib.hid hbx
      have c1 : wr.drew.cell? ⟨w.heap.size, 0, none⟩ = some (.int .i64 (k : Int)) := hc1
      have c2 : wr.drew.cell? ⟨w.heap.size, 1, none⟩ = some (.slice A l.length c) := hc2
      clear hbx hc1 hc2
      go_region_held3 (fun w' => w'.cell? ⟨w.heap.size, 0, none⟩ = some (.int .i64 (k : Int)) ∧ w'.cell? ⟨w.heap.size, 1, none⟩ = some (.slice A l.length c)) (first | exact ⟨c1, c2⟩ | go_keep)
        (first
          | (go_simp
             go_at_call 36
             (with_reducible refine (HON.out _).mono ?_)
             rintro e' w9 ⟨g9, d9, rfl, hg9, hr9, hb9⟩
             have c1 := below_cell hb9 hgw c1
             have c2 := below_cell hb9 hgw c2
             have HR9 := Lib.hid hr9.rps.1
             have HB9 := Lib.hid (Cs.Below.trans' HBX.out hb9 HBX.out.size)
             have HE9 := Lib.hid (HE.out.below HB9.out)
             have HN9 := Lib.hid ((hN.below HE9.out.bl).more HE9.out.bl.size)
             have hz9 := HB9.out.size
             clear hr9 hg9 hb9)
          | (go_simp
             go_at_call 35
             (with_reducible refine (HSUM.out _ (some ⟨g9, 0, none⟩) (some ⟨g, 0, none⟩) d9 cap HN9.out HR9.out HE9.out.wt.rps.1).mono ?_)
             rintro e' w11 ⟨B11, d11, rfl, hd11, hr11, hb11⟩
             have c1 := below_cell hb11 (Nat.lt_of_lt_of_le hgw hz9) c1
             have c2 := below_cell hb11 (Nat.lt_of_lt_of_le hgw hz9) c2
             have HE11 := Lib.hid (HE9.out.below hb11)
             have HR11 := Lib.hid hr11
             clear hr11 hb11))
      all_goals
        try go_wp2
        go_loopw [8, 9] (fun o t wq => ∃ j : Nat, j ≤ k + 1 ∧ t = .int .i64 (j : Int) ∧ wq.ownsRow w11.heap.size 9 1 o j (dl (cfs p j)) ∧ Below w11.heap.size w11 wq) (fun _ t _ => k + 1 - (intOf t).toNat)
        case atStart => exact ⟨0, by omega, rfl, World.ownsRow_nil _ _ _ _, Below.refl _ _⟩
        case round =>
          obtain ⟨j, hj, rfl, hown, hbq⟩ := hrel
          have hEq := HE11.out.below hbq
          obtain ⟨hc1, hc2⟩ := ntCells hEq.net
          have hzq := hbq.size
          by_cases hlt : j < k + 1
          · have hi1 : (j : Int) ≤ (k : Int) := by omega
            have hsu := HSU.out j
            have hat := fun W A c h => HAT.out W A c j h
            obtain ⟨z, hz⟩ : ∃ z, p.getD j 0 = z := ⟨_, rfl⟩
            simp only [hz] at hat hsu
            have HAT2 := Lib.hid hat
            have HSU2 := Lib.hid hsu
            have HRQ := Lib.hid ((HR11.out.below hbq).more hzq)
            have hlt0 : ∀ b, u8.ownBlock = some b → w11.heap.size ≤ b := fun b hb => (hown.lt b hb).1
            clear hat hsu hz hEq
            go_wp2_with (first
              | (go_at_call 34
                 (with_reducible refine (HAT2.out _ B11 d11 HRQ.out.rd).mono ?_)
                 rintro e' w' ⟨rfl, rfl⟩)
              | (at_builtin; refine wpList_append_own _ rfl _ _ 38 rfl w11.heap.size 9 ti (.string ⟨#[]⟩) 1 16 Tryd.underlying38 hi hz0 hz1 hz2 rfl (by decide) _ _ _ rfl (hown.alloc _) ⟨wr.heap.size, 0, none⟩ 1 1 [.string (dec z)] rfl rfl newOne Cs.oneStr (by unfold maxLen; omega) (by omega) (by simp; omega) ?_; intro v' w3 hown3 hgr3 _))
            have hbq3 := (hbq.alloc hzq _).grown hgr3 (by simp; omega) (fun b e => hlt0 b e)
            rw [← HSU2.out] at hown3
            go_wp2
            go_roundw
            case rel => exact ⟨j + 1, by omega, by go_num, hown3, hbq3⟩
            case measure => simp [intOf]; omega
          · obtain rfl : j = k + 1 := by omega
            have hi1 : ¬ (((k + 1 : Nat) : Int) ≤ (k : Int)) := by omega
            have hbl := hEq.bl
            clear hEq hlt
            obtain ⟨g1, cap1, rfl, _, _⟩ := ownsForm hown (by omega)
            have hrd : Rd wr wr.heap.size (some ⟨g1, 0, none⟩) (k + 1) (decF (cfs p (k + 1))) := Rd.of_own hown fun i hi => dl_get _ i (by rw [HLE.out]; omega)
            go_wp2
            go_ret2
            exact ⟨some ⟨g1, 0, none⟩, cap1, rfl, hrd, hbl⟩
end Go.Proofs.YtcgejdlfiemjaaaDoor
