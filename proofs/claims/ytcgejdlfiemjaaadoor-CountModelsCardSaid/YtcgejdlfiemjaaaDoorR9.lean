/- The walk of the reference's Sum. -/
import Derived.Test.YtcgejdlfiemjaaaDoorR8
set_option linter.unusedSimpArgs false
set_option linter.unusedVariables false
open Go Go.RowKit Cs
namespace Go.Proofs.YtcgejdlfiemjaaaDoor
theorem rdSets {w : World} {B g n : Nat} {O : List Nat} (h : Rd w B (some ⟨g, 0, none⟩) (n * 2) (setsF O)) (k : Nat) (hk : k < n) : w.cell? ⟨g, k * 2, none⟩ = some (.int .u64 (lo (O.getD k 0) : Int)) ∧ w.cell? ⟨g, k * 2 + 1, none⟩ = some (.int .u64 (hi (O.getD k 0) : Int)) := by
  obtain ⟨b, o, e, _, hc⟩ := h (by omega)
  injection e with e
  injection e with e1 e2 _
  subst e1; subst e2
  refine ⟨?_, ?_⟩
  · have h1 := hc (k * 2) (by omega)
    rw [Nat.zero_add] at h1
    rw [h1]; unfold setsF; rw [if_pos (by omega), show k * 2 / 2 = k by omega]
  · have h1 := hc (k * 2 + 1) (by omega)
    rw [Nat.zero_add] at h1
    rw [h1]; unfold setsF; rw [if_neg (by omega), show (k * 2 + 1) / 2 = k by omega]
/-- The cells of a node. -/
def ndF (x : Nd) (A : Option Addr) (c : Nat) (i : Nat) : Value := if i = 0 then .int .i64 x.kind else if i = 1 then .int .i64 x.lit else .slice A x.ins.length c
theorem ndNew (w : World) (x : Nd) (A : Option Addr) (c : Nat) (t : TypeId) (g : Nat) (hg : w.heap.size = g) : (w.alloc (.cells #[.int .i64 x.kind, .int .i64 x.lit, .slice A x.ins.length c] t)).rowIs g t 3 (ndF x A c) := by
  subst hg
  exact World.rowIs_alloc w _ t (ndF x A c) fun i hi => by
    have : i = 0 ∨ i = 1 ∨ i = 2 := by simp at hi; omega
    rcases this with rfl | rfl | rfl <;> rfl
theorem ndCells {w : World} {g : Nat} {t : TypeId} {x : Nd} {A : Option Addr} {c : Nat} (h : w.rowIs g t 3 (ndF x A c)) :
    w.cell? ⟨g, 0, none⟩ = some (.int .i64 x.kind) ∧ w.cell? ⟨g, 1, none⟩ = some (.int .i64 x.lit) ∧ w.cell? ⟨g, 2, none⟩ = some (.slice A x.ins.length c) := ⟨h.cell (i := 0) (by omega), h.cell (i := 1) (by omega), h.cell (i := 2) (by omega)⟩
theorem ndLaid {W W' : World} {x : Nd} {A : Option Addr} {c : Nat} {t : TypeId} {a1 a2 : Int} (h : W' = W.alloc (.cells #[.int .i64 a1, .int .i64 a2, .slice A x.ins.length c] t)) (h1 : a1 = x.kind) (h2 : a2 = x.lit) : W'.rowIs W.heap.size t 3 (ndF x A c) := by
  subst h; subst h1; subst h2
  exact ndNew W x A c t _ rfl
/-- What lies in memory ahead of a round: the row of the polynomials so far, each of them, and all that was there at w5. -/
structure SR (w5 : World) (out : Value) (k : Nat) (U : List Value) (L : List (List Nat)) (wr : World) : Prop where
  own : wr.ownsRow w5.heap.size 69 1 out k U
  pls : RPls wr U L
  bl : Below w5.heap.size w5 wr
section
variable {w5 : World} {out : Value} {k : Nat} {U : List Value} {L : List (List Nat)} {wr w' : World}
theorem SR.below (h : SR w5 out k U L wr) (hb : Below wr.heap.size wr w') : SR w5 out k U L w' :=
  ⟨ownsBelow h.own hb, h.pls.below hb, Cs.Below.trans' h.bl hb h.bl.size⟩
theorem SR.alloc (h : SR w5 out k U L wr) (o : Obj) : SR w5 out k U L (wr.alloc o) := h.below ((Below.refl _ _).alloc (Nat.le_refl _) _)
theorem SR.drew (h : SR w5 out k U L wr) : SR w5 out k U L wr.drew := ⟨h.own.drew, h.pls, belowDrewN h.bl 1⟩
/-- The polynomial of a node before. -/
theorem SR.at (h : SR w5 out k U L wr) (j : Nat) (hj : j < k) : ∃ gr cr Aj cj, out = .slice (some ⟨gr, 0, none⟩) k cr ∧ wr.cell? ⟨gr, j, none⟩ = some (.slice Aj (L.getD j []).length cj) ∧ (L.getD j []).length ≤ cj ∧ RdS wr wr.heap.size Aj (L.getD j []) := by
  have hU : U.length = k := by have := h.own.1; omega
  obtain ⟨Aj, cj, h1, h2, h3⟩ := h.pls.2 j (by omega)
  have hown := h.own
  obtain ⟨gr, cr, rfl, _, _⟩ := ownsForm h.own (by omega)
  exact ⟨gr, cr, Aj, cj, rfl, by rw [hown.cellAt j (by omega)]; exact h1, h2, h3⟩
/-- One more polynomial. -/
theorem SR.next (h : SR w5 out k U L wr) {A : Option Addr} {c : Nat} {p : List Nat} (hc : p.length ≤ c) (hr : RdS wr wr.heap.size A p) {v' : Value} (hown : w'.ownsRow w5.heap.size 69 1 v' (k + 1) (U ++ [.slice A p.length c])) (hg : wr.grownBy w' out.ownBlock) :
    SR w5 v' (k + 1) (U ++ [.slice A p.length c]) (L ++ [p]) w' := by
  have hty : ∀ b, out.ownBlock = some b → ∃ cs T fr, wr.heap[b]? = some (.cells cs T fr) ∧ T ≠ 9 := fun b hb => by
    rcases h.own.2 with ⟨rfl, _⟩ | ⟨g, cap, cur, rfl, _, hgb, _⟩
    · cases hb
    · have e2 : g = b := by injection hb
      subst e2
      exact ⟨_, _, _, hgb, by decide⟩
  exact ⟨hown, (h.pls.snoc hc hr).grown hg hty, h.bl.grown hg h.bl.size (fun b e => (h.own.lt b e).1)⟩
end
theorem oneStr (W : World) (g : Nat) (hg : W.heap.size = g) : RdS (W.alloc (.cells #[.string ⟨#[49]⟩] 9)) (g + 1) (some ⟨g, 0, none⟩) [1] := by
  subst hg
  exact ⟨fun _ => ⟨_, 0, rfl, by omega, fun i hi => by
    have hi0 : i = 0 := by simp at hi; omega
    subst hi0
    exact (newOne 0 (.string ⟨#[49]⟩) rfl).trans (congrArg (fun s => some (Value.string s)) dec_one.symm)⟩, fun _ b o e => by
      injection e with e; injection e with e1 e2
      subst e1
      exact ⟨_, _, Array.getElem?_push_size⟩⟩
theorem RdS.nil (w : World) (B : Nat) (A : Option Addr) : RdS w B A [] := ⟨fun h => absurd h (by decide), fun h => absurd h (by decide)⟩
/-- What the kinds of nodes start with. -/
theorem start_kind {x : Nd} {m k : Nat} (lw hw : List (List Nat)) (h : formed x m k = true) : (x.kind = 0 ∧ (RF lw hw).start x = [] ∧ x.ins.length = 0) ∨ (x.kind = 1 ∧ (RF lw hw).start x = [1] ∧ x.ins.length = 0) ∨
    (∃ v : Nat, x.kind = 2 ∧ x.lit = (v : Int) ∧ 1 ≤ v ∧ v ≤ m ∧ (RF lw hw).start x = hw.getD v [] ∧ x.ins.length = 0) ∨ (∃ v : Nat, x.kind = 2 ∧ x.lit = -(v : Int) ∧ 1 ≤ v ∧ v ≤ m ∧ (RF lw hw).start x = lw.getD v [] ∧ x.ins.length = 0) ∨
    (x.kind = 3 ∧ (RF lw hw).start x = [1]) ∨ (x.kind = 4 ∧ (RF lw hw).start x = []) := by
  rcases formed_kind h with ⟨h1, h2⟩ | h1 | h1
  · rcases h1 with h1 | h1 | h1
    · exact .inl ⟨h1, by unfold Rg.start; rw [if_neg (by omega), if_neg (by omega)]; rfl, h2⟩
    · exact .inr (.inl ⟨h1, by unfold Rg.start; rw [if_neg (by omega), if_pos (.inl h1)]; rfl, h2⟩)
    · have hlit : litOk x.lit m = true := by
        unfold formed at h
        rw [List.length_eq_zero_iff.1 h2] at h
        simp [h1] at h
        exact h
      unfold litOk at hlit
      have hl := of_decide_eq_true hlit
      have hs : (RF lw hw).start x = if 0 < x.lit then hw.getD x.lit.toNat [] else lw.getD (-x.lit).toNat [] := by unfold Rg.start; rw [if_pos h1]; rfl
      unfold litVar at hl
      by_cases h0 : 0 < x.lit
      · exact .inr (.inr (.inl ⟨x.lit.toNat, h1, by omega, by omega, by omega, by rw [hs, if_pos h0], h2⟩))
      · exact .inr (.inr (.inr (.inl ⟨(-x.lit).toNat, h1, by omega, by omega, by omega, by rw [hs, if_neg h0], h2⟩)))
  · exact .inr (.inr (.inr (.inr (.inl ⟨h1, by unfold Rg.start; rw [if_neg (by omega), if_pos (.inr h1)]; rfl⟩))))
  · exact .inr (.inr (.inr (.inr (.inr ⟨h1, by unfold Rg.start; rw [if_neg (by omega), if_neg (by omega)]; rfl⟩))))
set_option maxRecDepth 100000 in
set_option maxHeartbeats 4000000 in
theorem rsum_any (w : World) (N : Nt) (A Al Ah : Option Addr) (c cl ch m : Nat) (lw hw : List (List Nat)) (hm : N.n = (m : Int)) (hN : NtAt w w.heap.size A N.l) (hv : vld N = true) (hd : dcmp N = true) (hs : shortB N = true)
    (hW : WOK lw hw) (hll : lw.length = m + 1) (hlh : hw.length = m + 1) (hL : RPs w w.heap.size Al lw) (hH : RPs w w.heap.size Ah hw) :
    Calls Tryd.prog 35 #[ntV N A c, .slice Al (m + 1) cl, .slice Ah (m + 1) ch] w (RPoly w ((RF lw hw).sum N)) := by
  obtain ⟨hn0, hn1, hl0, hl1⟩ := vld_bounds hv
  have hfm := fun k hk => vld_formed hv k hk
  have hpe := fun k hk j => RF_pre_ev (N := N) hW hs k hk j
  have hpt := fun k hk q => RF_part_ev (N := N) hW hs k hk q
  have hpl := fun k hk j => RF_pre_len (N := N) hW hv hd k hk j
  have hql := fun k hk q => RF_part_len (N := N) hW hv hd k hk q
  have hsub := fun k hk i h => own_sub hv N.l.length k hk hk i h
  have hva := fun W h => rvars_any W N A c h hv
  obtain ⟨n, l⟩ := N
  obtain rfl : n = (m : Int) := hm
  simp only at hN hn0 hn1 hl0 hl1 hfm hpe hpt hpl hql hsub hva
  have hol := own_len l
  have hsum : (RF lw hw).sum ⟨(m : Int), l⟩ = (RF lw hw).wide ((scan ((RF lw hw).step (own l)) [] l).getD (l.length - 1) []) (vl (minus (allTo (m : Int)) ((own l).getD (l.length - 1) 0))) := rfl
  rw [hsum]
  have hsc : ∀ k (hk : k < l.length), scan ((RF lw hw).step (own l)) [] (l.take (k + 1)) = scan ((RF lw hw).step (own l)) [] (l.take k) ++ [(RF lw hw).step (own l) (scan ((RF lw hw).step (own l)) [] (l.take k)) l[k]] := fun k hk => scan_take _ l k hk
  have hscl : ∀ k, k ≤ l.length → (scan ((RF lw hw).step (own l)) [] (l.take k)).length = k := fun k hk => scan_len _ l k hk
  obtain ⟨O, hO⟩ : ∃ O, own l = O := ⟨_, rfl⟩
  rw [hO] at hol ⊢
  simp only [hO] at hpe hpt hpl hql hsub hva hsc hscl
  obtain ⟨V, hV⟩ : ∃ V, (RF lw hw).wide ((scan ((RF lw hw).step O) [] l).getD (l.length - 1) []) (vl (minus (allTo (m : Int)) (O.getD (l.length - 1) 0))) = V := ⟨_, rfl⟩
  rw [hV]
  have HV := Lib.hid hV
  clear hV
  have HW := Lib.hid hW
  have HFM := Lib.hid hfm
  have HPE := Lib.hid hpe
  have HPT := Lib.hid hpt
  have HPL := Lib.hid hpl
  have HQL := Lib.hid hql
  have HSUB := Lib.hid hsub
  have HVA := Lib.hid hva
  have HSC := Lib.hid hsc
  have HSCL := Lib.hid hscl
  have HL := Lib.hid hL
  have HH := Lib.hid hH
  have HLL := Lib.hid hll
  have HLH := Lib.hid hlh
  have HOL := Lib.hid hol
  have hgp := fun W Ak ck al ow p h1 h2 h3 h4 h5 h6 h7 => rgap_any W Ak Al Ah ck cl ch p al ow m lw hw hW hll hlh (by omega) h1 h2 h3 h4 h5 h6 h7
  have HGP := Lib.hid hgp
  clear hfm hpe hpt hpl hql hsub hva hsc hscl hL hH hll hlh hol hW hv hd hs hsum hO hgp
  have hbox := ntNew w ⟨(m : Int), l⟩ A c 24 _ rfl
  have hbl : Below w.heap.size w (w.alloc (.cells #[.int .i64 (m : Int), .slice A l.length c] 24)) := (Below.refl _ _).alloc (Nat.le_refl _) _
  go_enter Tryd.func35, Tryd.ntmps35
  go_wp2_with fail
  refine (HVA.out _ ((hN.below hbl).more hbl.size)).mono ?_
  rintro e w5 ⟨g, cg, rfl, hgg, hvr, hb5⟩
  have hE : SR w5 (.slice none 0 0) 0 [] (scan ((RF lw hw).step O) [] (l.take 0)) w5 := ⟨World.ownsRow_nil _ _ _ _, RPls.nil _, Below.refl _ _⟩
  replace hbox := rowBelow hbox hb5
  replace hb5 := Cs.Below.trans' hbl hb5 hbl.size
  have hz5 : w.heap.size < w5.heap.size := hbox.lt
  have HB5 := Lib.hid hb5
  have HBOX := Lib.hid hbox
  have HVR := Lib.hid hvr
  clear hb5 HVA hbl hvr hgg
  go_wp2
  go_loopw [8, 9] (fun out t wr => ∃ (k : Nat) (U : List Value), k ≤ l.length ∧ t = .int .i64 k ∧ SR w5 out k U (scan ((RF lw hw).step O) [] (l.take k)) wr) (fun _ t _ => l.length - (intOf t).toNat)
  case atStart => exact ⟨0, [], by omega, rfl, hE⟩
  case round =>
    clear hE hbox
    obtain ⟨k, U, hk, rfl, hE⟩ := hrel
    obtain ⟨hn1', hn2'⟩ := ntCells (rowBelow HBOX.out hE.bl)
    have hz6 := hE.bl.size
    by_cases hlt : k < l.length
    · obtain ⟨b, o, rfl, hbB, hcs⟩ := hN (by omega)
      have hnd := hcs k hlt
      clear hcs
      have hfk := HFM.out k hlt
      have hpt := HPT.out k hlt
      have hql := HQL.out k hlt
      have hsc := HSC.out k hlt
      have hLl := HSCL.out k hk
      have hpe := HPE.out k hk
      have hpl := HPL.out k hk
      have hsb := HSUB.out k hlt
      obtain ⟨x, hx⟩ : ∃ x, l[k] = x := ⟨_, rfl⟩
      rw [hx] at hnd hfk hsc
      simp only [hx] at hpt hql
      obtain ⟨L, hL⟩ : ∃ L, scan ((RF lw hw).step O) [] (l.take k) = L := ⟨_, rfl⟩
      rw [hL] at hE hsc hLl
      simp only [hL] at hpt hql hpe hpl
      obtain ⟨P, hP⟩ : ∃ P : Nat → List Nat, P = fun q => (x.ins.take q).foldl ((RF lw hw).in1 O L x) ((RF lw hw).start x) := ⟨_, rfl⟩
      have hpq : ∀ q, (x.ins.take q).foldl ((RF lw hw).in1 O L x) ((RF lw hw).start x) = P q := fun q => by rw [hP]
      simp only [hpq] at hpt hql
      have hp0 : P 0 = (RF lw hw).start x := by rw [hP]; rfl
      have hps : ∀ (q j : Nat), q < x.ins.length → x.ins.getD q 0 = (j : Int) → P (q + 1) = (RF lw hw).in1 O L x (P q) (j : Int) := fun q j h1 h2 => by
        rw [← hpq (q + 1), List.take_succ_eq_append_getElem h1, List.foldl_append, hpq q]
        rw [← h2]
        simp [List.getD, h1]
      have hpl2 : P x.ins.length = (RF lw hw).step O L x := by rw [hP]; simp only [List.take_length]; rfl
      have hsk := start_kind lw hw hfk
      rw [← hp0] at hsk
      have HSC1 := Lib.hid hsc
      have HPT1 := Lib.hid hpt
      have HQL1 := Lib.hid hql
      have HPE1 := Lib.hid hpe
      have HPL1 := Lib.hid hpl
      have HPS := Lib.hid hps
      have HPL2 := Lib.hid hpl2
      have HSB := Lib.hid hsb
      have HLl := Lib.hid hLl
      have HIN := Lib.hid (formed_ins hfk)
      have hke : HFM = HFM := rfl
      clear hke
      clear hx hL hsc hpt hql hpe hpl hLl hfk hpq hP hp0 hps hpl2 hsb
      obtain ⟨hk1, hk2, ⟨A', c', hk3, hrd⟩, hr1, hr2, hr3, hr4⟩ := hnd
      have hb0 : Below w.heap.size w wr := HB5.out.trans (hE.bl.mono (Nat.le_of_lt hz5))
      replace hk1 := below_cell hb0 hbB hk1
      replace hk2 := below_cell hb0 hbB hk2
      replace hk3 := below_cell hb0 hbB hk3
      have HRD := Lib.hid hrd; clear hrd
      have HE := Lib.hid hE
      have hi0 : (0 : Int) ≤ (k : Int) := by omega
      have hi1 : (k : Int) < (l.length : Int) := by omega
      have hfin : True := trivial
      obtain ⟨W0, rfl⟩ : ∃ W0, W0 = wr := ⟨wr, rfl⟩
      rcases hsk with ⟨h1, h2, h3⟩ | ⟨h1, h2, h3⟩ | ⟨v, h1, hv, hv1, hv2, h2, h3⟩ | ⟨v, h1, hv, hv1, hv2, h2, h3⟩ | ⟨h1, h2⟩ | ⟨h1, h2⟩
      · have hxA := ndLaid (W := W0) (x := x) (A := A') (c := c') (t := 52) (a1 := 0) (a2 := x.lit) rfl h1.symm rfl
        rw [h1] at hk1
        have H3 := Lib.hid h3; clear h3
        have hs0 := RdS.nil (W0.alloc (.cells #[.int .i64 0, .int .i64 x.lit, .slice A' x.ins.length c'] 52)) (W0.alloc (.cells #[.int .i64 0, .int .i64 x.lit, .slice A' x.ins.length c'] 52)).heap.size none
        have hs1 := hE.alloc (.cells #[.int .i64 0, .int .i64 x.lit, .slice A' x.ins.length c'] 52)
        have hs3 : Below W0.heap.size W0 (W0.alloc (.cells #[.int .i64 0, .int .i64 x.lit, .slice A' x.ins.length c'] 52)) := (Below.refl _ _).alloc (Nat.le_refl _) _
        clear hE
        go_wp2_with fail
        go_loopw [11, 12] (fun sv t wq => ∃ (q : Nat) (Aq : Option Addr) (cq : Nat), q ≤ x.ins.length ∧ t = .int .i64 q ∧ sv = .slice Aq (P q).length cq ∧ (P q).length ≤ cq ∧ RdS wq wq.heap.size Aq (P q) ∧ SR w5 u8 k U L wq ∧ wq.rowIs W0.heap.size 52 3 (ndF x A' c') ∧ Below W0.heap.size W0 wq) (fun _ t _ => x.ins.length - (intOf t).toNat)
        case atStart => exact ⟨0, none, 0, by omega, rfl, by rw [h2]; rfl, by rw [h2]; exact Nat.le_refl _, by rw [h2]; exact hs0, hs1, hxA, hs3⟩
        case round =>
          clear hs0
          obtain ⟨q, Aq, cq, hq, rfl, rfl, hcq, hAq, hE, hxN, hbq⟩ := hrel
          obtain ⟨hx0, hx1, hx2⟩ := ndCells hxN
          rw [h1] at hx0
          have hzq := hbq.size
          by_cases hqlt : q < x.ins.length
          · exact absurd hqlt (by have := H3.out; omega)
          · obtain rfl : q = x.ins.length := by omega
            have hst := HPL2.out
            have hnx := HSC1.out
            rw [← hst] at hnx
            have HNX := Lib.hid hnx
            have HEA := Lib.hid hE
            have HQA := Lib.hid hAq
            have hown := hE.own.alloc (.cells #[.slice Aq (P x.ins.length).length cq] 69)
            have hz7 := hE.bl.size
            obtain ⟨ti, hti, ht0, ht1, ht2⟩ := info_parts info_poly
            clear hst hnx hE hAq
            go_wp2_with (at_builtin; refine wpList_append_own _ rfl _ _ 71 rfl w5.heap.size 69 ti (.slice none 0 0) 1 24 Tryd.underlying71 hti ht0 ht1 ht2 rfl (by decide) _ _ _ rfl hown ⟨wr.heap.size, 0, none⟩ 1 1 [.slice Aq (P x.ins.length).length cq] rfl rfl newOne oneSlice (by unfold maxLen; omega) (by omega) (by simp; omega) ?_; intro v' w3 hown3 hgr3 _)
            have hE3 := (HEA.out.alloc (.cells #[.slice Aq (P x.ins.length).length cq] 69)).next hcq ((HQA.out.below ((Below.refl _ _).alloc (Nat.le_refl _) _)).more (by simp)) hown3 hgr3
            rw [← HNX.out] at hE3
            go_wp2
            go_roundw
            case rel => exact ⟨k + 1, _, by omega, by go_num, hE3⟩
            case measure => simp [intOf]; omega
      · have hxA := ndLaid (W := W0) (x := x) (A := A') (c := c') (t := 52) (a1 := 1) (a2 := x.lit) rfl h1.symm rfl
        rw [h1] at hk1
        have H3 := Lib.hid h3; clear h3
        have hs0 := (oneStr (W0.alloc (.cells #[.int .i64 1, .int .i64 x.lit, .slice A' x.ins.length c'] 52)) (W0.heap.size + 1) (by simp)).more (B' := ((W0.alloc (.cells #[.int .i64 1, .int .i64 x.lit, .slice A' x.ins.length c'] 52)).alloc (.cells #[.string ⟨#[49]⟩] 9)).heap.size) (by simp)
        have hs1 := (hE.alloc (.cells #[.int .i64 1, .int .i64 x.lit, .slice A' x.ins.length c'] 52)).alloc (.cells #[.string ⟨#[49]⟩] 9)
        have hs2 := hxA.alloc (.cells #[.string ⟨#[49]⟩] 9)
        have hs3 : Below W0.heap.size W0 ((W0.alloc (.cells #[.int .i64 1, .int .i64 x.lit, .slice A' x.ins.length c'] 52)).alloc (.cells #[.string ⟨#[49]⟩] 9)) := ((Below.refl _ _).alloc (Nat.le_refl _) _).alloc (by simp) _
        clear hE hxA
        go_wp2_with fail
        go_loopw [11, 12] (fun sv t wq => ∃ (q : Nat) (Aq : Option Addr) (cq : Nat), q ≤ x.ins.length ∧ t = .int .i64 q ∧ sv = .slice Aq (P q).length cq ∧ (P q).length ≤ cq ∧ RdS wq wq.heap.size Aq (P q) ∧ SR w5 u8 k U L wq ∧ wq.rowIs W0.heap.size 52 3 (ndF x A' c') ∧ Below W0.heap.size W0 wq) (fun _ t _ => x.ins.length - (intOf t).toNat)
        case atStart => exact ⟨0, _, _, by omega, rfl, by rw [h2]; rfl, by rw [h2]; exact Nat.le_refl _, by rw [h2]; exact hs0, hs1, hs2, hs3⟩
        case round =>
          clear hs0
          obtain ⟨q, Aq, cq, hq, rfl, rfl, hcq, hAq, hE, hxN, hbq⟩ := hrel
          obtain ⟨hx0, hx1, hx2⟩ := ndCells hxN
          rw [h1] at hx0
          have hzq := hbq.size
          by_cases hqlt : q < x.ins.length
          · exact absurd hqlt (by have := H3.out; omega)
          · obtain rfl : q = x.ins.length := by omega
            have hst := HPL2.out
            have hnx := HSC1.out
            rw [← hst] at hnx
            have HNX := Lib.hid hnx
            have HEA := Lib.hid hE
            have HQA := Lib.hid hAq
            have hown := hE.own.alloc (.cells #[.slice Aq (P x.ins.length).length cq] 69)
            have hz7 := hE.bl.size
            obtain ⟨ti, hti, ht0, ht1, ht2⟩ := info_parts info_poly
            clear hst hnx hE hAq
            go_wp2_with (at_builtin; refine wpList_append_own _ rfl _ _ 71 rfl w5.heap.size 69 ti (.slice none 0 0) 1 24 Tryd.underlying71 hti ht0 ht1 ht2 rfl (by decide) _ _ _ rfl hown ⟨wr.heap.size, 0, none⟩ 1 1 [.slice Aq (P x.ins.length).length cq] rfl rfl newOne oneSlice (by unfold maxLen; omega) (by omega) (by simp; omega) ?_; intro v' w3 hown3 hgr3 _)
            have hE3 := (HEA.out.alloc (.cells #[.slice Aq (P x.ins.length).length cq] 69)).next hcq ((HQA.out.below ((Below.refl _ _).alloc (Nat.le_refl _) _)).more (by simp)) hown3 hgr3
            rw [← HNX.out] at hE3
            go_wp2
            go_roundw
            case rel => exact ⟨k + 1, _, by omega, by go_num, hE3⟩
            case measure => simp [intOf]; omega
      · have hxA := ndLaid (W := W0) (x := x) (A := A') (c := c') (t := 52) (a1 := 2) (a2 := (v : Int)) rfl h1.symm hv.symm
        rw [h1] at hk1
        rw [hv] at hk2
        have H3 := Lib.hid h3; clear h3
        obtain ⟨bp, op, rfl, hbpB, hcp⟩ := HH.out (by have := HLH.out; omega)
        obtain ⟨Ap, cp, hp1, hp2, hp3⟩ := hcp v (by have := HLH.out; omega)
        have hs3 : Below W0.heap.size W0 (W0.alloc (.cells #[.int .i64 2, .int .i64 (v : Int), .slice A' x.ins.length c'] 52)) := (Below.refl _ _).alloc (Nat.le_refl _) _
        have hb7 := Cs.Below.trans' hb0 hs3 hb0.size
        have hp4 := below_cell hb0 hbpB hp1
        have hp5 := below_cell hb7 hbpB hp1
        have hs0 := (hp3.below hb7).more hb7.size
        rw [← h2] at hp4 hp5 hs0 hp2
        have hs1 := hE.alloc (.cells #[.int .i64 2, .int .i64 (v : Int), .slice A' x.ins.length c'] 52)
        have v0 : (0 : Int) ≤ (v : Int) := by omega
        have v1 : (v : Int) < (m : Int) + 1 := by omega
        have v2 : (0 : Int) < (v : Int) := by omega
        have v3 : ¬ (v : Int) < 0 := by omega
        have v4 : True := trivial
        have HP1 := Lib.hid hp1
        have HP3 := Lib.hid hp3
        have H2 := Lib.hid h2
        clear hE hcp hp1 hp3 h2
        go_wp2_with fail
        go_loopw [11, 12] (fun sv t wq => ∃ (q : Nat) (Aq : Option Addr) (cq : Nat), q ≤ x.ins.length ∧ t = .int .i64 q ∧ sv = .slice Aq (P q).length cq ∧ (P q).length ≤ cq ∧ RdS wq wq.heap.size Aq (P q) ∧ SR w5 u8 k U L wq ∧ wq.rowIs W0.heap.size 52 3 (ndF x A' c') ∧ Below W0.heap.size W0 wq) (fun _ t _ => x.ins.length - (intOf t).toNat)
        case atStart => exact ⟨0, Ap, cp, by omega, rfl, rfl, hp2, hs0, hs1, hxA, hs3⟩
        case round =>
          clear hs0
          obtain ⟨q, Aq, cq, hq, rfl, rfl, hcq, hAq, hE, hxN, hbq⟩ := hrel
          obtain ⟨hx0, hx1, hx2⟩ := ndCells hxN
          rw [h1] at hx0
          rw [hv] at hx1
          have hzq := hbq.size
          by_cases hqlt : q < x.ins.length
          · exact absurd hqlt (by have := H3.out; omega)
          · obtain rfl : q = x.ins.length := by omega
            have hst := HPL2.out
            have hnx := HSC1.out
            rw [← hst] at hnx
            have HNX := Lib.hid hnx
            have HEA := Lib.hid hE
            have HQA := Lib.hid hAq
            have hown := hE.own.alloc (.cells #[.slice Aq (P x.ins.length).length cq] 69)
            have hz7 := hE.bl.size
            obtain ⟨ti, hti, ht0, ht1, ht2⟩ := info_parts info_poly
            clear hst hnx hE hAq
            go_wp2_with (at_builtin; refine wpList_append_own _ rfl _ _ 71 rfl w5.heap.size 69 ti (.slice none 0 0) 1 24 Tryd.underlying71 hti ht0 ht1 ht2 rfl (by decide) _ _ _ rfl hown ⟨wr.heap.size, 0, none⟩ 1 1 [.slice Aq (P x.ins.length).length cq] rfl rfl newOne oneSlice (by unfold maxLen; omega) (by omega) (by simp; omega) ?_; intro v' w3 hown3 hgr3 _)
            have hE3 := (HEA.out.alloc (.cells #[.slice Aq (P x.ins.length).length cq] 69)).next hcq ((HQA.out.below ((Below.refl _ _).alloc (Nat.le_refl _) _)).more (by simp)) hown3 hgr3
            rw [← HNX.out] at hE3
            go_wp2
            go_roundw
            case rel => exact ⟨k + 1, _, by omega, by go_num, hE3⟩
            case measure => simp [intOf]; omega
      · have hxA := ndLaid (W := W0) (x := x) (A := A') (c := c') (t := 52) (a1 := 2) (a2 := (-(v : Int))) rfl h1.symm hv.symm
        rw [h1] at hk1
        rw [hv] at hk2
        have H3 := Lib.hid h3; clear h3
        obtain ⟨bp, op, rfl, hbpB, hcp⟩ := HL.out (by have := HLL.out; omega)
        obtain ⟨Ap, cp, hp1, hp2, hp3⟩ := hcp v (by have := HLL.out; omega)
        have hs3 : Below W0.heap.size W0 (W0.alloc (.cells #[.int .i64 2, .int .i64 (-(v : Int)), .slice A' x.ins.length c'] 52)) := (Below.refl _ _).alloc (Nat.le_refl _) _
        have hb7 := Cs.Below.trans' hb0 hs3 hb0.size
        have hp4 := below_cell hb0 hbpB hp1
        have hp5 := below_cell hb7 hbpB hp1
        have hs0 := (hp3.below hb7).more hb7.size
        rw [← h2] at hp4 hp5 hs0 hp2
        have hs1 := hE.alloc (.cells #[.int .i64 2, .int .i64 (-(v : Int)), .slice A' x.ins.length c'] 52)
        have v0 : (0 : Int) ≤ (v : Int) := by omega
        have v1 : (v : Int) < (m : Int) + 1 := by omega
        have v2 : (0 : Int) < (v : Int) := by omega
        have v3 : -(v : Int) < 0 := by omega
        have v4 : ¬ 0 < -(v : Int) := by omega
        have HP1 := Lib.hid hp1
        have HP3 := Lib.hid hp3
        have H2 := Lib.hid h2
        clear hE hcp hp1 hp3 h2
        go_wp2_with fail
        go_loopw [11, 12] (fun sv t wq => ∃ (q : Nat) (Aq : Option Addr) (cq : Nat), q ≤ x.ins.length ∧ t = .int .i64 q ∧ sv = .slice Aq (P q).length cq ∧ (P q).length ≤ cq ∧ RdS wq wq.heap.size Aq (P q) ∧ SR w5 u8 k U L wq ∧ wq.rowIs W0.heap.size 52 3 (ndF x A' c') ∧ Below W0.heap.size W0 wq) (fun _ t _ => x.ins.length - (intOf t).toNat)
        case atStart => exact ⟨0, Ap, cp, by omega, rfl, rfl, hp2, hs0, hs1, hxA, hs3⟩
        case round =>
          clear hs0
          obtain ⟨q, Aq, cq, hq, rfl, rfl, hcq, hAq, hE, hxN, hbq⟩ := hrel
          obtain ⟨hx0, hx1, hx2⟩ := ndCells hxN
          rw [h1] at hx0
          rw [hv] at hx1
          have hzq := hbq.size
          by_cases hqlt : q < x.ins.length
          · exact absurd hqlt (by have := H3.out; omega)
          · obtain rfl : q = x.ins.length := by omega
            have hst := HPL2.out
            have hnx := HSC1.out
            rw [← hst] at hnx
            have HNX := Lib.hid hnx
            have HEA := Lib.hid hE
            have HQA := Lib.hid hAq
            have hown := hE.own.alloc (.cells #[.slice Aq (P x.ins.length).length cq] 69)
            have hz7 := hE.bl.size
            obtain ⟨ti, hti, ht0, ht1, ht2⟩ := info_parts info_poly
            clear hst hnx hE hAq
            go_wp2_with (at_builtin; refine wpList_append_own _ rfl _ _ 71 rfl w5.heap.size 69 ti (.slice none 0 0) 1 24 Tryd.underlying71 hti ht0 ht1 ht2 rfl (by decide) _ _ _ rfl hown ⟨wr.heap.size, 0, none⟩ 1 1 [.slice Aq (P x.ins.length).length cq] rfl rfl newOne oneSlice (by unfold maxLen; omega) (by omega) (by simp; omega) ?_; intro v' w3 hown3 hgr3 _)
            have hE3 := (HEA.out.alloc (.cells #[.slice Aq (P x.ins.length).length cq] 69)).next hcq ((HQA.out.below ((Below.refl _ _).alloc (Nat.le_refl _) _)).more (by simp)) hown3 hgr3
            rw [← HNX.out] at hE3
            go_wp2
            go_roundw
            case rel => exact ⟨k + 1, _, by omega, by go_num, hE3⟩
            case measure => simp [intOf]; omega
      · have hxA := ndLaid (W := W0) (x := x) (A := A') (c := c') (t := 52) (a1 := 3) (a2 := x.lit) rfl h1.symm rfl
        rw [h1] at hk1
        have hs0 := (oneStr (W0.alloc (.cells #[.int .i64 3, .int .i64 x.lit, .slice A' x.ins.length c'] 52)) (W0.heap.size + 1) (by simp)).more (B' := ((W0.alloc (.cells #[.int .i64 3, .int .i64 x.lit, .slice A' x.ins.length c'] 52)).alloc (.cells #[.string ⟨#[49]⟩] 9)).heap.size) (by simp)
        have hs1 := (hE.alloc (.cells #[.int .i64 3, .int .i64 x.lit, .slice A' x.ins.length c'] 52)).alloc (.cells #[.string ⟨#[49]⟩] 9)
        have hs2 := hxA.alloc (.cells #[.string ⟨#[49]⟩] 9)
        have hs3 : Below W0.heap.size W0 ((W0.alloc (.cells #[.int .i64 3, .int .i64 x.lit, .slice A' x.ins.length c'] 52)).alloc (.cells #[.string ⟨#[49]⟩] 9)) := ((Below.refl _ _).alloc (Nat.le_refl _) _).alloc (by simp) _
        clear hE hxA
        go_wp2_with fail
        go_loopw [11, 12] (fun sv t wq => ∃ (q : Nat) (Aq : Option Addr) (cq : Nat), q ≤ x.ins.length ∧ t = .int .i64 q ∧ sv = .slice Aq (P q).length cq ∧ (P q).length ≤ cq ∧ RdS wq wq.heap.size Aq (P q) ∧ SR w5 u8 k U L wq ∧ wq.rowIs W0.heap.size 52 3 (ndF x A' c') ∧ Below W0.heap.size W0 wq) (fun _ t _ => x.ins.length - (intOf t).toNat)
        case atStart => exact ⟨0, _, _, by omega, rfl, by rw [h2]; rfl, by rw [h2]; exact Nat.le_refl _, by rw [h2]; exact hs0, hs1, hs2, hs3⟩
        case round =>
          clear hs0
          obtain ⟨q, Aq, cq, hq, rfl, rfl, hcq, hAq, hE, hxN, hbq⟩ := hrel
          obtain ⟨hx0, hx1, hx2⟩ := ndCells hxN
          rw [h1] at hx0
          have hzq := hbq.size
          by_cases hqlt : q < x.ins.length
          · obtain ⟨b', o', rfl, hbB', hcs⟩ := HRD.out (by omega)
            have hb1 : Below w.heap.size w wr := HB5.out.trans (hE.bl.mono (Nat.le_of_lt hz5))
            have hc := below_cell hb1 hbB' (hcs q hqlt)
            clear hcs
            unfold intF at hc
            obtain ⟨j, hj1, hj2⟩ := HIN.out q hqlt
            rw [hj1] at hc
            have hpn := HPS.out q j hqlt hj1
            have hpe1 := HPT1.out q
            have hpe2 := HPT1.out (q + 1)
            have hpl1 := HQL1.out q
            have hye := HPE1.out j
            have hyl := HPL1.out j
            obtain ⟨gr, cr, Aj, cj, rfl, ho1, hcj, hAj⟩ := hE.at j hj2
            obtain ⟨y, hy⟩ : ∃ y, L.getD j [] = y := ⟨_, rfl⟩
            rw [hy] at ho1 hcj hAj hye hyl
            have hsz1 : wr.heap.size = wr.heap.size := rfl
            have j0 : (0 : Int) ≤ (j : Int) := by omega
            have j1 : (j : Int) < (k : Int) := by omega
            have j2 : (j : Int) < (l.length : Int) := by omega
            have q0 : (0 : Int) ≤ (q : Int) := by omega
            have q1 : (q : Int) < (x.ins.length : Int) := by omega
            have hpn2 : P (q + 1) = trimP (mulF (P q) y) := by
              rw [hpn]
              unfold Rg.in1
              rw [if_pos (.inr h1)]
              show trimP (mulF (P q) (L.getD (j : Int).toNat [])) = _
              rw [Int.toNat_natCast, hy]
            have hxb : ev (P q) * ev y < big * 2 ^ 200 := by
              have h5 : ev (P (q + 1)) = ev (P q) * ev y := by rw [hpn2, ev_trimP, ev_mulF]
              rw [← h5]
              exact Nat.lt_of_lt_of_le hpe2 (Nat.le_mul_of_pos_right _ (Nat.two_pow_pos _))
            have hup : ∀ v, v < big → decN v ≤ 10000000 := fun v hv => decN_big2 v (Nat.lt_of_lt_of_le hv (Nat.le_mul_of_pos_right _ (Nat.two_pow_pos _)))
            have hpm := rpmul_any wr Aq Aj cq cj (P q) y (by omega) (by omega) hAq.rd hAj.rd (fun i => hup _ (Nat.lt_of_le_of_lt (ev_le _ i) hpe1)) (fun i => hup _ (Nat.lt_of_le_of_lt (ev_le _ i) hye))
              (fun i j => decN_big2 _ (Nat.lt_of_le_of_lt (Nat.mul_le_mul (ev_le _ i) (ev_le _ j)) hxb)) (fun i j t h1 h2 => decN_big2 _ (Nat.lt_of_le_of_lt (cvI_le _ _ i j t h1 h2) hxb))
            rw [← hpn2] at hpm
            have HPM := Lib.hid hpm
            clear hpn hpn2 hxb hup hpm hpe1 hpe2 hye hj1
            go_wp2_with fail
            refine HPM.out.mono ?_
            rintro e w9 ⟨B9, d9, rfl, hd9, hr9, hb9⟩
            go_wp2
            go_roundw
            case rel => exact ⟨q + 1, B9, d9, by omega, by go_num, rfl, hd9, hr9, hE.below hb9, rowBelow hxN hb9, Cs.Below.trans' hbq hb9 hzq⟩
            case measure => simp [intOf]; omega
          · obtain rfl : q = x.ins.length := by omega
            have hst := HPL2.out
            have hnx := HSC1.out
            rw [← hst] at hnx
            have HNX := Lib.hid hnx
            have HEA := Lib.hid hE
            have HQA := Lib.hid hAq
            have hown := hE.own.alloc (.cells #[.slice Aq (P x.ins.length).length cq] 69)
            have hz7 := hE.bl.size
            obtain ⟨ti, hti, ht0, ht1, ht2⟩ := info_parts info_poly
            clear hst hnx hE hAq
            go_wp2_with (at_builtin; refine wpList_append_own _ rfl _ _ 71 rfl w5.heap.size 69 ti (.slice none 0 0) 1 24 Tryd.underlying71 hti ht0 ht1 ht2 rfl (by decide) _ _ _ rfl hown ⟨wr.heap.size, 0, none⟩ 1 1 [.slice Aq (P x.ins.length).length cq] rfl rfl newOne oneSlice (by unfold maxLen; omega) (by omega) (by simp; omega) ?_; intro v' w3 hown3 hgr3 _)
            have hE3 := (HEA.out.alloc (.cells #[.slice Aq (P x.ins.length).length cq] 69)).next hcq ((HQA.out.below ((Below.refl _ _).alloc (Nat.le_refl _) _)).more (by simp)) hown3 hgr3
            rw [← HNX.out] at hE3
            go_wp2
            go_roundw
            case rel => exact ⟨k + 1, _, by omega, by go_num, hE3⟩
            case measure => simp [intOf]; omega
      · have hxA := ndLaid (W := W0) (x := x) (A := A') (c := c') (t := 52) (a1 := 4) (a2 := x.lit) rfl h1.symm rfl
        rw [h1] at hk1
        have hs0 := RdS.nil (W0.alloc (.cells #[.int .i64 4, .int .i64 x.lit, .slice A' x.ins.length c'] 52)) (W0.alloc (.cells #[.int .i64 4, .int .i64 x.lit, .slice A' x.ins.length c'] 52)).heap.size none
        have hs1 := hE.alloc (.cells #[.int .i64 4, .int .i64 x.lit, .slice A' x.ins.length c'] 52)
        have hs3 : Below W0.heap.size W0 (W0.alloc (.cells #[.int .i64 4, .int .i64 x.lit, .slice A' x.ins.length c'] 52)) := (Below.refl _ _).alloc (Nat.le_refl _) _
        clear hE
        go_wp2_with fail
        go_loopw [11, 12] (fun sv t wq => ∃ (q : Nat) (Aq : Option Addr) (cq : Nat), q ≤ x.ins.length ∧ t = .int .i64 q ∧ sv = .slice Aq (P q).length cq ∧ (P q).length ≤ cq ∧ RdS wq wq.heap.size Aq (P q) ∧ SR w5 u8 k U L wq ∧ wq.rowIs W0.heap.size 52 3 (ndF x A' c') ∧ Below W0.heap.size W0 wq) (fun _ t _ => x.ins.length - (intOf t).toNat)
        case atStart => exact ⟨0, none, 0, by omega, rfl, by rw [h2]; rfl, by rw [h2]; exact Nat.le_refl _, by rw [h2]; exact hs0, hs1, hxA, hs3⟩
        case round =>
          clear hs0
          obtain ⟨q, Aq, cq, hq, rfl, rfl, hcq, hAq, hE, hxN, hbq⟩ := hrel
          obtain ⟨hx0, hx1, hx2⟩ := ndCells hxN
          rw [h1] at hx0
          have hzq := hbq.size
          by_cases hqlt : q < x.ins.length
          · obtain ⟨b', o', rfl, hbB', hcs⟩ := HRD.out (by omega)
            have hb1 : Below w.heap.size w wr := HB5.out.trans (hE.bl.mono (Nat.le_of_lt hz5))
            have hc := below_cell hb1 hbB' (hcs q hqlt)
            clear hcs
            unfold intF at hc
            obtain ⟨j, hj1, hj2⟩ := HIN.out q hqlt
            rw [hj1] at hc
            have hpn := HPS.out q j hqlt hj1
            have hpe1 := HPT1.out q
            have hpe2 := HPT1.out (q + 1)
            have hpl1 := HQL1.out q
            have hye := HPE1.out j
            have hyl := HPL1.out j
            obtain ⟨gr, cr, Aj, cj, rfl, ho1, hcj, hAj⟩ := hE.at j hj2
            obtain ⟨y, hy⟩ : ∃ y, L.getD j [] = y := ⟨_, rfl⟩
            rw [hy] at ho1 hcj hAj hye hyl
            have hsz1 : wr.heap.size = wr.heap.size := rfl
            have j0 : (0 : Int) ≤ (j : Int) := by omega
            have j1 : (j : Int) < (k : Int) := by omega
            have j2 : (j : Int) < (l.length : Int) := by omega
            have q0 : (0 : Int) ≤ (q : Int) := by omega
            have q1 : (q : Int) < (x.ins.length : Int) := by omega
            obtain ⟨G, hG⟩ : ∃ G, (RF lw hw).wide y (vl (minus (O.getD k 0) (O.getD j 0))) = G := ⟨_, rfl⟩
            have hpn2 : P (q + 1) = trimP (addP (P q) G) := by
              rw [hpn]
              unfold Rg.in1
              rw [if_neg (by omega)]
              show trimP (addP (P q) ((RF lw hw).wide (L.getD (j : Int).toNat []) (vl (minus (O.getD L.length 0) (O.getD (j : Int).toNat 0))))) = _
              rw [Int.toNat_natCast, hy, HLl.out, hG]
            have hge : ev G < big := by
              have h5 : ev (P (q + 1)) = ev (P q) + ev G := by rw [hpn2, ev_trimP, ev_addP]
              omega
            have hgl : G.length ≤ 100000 := by
              have h5 := RF_wide_len HW.out (vl (minus (O.getD k 0) (O.getD j 0))) y
              have h6 := vlk_len (minus (O.getD k 0) (O.getD j 0)) 128
              rw [vlk_vl] at h6
              rw [hG] at h5
              omega
            have hup : ∀ v, v < big → decN v ≤ 10000000 := fun v hv => decN_big2 v (Nat.lt_of_lt_of_le hv (Nat.le_mul_of_pos_right _ (Nat.two_pow_pos _)))
            have hpa := fun W A B ca cb h1 h2 => rpadd_any W A B ca cb (P q) G (by omega) (by omega) h1 h2 (fun i => hup _ (Nat.lt_of_le_of_lt (ev_le _ i) hpe1)) (fun i => hup _ (Nat.lt_of_le_of_lt (ev_le _ i) hge))
            have hgp := fun W h5 h6 h7 => HGP.out W Aj cj (O.getD k 0) (O.getD j 0) y (fun i hi => Int.ofNat_lt.1 (HSB.out i hi)) (by omega) hcj hye h5 h6 h7
            rw [← hpn2] at hpa
            have hvr1 := HVR.out.below hE.bl
            obtain ⟨s1, s2⟩ := rdSets hvr1 k hlt
            obtain ⟨s3, s4⟩ := rdSets hvr1 j (by omega)
            obtain ⟨sk, hsk⟩ : ∃ z, O.getD k 0 = z := ⟨_, rfl⟩
            obtain ⟨sj, hsj⟩ : ∃ z, O.getD j 0 = z := ⟨_, rfl⟩
            rw [hsk] at s1 s2
            rw [hsj] at s3 s4
            rw [hsk, hsj] at hG
            simp only [hsk, hsj] at hgp
            rw [hG] at hgp
            clear hsk hsj
            have HPA := Lib.hid hpa
            have HGP1 := Lib.hid hgp
            have HAQ := Lib.hid hAq
            have HAJ := Lib.hid hAj
            clear hpn hpn2 hge hgl hup hpa hgp hpe1 hpe2 hye hj1 hAq hAj hG hvr1
            have hgr := hE.own.lt gr rfl
            have hgv : g < w5.heap.size := by
              obtain ⟨bz, oz, ez, hz, _⟩ := HVR.out (by omega)
              injection ez with ez; injection ez with ez _
              omega
            have hb2 : Below w.heap.size w wr.drew := belowDrewN hb1 1
            have hsD : wr.drew.heap.size = wr.heap.size := rfl
            have hsb2 := hb2.size
            have hajD : RdS wr.drew wr.drew.heap.size Aj y := HAJ.out
            have haqD : RdS wr.drew wr.drew.heap.size Aq (P q) := HAQ.out
            have hlD := (HL.out.below hb2).more hb2.size
            have hhD := (HH.out.below hb2).more hb2.size
            have HG1 := Lib.hid (HGP1.out _ hajD hlD hhD)
            have HAQD := Lib.hid haqD
            have HED := Lib.hid hE.drew
            have HXD := Lib.hid hxN.drew
            have HBQD := Lib.hid (belowDrewN hbq 1)
            have c1 : wr.drew.cell? ⟨W0.heap.size, 2, none⟩ = some (.slice (some ⟨b', o', none⟩) x.ins.length c') := hx2
            have c2 : wr.drew.cell? ⟨b', o' + q, none⟩ = some (.int .i64 (j : Int)) := hc
            have c3 : wr.drew.cell? ⟨gr, j, none⟩ = some (.slice Aj y.length cj) := ho1
            have c4 : wr.drew.cell? ⟨g, k * 2, none⟩ = some (.int .u64 (lo sk : Int)) := s1
            have c5 : wr.drew.cell? ⟨g, k * 2 + 1, none⟩ = some (.int .u64 (hi sk : Int)) := s2
            have c6 : wr.drew.cell? ⟨g, j * 2, none⟩ = some (.int .u64 (lo sj : Int)) := s3
            have c7 : wr.drew.cell? ⟨g, j * 2 + 1, none⟩ = some (.int .u64 (hi sj : Int)) := s4
            have l1 : W0.heap.size < wr.drew.heap.size := hxN.lt
            have l2 : b' < wr.drew.heap.size := by omega
            have l3 : gr < wr.drew.heap.size := by omega
            have l4 : g < wr.drew.heap.size := by have := hE.bl.size; omega
            clear hajD haqD hlD hhD hE hxN hbq hb1 hb2 s1 s2 s3 s4 hc ho1
            go_wp2_with fail
            clear hx0 hx1 hx2
            go_region_held3 (fun w' => w'.cell? ⟨W0.heap.size, 2, none⟩ = some (.slice (some ⟨b', o', none⟩) x.ins.length c') ∧ w'.cell? ⟨b', o' + q, none⟩ = some (.int .i64 (j : Int)) ∧ w'.cell? ⟨gr, j, none⟩ = some (.slice Aj y.length cj) ∧ w'.cell? ⟨g, k * 2, none⟩ = some (.int .u64 (lo sk : Int)) ∧ w'.cell? ⟨g, k * 2 + 1, none⟩ = some (.int .u64 (hi sk : Int)) ∧ w'.cell? ⟨g, j * 2, none⟩ = some (.int .u64 (lo sj : Int)) ∧ w'.cell? ⟨g, j * 2 + 1, none⟩ = some (.int .u64 (hi sj : Int))) (first | exact ⟨c1, c2, c3, c4, c5, c6, c7⟩ | go_keep)
              (first
                | (go_simp
                   go_at_call 70
                   (with_reducible refine HG1.out.mono ?_)
                   rintro e' w9 ⟨B9, d9, rfl, hd9, hr9, hb9⟩
                   have c1 := below_cell hb9 l1 c1
                   have c2 := below_cell hb9 l2 c2
                   have c3 := below_cell hb9 l3 c3
                   have c4 := below_cell hb9 l4 c4
                   have c5 := below_cell hb9 l4 c5
                   have c6 := below_cell hb9 l4 c6
                   have c7 := below_cell hb9 l4 c7
                   have HR9 := Lib.hid hr9
                   have HAQ9 := Lib.hid ((HAQD.out.below hb9).more hb9.size)
                   have HE9 := Lib.hid (HED.out.below hb9)
                   have HX9 := Lib.hid (rowBelow HXD.out hb9)
                   have HB9 := Lib.hid (Cs.Below.trans' HBQD.out hb9 HBQD.out.size)
                   have hz9 := hb9.size
                   clear hr9)
                | (go_simp
                   go_at_call 69
                   (with_reducible refine (HPA.out _ Aq B9 cq d9 HAQ9.out.rd HR9.out.rd).mono ?_)
                   rintro e' w10 ⟨B10, d10, rfl, hd10, hr10, hb10⟩
                   have c1 := below_cell hb10 (Nat.lt_of_lt_of_le l1 hz9) c1
                   have c2 := below_cell hb10 (Nat.lt_of_lt_of_le l2 hz9) c2
                   have c3 := below_cell hb10 (Nat.lt_of_lt_of_le l3 hz9) c3
                   have c4 := below_cell hb10 (Nat.lt_of_lt_of_le l4 hz9) c4
                   have c5 := below_cell hb10 (Nat.lt_of_lt_of_le l4 hz9) c5
                   have c6 := below_cell hb10 (Nat.lt_of_lt_of_le l4 hz9) c6
                   have c7 := below_cell hb10 (Nat.lt_of_lt_of_le l4 hz9) c7
                   have HR10 := Lib.hid hr10
                   have HE10 := Lib.hid (HE9.out.below hb10)
                   have HX10 := Lib.hid (rowBelow HX9.out hb10)
                   have HB10 := Lib.hid (Cs.Below.trans' HB9.out hb10 HB9.out.size)
                   clear hr10))
            all_goals
              try go_wp2
              go_roundw
              case rel => exact ⟨q + 1, B10, d10, by omega, by go_num, rfl, hd10, HR10.out, HE10.out, HX10.out, HB10.out⟩
              case measure => simp [intOf]; omega
          · obtain rfl : q = x.ins.length := by omega
            have hst := HPL2.out
            have hnx := HSC1.out
            rw [← hst] at hnx
            have HNX := Lib.hid hnx
            have HEA := Lib.hid hE
            have HQA := Lib.hid hAq
            have hown := hE.own.alloc (.cells #[.slice Aq (P x.ins.length).length cq] 69)
            have hz7 := hE.bl.size
            obtain ⟨ti, hti, ht0, ht1, ht2⟩ := info_parts info_poly
            clear hst hnx hE hAq
            go_wp2_with (at_builtin; refine wpList_append_own _ rfl _ _ 71 rfl w5.heap.size 69 ti (.slice none 0 0) 1 24 Tryd.underlying71 hti ht0 ht1 ht2 rfl (by decide) _ _ _ rfl hown ⟨wr.heap.size, 0, none⟩ 1 1 [.slice Aq (P x.ins.length).length cq] rfl rfl newOne oneSlice (by unfold maxLen; omega) (by omega) (by simp; omega) ?_; intro v' w3 hown3 hgr3 _)
            have hE3 := (HEA.out.alloc (.cells #[.slice Aq (P x.ins.length).length cq] 69)).next hcq ((HQA.out.below ((Below.refl _ _).alloc (Nat.le_refl _) _)).more (by simp)) hown3 hgr3
            rw [← HNX.out] at hE3
            go_wp2
            go_roundw
            case rel => exact ⟨k + 1, _, by omega, by go_num, hE3⟩
            case measure => simp [intOf]; omega
    · obtain rfl : k = l.length := by omega
      have hLl := HSCL.out l.length (Nat.le_refl _)
      have hpe := HPE.out l.length (Nat.le_refl _)
      have hpl := HPL.out l.length (Nat.le_refl _)
      rw [List.take_length] at hE hLl
      simp only [List.take_length] at hpe hpl
      have hv0 := HV.out
      obtain ⟨L, hL⟩ : ∃ L, scan ((RF lw hw).step O) [] l = L := ⟨_, rfl⟩
      rw [hL] at hE hLl
      simp only [hL] at hpe hpl
      rw [hL] at hv0
      clear hL
      obtain ⟨z, hz⟩ : ∃ z, z = l.length - 1 := ⟨_, rfl⟩
      rw [← hz] at hv0
      have hzl : l.length = z + 1 := by omega
      obtain ⟨gr, cr, Aj, cj, rfl, ho1, hcj, hAj⟩ := hE.at z (by omega)
      have hye := hpe z
      have hyl := hpl z
      have hsb := HSUB.out
      obtain ⟨y, hy⟩ : ∃ y, L.getD z [] = y := ⟨_, rfl⟩
      rw [hy] at ho1 hcj hAj hye hyl
      rw [hy] at hv0
      have hvr1 := HVR.out.below hE.bl
      obtain ⟨s1, s2⟩ := rdSets hvr1 z (by omega)
      obtain ⟨sz, hsz⟩ : ∃ q, O.getD z 0 = q := ⟨_, rfl⟩
      rw [hsz] at s1 s2
      rw [hsz] at hv0
      have hfl := fun W => rfull_any W m (by omega)
      have hab : ∀ i, (allTo (m : Int)).testBit i = true → i < m := fun i hi => by
        rw [allTo_bit] at hi; simp at hi; omega
      obtain ⟨al, hal⟩ : ∃ q, allTo (m : Int) = q := ⟨_, rfl⟩
      rw [hal] at hab
      simp only [hal] at hfl
      rw [hal] at hv0
      have hgp := fun W h5 h6 h7 => HGP.out W Aj cj al sz y hab (by omega) hcj hye h5 h6 h7
      rw [hv0] at hgp
      clear hv0
      have HFL := Lib.hid hfl
      have HGP1 := Lib.hid hgp
      have hajD : RdS wr.drew wr.drew.heap.size Aj y := hAj
      have HAJ := Lib.hid hajD
      clear hajD
      have hb1 : Below w.heap.size w wr := HB5.out.trans (hE.bl.mono (Nat.le_of_lt hz5))
      have hb2 : Below w.heap.size w wr.drew := belowDrewN hb1 1
      have HBD := Lib.hid hb2
      have hgr := hE.own.lt gr rfl
      have hgv : g < w5.heap.size := by
        obtain ⟨bz, oz, ez, hz, _⟩ := HVR.out (by omega)
        injection ez with ez; injection ez with ez _
        omega
      have hsD : wr.drew.heap.size = wr.heap.size := rfl
      have c1 : wr.drew.cell? ⟨gr, z, none⟩ = some (.slice Aj y.length cj) := ho1
      have c2 : wr.drew.cell? ⟨w.heap.size, 0, none⟩ = some (.int .i64 (m : Int)) := hn1'
      have c3 : wr.drew.cell? ⟨g, z * 2, none⟩ = some (.int .u64 (lo sz : Int)) := s1
      have c4 : wr.drew.cell? ⟨g, z * 2 + 1, none⟩ = some (.int .u64 (hi sz : Int)) := s2
      have l1 : gr < wr.drew.heap.size := by omega
      have l2 : w.heap.size < wr.drew.heap.size := by omega
      have l3 : g < wr.drew.heap.size := by omega
      have hwz : IntKind.i64.wrap ((l.length : Int) - 1) = (z : Int) := by
        rw [IntKind.wrap_i64] <;> omega
      have z0 : (0 : Int) ≤ (z : Int) := by omega
      have z1 : (z : Int) < (l.length : Int) := by omega
      clear hsz hal hy hfl hgp hab hAj hb1 hb2 hvr1 s1 s2 ho1 hpe hpl hye hyl hLl hz hzl hsb
      go_wp2_with fail
      go_region_held3 (fun w' => w'.cell? ⟨gr, z, none⟩ = some (.slice Aj y.length cj) ∧ w'.cell? ⟨w.heap.size, 0, none⟩ = some (.int .i64 (m : Int)) ∧ w'.cell? ⟨g, z * 2, none⟩ = some (.int .u64 (lo sz : Int)) ∧ w'.cell? ⟨g, z * 2 + 1, none⟩ = some (.int .u64 (hi sz : Int))) (first | exact ⟨c1, c2, c3, c4⟩ | go_keep)
        (first
          | (go_simp
             go_at_call 71
             (with_reducible refine (HFL.out _).mono ?_)
             rintro e' w9 ⟨rfl, hb9⟩
             have c1 := below_cell hb9 l1 c1
             have c2 := below_cell hb9 l2 c2
             have c3 := below_cell hb9 l3 c3
             have c4 := below_cell hb9 l3 c4
             have HBE := Lib.hid (Cs.Below.trans' HBD.out hb9 HBD.out.size)
             have HAE := Lib.hid ((HAJ.out.below hb9).more hb9.size)
             have hz9 := hb9.size)
          | (go_simp
             go_at_call 70
             (with_reducible refine (HGP1.out _ HAE.out ((HL.out.below HBE.out).more HBE.out.size) ((HH.out.below HBE.out).more HBE.out.size)).mono ?_)
             rintro e' w10 ⟨B10, d10, rfl, hd10, hr10, hb10⟩
             have c1 := below_cell hb10 (Nat.lt_of_lt_of_le l1 hz9) c1
             have c2 := below_cell hb10 (Nat.lt_of_lt_of_le l2 hz9) c2
             have c3 := below_cell hb10 (Nat.lt_of_lt_of_le l3 hz9) c3
             have c4 := below_cell hb10 (Nat.lt_of_lt_of_le l3 hz9) c4
             have HBF := Lib.hid (Cs.Below.trans' HBE.out hb10 HBE.out.size)
             have HR10 := Lib.hid hr10
             clear hr10))
      all_goals
        try go_wp2
        go_ret
        exact ⟨B10, d10, rfl, hd10, HR10.out, HBF.out⟩
end Go.Proofs.YtcgejdlfiemjaaaDoor
