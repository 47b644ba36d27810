/- The walk of the reference's ByLit. -/
import Derived.Test.YtcgejdlfiemjaaaDoorSX
import Derived.Maps.AppendAt
set_option linter.unusedSimpArgs false
set_option linter.unusedVariables false
open Go Go.RowKit Cs
namespace Go.Proofs.YtcgejdlfiemjaaaDoor
/-- A row of the call's own that holds polynomials. -/
def WtR (B : Nat) (v : Value) (n : Nat) (L : List (List Nat)) (w : World) : Prop := ∃ U, w.ownsRow B 69 1 v n U ∧ RPls w U L ∧ L.length = n
section
variable {B n : Nat} {v : Value} {L : List (List Nat)} {w w' : World}
theorem WtR.below (h : WtR B v n L w) (hb : Below w.heap.size w w') : WtR B v n L w' := by
  obtain ⟨U, h1, h2, h3⟩ := h
  exact ⟨U, ownsBelow h1 hb, h2.below hb, h3⟩
theorem WtR.more {B' : Nat} (h : WtR B v n L w) (hB : B' ≤ B) : WtR B' v n L w := by
  obtain ⟨U, ⟨h0, h1⟩, h2, h3⟩ := h
  refine ⟨U, ⟨h0, ?_⟩, h2, h3⟩
  rcases h1 with h1 | ⟨g, cap, cur, e, hb, r⟩
  · exact .inl h1
  · exact .inr ⟨g, cap, cur, e, Nat.le_trans hB hb, r⟩
theorem WtR.drew (h : WtR B v n L w) : WtR B v n L w.drew := by
  obtain ⟨U, h1, h2, h3⟩ := h
  exact ⟨U, h1.drew, h2, h3⟩
theorem WtR.rps {g cap : Nat} (h : WtR B (.slice (some ⟨g, 0, none⟩) n cap) n L w) : RPs w w.heap.size (some ⟨g, 0, none⟩) L ∧ B ≤ g ∧ g < w.heap.size := by
  obtain ⟨U, h1, h2, h3⟩ := h
  obtain ⟨k1, k2⟩ := h1.lt g rfl
  have hU : U.length = n := by have := h1.1; omega
  refine ⟨fun hL => ⟨g, 0, rfl, k2, fun i hi => ?_⟩, k1, k2⟩
  obtain ⟨A, c, e1, e2, e3⟩ := h2.2 i (by omega)
  exact ⟨A, c, by rw [Nat.zero_add, h1.cellAt i (by omega)]; exact e1, e2, e3⟩
/-- One entry is set to nil. -/
theorem WtR.hole {g cap j : Nat} (h : WtR B (.slice (some ⟨g, 0, none⟩) n cap) n L w) (hj : j < n) :
    WtR B (.slice (some ⟨g, 0, none⟩) n cap) n (L.set j []) (w.setCell ⟨g, j, none⟩ (.slice none 0 0)) ∧ (∃ u, w.cell? ⟨g, j, none⟩ = some u) ∧ w.frozen? ⟨g, j, none⟩ = false := by
  obtain ⟨U, h1, h2, h3⟩ := h
  obtain ⟨s1, s2⟩ := h1.stored j (.slice none 0 0)
  have hU : U.length = n := by have := h1.1; omega
  have hc : w.cell? ⟨g, j, none⟩ = some (U[j]'(by omega)) := by rw [h1.cellAt j (by omega), List.getElem?_eq_getElem (by omega)]
  have hty : ∀ b, (some g : Option Nat) = some b → ∃ cs T fr, w.heap[b]? = some (.cells cs T fr) ∧ T ≠ 9 := fun b hb => by
    injection hb with hb
    subst hb
    rcases h1.2 with ⟨h', _⟩ | ⟨g', cap', cur, h', _, hgb, _⟩
    · simp at h'
    · simp only [Value.slice.injEq, Option.some.injEq, Addr.mk.injEq, and_true, true_and] at h'
      obtain ⟨rfl, rfl⟩ := h'
      exact ⟨_, _, _, hgb, by decide⟩
  refine ⟨⟨U.set j (.slice none 0 0), s1, ⟨by simp [hU, h3], fun i hi => ?_⟩, by simp [h3]⟩, ⟨_, hc⟩, h1.frozenAt j⟩
  rw [List.length_set] at hi
  by_cases hij : i = j
  · subst hij
    have e : (L.set i []).getD i [] = [] := by rw [List.getD_eq_getElem?_getD, List.getElem?_set_self (by omega)]; rfl
    rw [e]
    exact ⟨none, 0, by rw [List.getElem?_set_self hi]; rfl, Nat.zero_le _, Rd.zero _ _ _ _, fun h => absurd h (by simp)⟩
  · have e : (L.set j []).getD i [] = L.getD i [] := by rw [List.getD_eq_getElem?_getD, List.getElem?_set_ne (fun e => hij e.symm), ← List.getD_eq_getElem?_getD]
    rw [e]
    obtain ⟨A, c, e1, e2, e3⟩ := h2.2 i hi
    exact ⟨A, c, by rw [List.getElem?_set_ne (fun e => hij e.symm)]; exact e1, e2, e3.grown s2 hty⟩
theorem WtR.other {g j : Nat} {u : Value} (h : WtR B v n L w) (hg : v.ownBlock ≠ some g) (hty : ∃ cs T fr, w.heap[g]? = some (.cells cs T fr) ∧ T ≠ 9) : WtR B v n L (w.setCell ⟨g, j, none⟩ u) := by
  obtain ⟨U, h1, h2, h3⟩ := h
  have hgr : w.grownBy (w.setCell ⟨g, j, none⟩ u) (some g) := only_setCell (World.grownBy.refl w _) (.inl rfl) u
  exact ⟨U, h1.kept hgr (.inr hg), h2.grown hgr fun b hb => by injection hb with hb; subst hb; exact hty, h3⟩
theorem WtR.type {g cap : Nat} (h : WtR B (.slice (some ⟨g, 0, none⟩) n cap) n L w) : ∃ cs T fr, w.heap[g]? = some (.cells cs T fr) ∧ T ≠ 9 := by
  obtain ⟨U, h1, h2, h3⟩ := h
  rcases h1.2 with ⟨h', _⟩ | ⟨g', cap', cur, h', _, hgb, _⟩
  · simp at h'
  · simp only [Value.slice.injEq, Option.some.injEq, Addr.mk.injEq, and_true, true_and] at h'
    obtain ⟨rfl, rfl⟩ := h'
    exact ⟨_, _, _, hgb, by decide⟩
end
/-- The weights 1, as a row of the call's own. -/
def OnesR (m : Nat) (w : World) (e : Ending) (w' : World) : Prop := ∃ g cap, e = .returned (.slice (some ⟨g, 0, none⟩) (m + 1) cap) ∧ w.heap.size ≤ g ∧ WtR w.heap.size (.slice (some ⟨g, 0, none⟩) (m + 1) cap) (m + 1) (onesW m 0) w' ∧ Below w.heap.size w w'
theorem onesR_any (w : World) (m : Nat) (hm : m ≤ 128) : Calls Tryd.prog 36 #[.int .i64 m] w (OnesR m w) := by
  refine (rones_any w m hm).mono ?_
  rintro e w' ⟨v, U, rfl, h⟩
  obtain ⟨g, cap, rfl, h1, h2⟩ := ownsForm h.own (by omega)
  exact ⟨g, cap, rfl, h1, ⟨U, h.own, h.pls, onesW_len m 0⟩, h.bl⟩
theorem onesW_hole (m k : Nat) : (onesW m 0).set (k + 1) [] = onesW m (k + 1) := rfl
/-- The cells of decimal texts. -/
def dl (L : List Nat) : List Value := L.map fun x => .string (dec x)
theorem dl_get (L : List Nat) (i : Nat) (h : i < L.length) : (dl L)[i]? = some (decF L i) := by
  unfold dl decF
  rw [List.getElem?_map, List.getElem?_eq_getElem h, List.getD_eq_getElem?_getD, List.getElem?_eq_getElem h]; rfl
theorem dl_snoc (L : List Nat) (x : Nat) : dl (L ++ [x]) = dl L ++ [.string (dec x)] := by unfold dl; simp
/-- Two slices of texts, and OK. -/
def LitsR (w : World) (m : Nat) (L H : List Nat) (e : Ending) (w' : World) : Prop := ∃ Al cl Ah ch, e = .returned (.tuple #[.slice Al (m + 1) cl, .slice Ah (m + 1) ch, .int .i64 0]) ∧
      Rd w' w'.heap.size Al (m + 1) (decF L) ∧ Rd w' w'.heap.size Ah (m + 1) (decF H) ∧ Below w.heap.size w w'
/-- The two rows that ByLit makes, and the net's box. -/
structure LR (w : World) (N : Nt) (A : Option Addr) (c : Nat) (lo hi : Value) (a b : Nat) (La Lb : List Nat) (wr : World) : Prop where
  ol : wr.ownsRow (w.heap.size + 1) 9 1 lo a (dl La)
  oh : wr.ownsRow (w.heap.size + 1) 9 1 hi b (dl Lb)
  ne : lo.ownBlock ≠ hi.ownBlock
  net : wr.rowIs w.heap.size 24 2 (ntF N A c)
  bl : Below w.heap.size w wr
section
variable {w : World} {N : Nt} {A : Option Addr} {c : Nat} {lo hi lo' hi' : Value} {a b : Nat} {La Lb : List Nat} {wr w' : World}
theorem LR.below (h : LR w N A c lo hi a b La Lb wr) (hb : Below wr.heap.size wr w') : LR w N A c lo hi a b La Lb w' :=
  ⟨ownsBelow h.ol hb, ownsBelow h.oh hb, h.ne, rowBelow h.net hb, Cs.Below.trans' h.bl hb h.bl.size⟩
theorem LR.nextLo (h : LR w N A c lo hi a b La Lb wr) {x : Nat} (h1 : w'.ownsRow (w.heap.size + 1) 9 1 lo' (a + 1) (dl La ++ [.string (dec x)])) (hg : wr.grownBy w' lo.ownBlock) (ho : lo'.ownBlock = lo.ownBlock ∨ lo'.ownBlock = some wr.heap.size) :
    LR w N A c lo' hi (a + 1) b (La ++ [x]) Lb w' := by
  have hs := h.bl.size
  refine ⟨by rw [dl_snoc]; exact h1, h.oh.kept hg (.inr h.ne.symm), ?_, rowGrown h.net hg (fun e => ?_), h.bl.grown hg hs fun g e => ?_⟩
  · rcases ho with ho | ho
    · rw [ho]; exact h.ne
    · rw [ho]; intro e
      have := (h.oh.lt _ e.symm).2
      omega
  · have := (h.ol.lt _ e.symm).1
    omega
  · have := (h.ol.lt _ e).1
    omega
theorem LR.nextHi (h : LR w N A c lo hi a b La Lb wr) {x : Nat} (h1 : w'.ownsRow (w.heap.size + 1) 9 1 hi' (b + 1) (dl Lb ++ [.string (dec x)])) (hg : wr.grownBy w' hi.ownBlock) (ho : hi'.ownBlock = hi.ownBlock ∨ hi'.ownBlock = some wr.heap.size) :
    LR w N A c lo hi' a (b + 1) La (Lb ++ [x]) w' := by
  have hs := h.bl.size
  refine ⟨h.ol.kept hg (.inr h.ne), by rw [dl_snoc]; exact h1, ?_, rowGrown h.net hg (fun e => ?_), h.bl.grown hg hs fun g e => ?_⟩
  · rcases ho with ho | ho
    · rw [ho]; exact h.ne
    · rw [ho]; intro e
      have := (h.ol.lt _ e).2
      omega
  · have := (h.oh.lt _ e.symm).1
    omega
  · have := (h.oh.lt _ e).1
    omega
end
set_option maxRecDepth 100000 in
set_option maxHeartbeats 8000000 in
theorem rbyLit_any (w : World) (N : Nt) (A : Option Addr) (c m : Nat) (hm : N.n = (m : Int)) (hN : NtAt w w.heap.size A N.l) (hk : cchk N = 0) :
    Calls Tryd.prog 16 #[ntV N A c] w (LitsR w m (lowL N m) (highL N m)) := by
  obtain ⟨hv, hd, hs⟩ := cchk_zero hk
  obtain ⟨hn0, hn1, hl0, hl1⟩ := vld_bounds hv
  obtain ⟨ti, hi, hz0, hz1, hz2⟩ := info_parts info_str
  have hck := fun W h => rcheck_any W N A c (by omega) h
  rw [hk] at hck
  have hsumL := fun (k : Nat) W Al Ah cl ch h1 h2 h3 => rsum_any W N A Al Ah c cl ch m (onesW m 0) (onesW m (k + 1)) hm h1 hv hd hs (onesW_ok m 0 (k + 1)) (onesW_len m 0) (onesW_len m (k + 1)) h2 h3
  have hsumH := fun (k : Nat) W Al Ah cl ch h1 h2 h3 => rsum_any W N A Al Ah c cl ch m (onesW m (k + 1)) (onesW m 0) hm h1 hv hd hs (onesW_ok m (k + 1) 0) (onesW_len m (k + 1)) (onesW_len m 0) h2 h3
  have hnumL : ∀ k : Nat, ((RF (onesW m 0) (onesW m (k + 1))).sum N).length ≤ 1 ∧ ((RF (onesW m 0) (onesW m (k + 1))).sum N).getD 0 0 = (RN ((k : Int) + 1)).sum N := fun k => by
    have h := ones_sum hv m 0 (k + 1) hm (.inl rfl)
    exact ⟨h.1, numP_get h⟩
  have hnumH : ∀ k : Nat, ((RF (onesW m (k + 1)) (onesW m 0)).sum N).length ≤ 1 ∧ ((RF (onesW m (k + 1)) (onesW m 0)).sum N).getD 0 0 = (RN (-((k : Int) + 1))).sum N := fun k => by
    have h := ones_sum hv m (k + 1) 0 hm (.inr rfl)
    rw [if_pos (by omega)] at h
    exact ⟨h.1, numP_get h⟩
  have hls := lowL_succ N
  have hhs := highL_succ N
  have hll := lowL_len N
  have hhl := highL_len N
  have hl0' : lowL N 0 = [0] := rfl
  have hh0' : highL N 0 = [0] := rfl
  obtain ⟨PL, hPL⟩ : ∃ P : Nat → List Nat, ∀ k, (RF (onesW m 0) (onesW m (k + 1))).sum N = P k := ⟨_, fun _ => rfl⟩
  obtain ⟨PH, hPH⟩ : ∃ P : Nat → List Nat, ∀ k, (RF (onesW m (k + 1)) (onesW m 0)).sum N = P k := ⟨_, fun _ => rfl⟩
  obtain ⟨VL, hVL⟩ : ∃ P : Nat → Nat, ∀ k : Nat, (RN ((k : Int) + 1)).sum N = P k := ⟨_, fun _ => rfl⟩
  obtain ⟨VH, hVH⟩ : ∃ P : Nat → Nat, ∀ k : Nat, (RN (-((k : Int) + 1))).sum N = P k := ⟨_, fun _ => rfl⟩
  obtain ⟨LL, hLL⟩ : ∃ L : Nat → List Nat, ∀ k, lowL N k = L k := ⟨_, fun _ => rfl⟩
  obtain ⟨LH, hLH⟩ : ∃ L : Nat → List Nat, ∀ k, highL N k = L k := ⟨_, fun _ => rfl⟩
  simp only [hPL, hPH, hVL, hVH, hLL, hLH] at hsumL hsumH hnumL hnumH hls hhs hll hhl hl0' hh0' ⊢
  have hat : ∀ W A c (p : List Nat) v, p.length ≤ 1 ∧ p.getD 0 0 = v → Rd W W.heap.size A p.length (decF p) → Calls Tryd.prog 34 #[.slice A p.length c, .int .i64 0] W fun e w' => e = .returned (.string (dec v)) ∧ W = w' := fun W A c p v hp h => by
    have := rat_any W A c p 0 (by omega) h
    rw [hp.2] at this
    exact this
  have HCK := Lib.hid hck
  have HSL := Lib.hid hsumL
  have HSH := Lib.hid hsumH
  have HNL := Lib.hid hnumL
  have HNH := Lib.hid hnumH
  have HLS := Lib.hid hls
  have HHS := Lib.hid hhs
  have HLL := Lib.hid hll
  have HHL := Lib.hid hhl
  have HL0 := Lib.hid hl0'
  have HH0 := Lib.hid hh0'
  have HAT := Lib.hid hat
  have hon := fun W => onesR_any W m (by omega)
  have HON := Lib.hid hon
  have hd0 := dec_zero
  have HD0 := Lib.hid hd0
  clear hck hsumL hsumH hnumL hnumH hls hhs hll hhl hl0' hh0' hat hon hd0 hPL hPH hVL hVH hLL hLH hv hd hs hk
  have hnet := ntNew w N A c 24 _ rfl
  have hbl : Below w.heap.size w (w.alloc (.cells #[.int .i64 N.n, .slice A N.l.length c] 24)) := (Below.refl _ _).alloc (Nat.le_refl _) _
  obtain ⟨n, l⟩ := N
  simp only at hm hN hl0 hl1
  subst hm
  go_enter Tryd.func16, Tryd.ntmps16
  go_wp2_with fail
  refine (HCK.out _ ((hN.below hbl).more hbl.size)).mono ?_
  rintro e w5 ⟨rfl, hb5⟩
  replace hnet := rowBelow hnet hb5
  replace hbl := Cs.Below.trans' hbl hb5 hbl.size
  have hg := hnet.lt
  have ho1 := World.ownsRow_lit (base := w.heap.size + 1) (e := 9) (size := 1) w5 #[.string ⟨#[48]⟩] 1 (by omega) (by unfold maxLen; omega) rfl
  have ho2 := World.ownsRow_lit (base := w.heap.size + 1) (e := 9) (size := 1) (w5.alloc (.cells #[.string ⟨#[48]⟩] 9)) #[.string ⟨#[48]⟩] 1 (by simp; omega) (by unfold maxLen; omega) rfl
  replace ho1 := ho1.alloc (.cells #[.string ⟨#[48]⟩] 9)
  rw [show (w5.alloc (.cells #[.string ⟨#[48]⟩] 9)).heap.size = w5.heap.size + 1 by simp] at ho2
  have hn2 := (hnet.alloc (.cells #[.string ⟨#[48]⟩] 9)).alloc (.cells #[.string ⟨#[48]⟩] 9)
  have hb2 := (hbl.alloc (by omega) (.cells #[.string ⟨#[48]⟩] 9)).alloc (by simp; omega) (.cells #[.string ⟨#[48]⟩] 9)
  have HO1 := Lib.hid ho1
  have HO2 := Lib.hid ho2
  have HN2 := Lib.hid hn2
  have HB2 := Lib.hid hb2
  clear ho1 ho2 hn2 hb2 hnet hbl hb5 HCK
  go_wp2
  go_loopw [6, 7, 8] (fun lo hi t wr => ∃ k : Nat, k ≤ m ∧ t = .int .i64 ((k : Int) + 1) ∧ LR w ⟨(m : Int), l⟩ A c lo hi (k + 1) (k + 1) (LL k) (LH k) wr) (fun _ _ t _ => m + 1 - (intOf t).toNat)
  case atStart =>
    refine ⟨0, by omega, rfl, ?_, ?_, ?_, HN2.out, HB2.out⟩
    · rw [HL0.out]; unfold dl; rw [List.map_cons, List.map_nil, HD0.out]; exact HO1.out
    · rw [HH0.out]; unfold dl; rw [List.map_cons, List.map_nil, HD0.out]; exact HO2.out
    · simp [Value.ownBlock]
  case round =>
    clear HO1 HO2 HN2 HB2 HL0 HH0 HD0
    obtain ⟨k, hk, rfl, hE⟩ := hrel
    obtain ⟨hc1, hc2⟩ := ntCells hE.net
    have hgw := hE.net.lt
    by_cases hlt : k < m
    · have hi1 : (k : Int) + 1 ≤ (m : Int) := by omega
      have hi2 : (0 : Int) ≤ (k : Int) + 1 := by omega
      have hi3 : (k : Int) + 1 < ((m : Int) + 1) := by omega
      go_wp2_with fail
      go_cut [9, 10] from 24 to 29 (fun a b wx => ∃ ga ca gb cb, a = .slice (some ⟨ga, 0, none⟩) (m + 1) ca ∧ b = .slice (some ⟨gb, 0, none⟩) (m + 1) cb ∧ ga ≠ gb ∧ WtR wr.heap.size a (m + 1) (onesW m 0) wx ∧ WtR wr.heap.size b (m + 1) (onesW m 0) wx ∧ Below wr.heap.size wr wx)
      case first =>
        have hbx : Below wr.heap.size wr wr.drew := belowDrewN (Below.refl _ _) 1
        have HBX := Lib.hid hbx
        have c1 : wr.drew.cell? ⟨w.heap.size, 0, none⟩ = some (.int .i64 (m : Int)) := hc1
        clear hbx
        go_region_held3 (fun w' => w'.cell? ⟨w.heap.size, 0, none⟩ = some (.int .i64 (m : Int))) (first | exact c1 | go_keep)
          (first
            | (go_simp
               go_at_call 36
               have hmark := HR9
               (with_reducible refine (HON.out _).mono ?_)
               rintro e' w10 ⟨g10, d10, rfl, hg10, hr10, hb10⟩
               have c1 := below_cell hb10 (Nat.lt_of_lt_of_le hgw HZ9.out) c1
               have HR9b := Lib.hid (HR9.out.below hb10)
               have HR10 := Lib.hid (hr10.more HZ9.out)
               have HG10 := Lib.hid (Nat.ne_of_lt (Nat.lt_of_lt_of_le HG9.out hg10))
               have HB10 := Lib.hid (Cs.Below.trans' HB9.out hb10 HB9.out.size)
               clear hr10 hmark hb10 hg10)
            | (go_simp
               go_at_call 36
               (with_reducible refine (HON.out _).mono ?_)
               rintro e' w9 ⟨g9, d9, rfl, hg9, hr9, hb9⟩
               have c1 := below_cell hb9 hgw c1
               have HR9 := Lib.hid hr9
               have HG9 := Lib.hid hr9.rps.2.2
               have HB9 := Lib.hid (Cs.Below.trans' HBX.out hb9 HBX.out.size)
               have HZ9 := Lib.hid HB9.out.size
               clear hr9 hb9 hg9))
        all_goals
          try go_wp2
          go_meet
          case rel =>
            first
              | exact ⟨g9, d9, g10, d10, rfl, rfl, HG10.out, HR9b.out, HR10.out, HB10.out⟩
              | exact ⟨g10, d10, g9, d9, rfl, rfl, HG10.out.symm, HR10.out, HR9b.out, HB10.out⟩
      case rest =>
        obtain ⟨ga, ca, gb, cb, rfl, rfl, hab, hra, hrb, hbx⟩ := hcut
        obtain ⟨hole, ⟨uo, hco⟩, hfo⟩ := hrb.hole (j := k + 1) (by omega)
        have hoth := hra.other (g := gb) (j := k + 1) (u := .slice none 0 0) (by simp [Value.ownBlock]; exact hab) hrb.type
        rw [onesW_hole] at hole
        have hgg := hrb.rps.2.1
        have hbs := hbx.setCell (p := ⟨gb, k + 1, none⟩) hgg (.slice none 0 0)
        have hES := hE.below hbs
        obtain ⟨hcs1, hcs2⟩ := ntCells hES.net
        have HES := Lib.hid hES
        have HOLE := Lib.hid hole.rps.1
        have HOTH := Lib.hid hoth.rps.1
        have HNT := Lib.hid ((hN.below hES.bl).more hES.bl.size)
        clear hole hoth hgg hbs hES hra hrb hab hbx
        have HLE := Lib.hid hE
        clear hE
        go_wp2_with (first
          | (go_at_call 35
             (with_reducible refine (HSL.out k _ (some ⟨ga, 0, none⟩) (some ⟨gb, 0, none⟩) ca cb HNT.out HOTH.out HOLE.out).mono ?_)
             rintro e' w11 ⟨B11, d11, rfl, hd11, hr11, hb11⟩
             have HR11 := Lib.hid hr11
             have hE11 := HES.out.below hb11
             clear hr11)
          | (go_at_call 34
             (with_reducible refine (HAT.out _ B11 d11 _ _ (HNL.out k) HR11.out.rd).mono ?_)
             rintro e' w12 ⟨rfl, rfl⟩
             have hE12 := hE11.below ((Below.refl _ _).alloc (Nat.le_refl _) (.cells #[.string (dec (VL k))] 9)))
          | (at_builtin; refine Go.wpList_append_own_at _ rfl _ _ 38 rfl (w.heap.size + 1) 9 ti (.string ⟨#[]⟩) 1 16 Tryd.underlying38 hi hz0 hz1 hz2 rfl (by decide) _ _ _ rfl hE12.ol ⟨w11.heap.size, 0, none⟩ 1 1 [.string (dec (VL k))] rfl rfl newOne Cs.oneStr (by unfold maxLen; omega) (by omega) (by simp; have := hE11.net.lt; omega) ?_; intro v21 w21 hown21 hgr21 _ hor21))
        have hE21 := hE12.nextLo hown21 hgr21 hor21
        rw [← HLS.out] at hE21
        clear hown21 hgr21 hor21 hE12 hE11 HR11 HES HOLE HOTH HNT HLE hb11 hd11
        obtain ⟨hc1, hc2⟩ := ntCells hE21.net
        have hgw := hE21.net.lt
        clear hcs1 hcs2 hco hfo
        go_cut [9, 10] from 41 to 46 (fun a b wx => ∃ ga ca gb cb, a = .slice (some ⟨ga, 0, none⟩) (m + 1) ca ∧ b = .slice (some ⟨gb, 0, none⟩) (m + 1) cb ∧ ga ≠ gb ∧ WtR w21.heap.size a (m + 1) (onesW m 0) wx ∧ WtR w21.heap.size b (m + 1) (onesW m 0) wx ∧ Below w21.heap.size w21 wx)
        case first =>
          have hbx : Below w21.heap.size w21 w21.drew := belowDrewN (Below.refl _ _) 1
          have HBX := Lib.hid hbx
          have c1 : w21.drew.cell? ⟨w.heap.size, 0, none⟩ = some (.int .i64 (m : Int)) := hc1
          clear hbx
          go_region_held3 (fun w' => w'.cell? ⟨w.heap.size, 0, none⟩ = some (.int .i64 (m : Int))) (first | exact c1 | go_keep)
            (first
              | (go_simp
                 go_at_call 36
                 have hmark := HR9
                 (with_reducible refine (HON.out _).mono ?_)
                 rintro e' w10 ⟨g10, d10, rfl, hg10, hr10, hb10⟩
                 have c1 := below_cell hb10 (Nat.lt_of_lt_of_le hgw HZ9.out) c1
                 have HR9b := Lib.hid (HR9.out.below hb10)
                 have HR10 := Lib.hid (hr10.more HZ9.out)
                 have HG10 := Lib.hid (Nat.ne_of_lt (Nat.lt_of_lt_of_le HG9.out hg10))
                 have HB10 := Lib.hid (Cs.Below.trans' HB9.out hb10 HB9.out.size)
                 clear hr10 hmark hb10 hg10)
              | (go_simp
                 go_at_call 36
                 (with_reducible refine (HON.out _).mono ?_)
                 rintro e' w9 ⟨g9, d9, rfl, hg9, hr9, hb9⟩
                 have c1 := below_cell hb9 hgw c1
                 have HR9 := Lib.hid hr9
                 have HG9 := Lib.hid hr9.rps.2.2
                 have HB9 := Lib.hid (Cs.Below.trans' HBX.out hb9 HBX.out.size)
                 have HZ9 := Lib.hid HB9.out.size
                 clear hr9 hb9 hg9))
          all_goals
            try go_wp2
            go_meet
            case rel =>
              first
                | exact ⟨g9, d9, g10, d10, rfl, rfl, HG10.out, HR9b.out, HR10.out, HB10.out⟩
                | exact ⟨g10, d10, g9, d9, rfl, rfl, HG10.out.symm, HR10.out, HR9b.out, HB10.out⟩
        case rest =>
          obtain ⟨ga, ca, gb, cb, rfl, rfl, hab, hra, hrb, hbx⟩ := hcut
          obtain ⟨hole, ⟨uo, hco⟩, hfo⟩ := hra.hole (j := k + 1) (by omega)
          have hoth := hrb.other (g := ga) (j := k + 1) (u := .slice none 0 0) (by simp [Value.ownBlock]; exact Ne.symm hab) hra.type
          rw [onesW_hole] at hole
          have hgg := hra.rps.2.1
          have hbs := hbx.setCell (p := ⟨ga, k + 1, none⟩) hgg (.slice none 0 0)
          have hES := hE21.below hbs
          obtain ⟨hcs1, hcs2⟩ := ntCells hES.net
          have HES := Lib.hid hES
          have HOLE := Lib.hid hole.rps.1
          have HOTH := Lib.hid hoth.rps.1
          have HNT := Lib.hid ((hN.below hES.bl).more hES.bl.size)
          clear hole hoth hgg hbs hES hra hrb hab hbx
          have HLE := Lib.hid hE21
          clear hE21
          go_wp2_with (first
            | (go_at_call 35
               (with_reducible refine (HSH.out k _ (some ⟨ga, 0, none⟩) (some ⟨gb, 0, none⟩) ca cb HNT.out HOLE.out HOTH.out).mono ?_)
               rintro e' w11 ⟨B11, d11, rfl, hd11, hr11, hb11⟩
               have HR11 := Lib.hid hr11
               have hE11 := HES.out.below hb11
               clear hr11)
            | (go_at_call 34
               (with_reducible refine (HAT.out _ B11 d11 _ _ (HNH.out k) HR11.out.rd).mono ?_)
               rintro e' w12 ⟨rfl, rfl⟩
               have hE12 := hE11.below ((Below.refl _ _).alloc (Nat.le_refl _) (.cells #[.string (dec (VH k))] 9)))
            | (at_builtin; refine Go.wpList_append_own_at _ rfl _ _ 38 rfl (w.heap.size + 1) 9 ti (.string ⟨#[]⟩) 1 16 Tryd.underlying38 hi hz0 hz1 hz2 rfl (by decide) _ _ _ rfl hE12.oh ⟨w11.heap.size, 0, none⟩ 1 1 [.string (dec (VH k))] rfl rfl newOne Cs.oneStr (by unfold maxLen; omega) (by omega) (by simp; have := hE11.net.lt; omega) ?_; intro v22 w22 hown22 hgr22 _ hor22))
          have hE22 := hE12.nextHi hown22 hgr22 hor22
          rw [← HHS.out] at hE22
          clear hown22 hgr22 hor22 hE12 hE11 HR11 HES HOLE HOTH HNT HLE hb11 hd11
          go_wp2
          go_roundw
          case rel => exact ⟨k + 1, by omega, by go_num, hE22⟩
          case measure => simp [intOf]; omega
    · obtain rfl : k = m := by omega
      have hi1 : ¬ ((k : Int) + 1 ≤ (k : Int)) := by omega
      have hform : ∀ (u : Value) (L : List Nat), L.length = k + 1 → wr.ownsRow (w.heap.size + 1) 9 1 u (k + 1) (dl L) → ∃ Al cl, u = .slice Al (k + 1) cl ∧ Rd wr wr.heap.size Al (k + 1) (decF L) := fun u L hL h => by
        obtain ⟨g, cap, rfl, _, _⟩ := ownsForm h (by omega)
        exact ⟨_, cap, rfl, Rd.of_own h fun i hi => dl_get L i (by omega)⟩
      have hbl := hE.bl
      have hlo := hE.ol
      have hhi := hE.oh
      clear hE
      obtain ⟨Al, cl, rfl, q1⟩ := hform _ _ (HLL.out k) hlo
      obtain ⟨Ah, ch, rfl, q2⟩ := hform _ _ (HHL.out k) hhi
      go_wp2
      go_ret3
      exact ⟨Al, cl, Ah, ch, rfl, q1, q2, hbl⟩
end Go.Proofs.YtcgejdlfiemjaaaDoor
