/- The walk of the reference's Vars. -/
import Derived.Test.YtcgejdlfiemjaaaDoorR3
import Derived.Test.YtcgejdlfiemjaaaDoorS1
import Derived.Laws.AppendOwn
set_option linter.unusedSimpArgs false
set_option linter.unusedVariables false
open Go Go.RowKit Cs
namespace Cs
/-- The cells of sets, one behind the other. -/
def flat : List Nat → List Value
  | [] => []
  | s :: L => .int .u64 (lo s : Int) :: .int .u64 (hi s : Int) :: flat L
theorem flat_snoc (s : Nat) : ∀ L : List Nat, flat (L ++ [s]) = flat L ++ [.int .u64 (lo s : Int), .int .u64 (hi s : Int)]
  | [] => rfl
  | x :: L => by simp only [List.cons_append, flat, flat_snoc s L]
theorem flat_len : ∀ L : List Nat, (flat L).length = L.length * 2
  | [] => rfl
  | x :: L => by simp only [flat, List.length_cons, flat_len L]; omega
theorem flat_get : ∀ (L : List Nat) (i : Nat), i < L.length * 2 → (flat L)[i]? = some (setsF L i)
  | [], i, h => by simp at h
  | s :: L, 0, _ => by simp [flat, setsF]
  | s :: L, 1, _ => by simp [flat, setsF]
  | s :: L, i + 2, h => by
    have h2 := flat_get L i (by simp at h; omega)
    simp only [flat, List.getElem?_cons_succ]
    rw [h2]
    unfold setsF
    rw [show (i + 2) % 2 = i % 2 by omega, show (i + 2) / 2 = i / 2 + 1 by omega, List.getD_cons_succ]
end Cs
namespace Go.Proofs.YtcgejdlfiemjaaaDoor
theorem twoInt {a b : Int} (u : Value) (h : u ∈ [Value.int .u64 a, Value.int .u64 b]) : u.oneCell' = true := by
  simp at h; rcases h with rfl | rfl <;> rfl
theorem newTwo {w : World} {a b : Value} {t : TypeId} (j : Nat) (u : Value) (h : ([a, b] : List Value)[j]? = some u) : (w.alloc (.cells #[a, b] t)).cell? ((⟨w.heap.size, 0, none⟩ : Addr).add j) = some u := by
  have hr := pairNew w a b t _ rfl
  match j, h with
  | 0, h => simp at h; subst h; exact hr.cell (i := 0) (by decide)
  | 1, h => simp at h; subst h; exact hr.cell (i := 1) (by decide)
theorem setPair {w : World} {g : Nat} {t : TypeId} {s : Nat} (h : w.rowIs g t 2 (setsF [s])) : w.cell? ⟨g, 0, none⟩ = some (.int .u64 (lo s : Int)) ∧ w.cell? ⟨g, 1, none⟩ = some (.int .u64 (hi s : Int)) ∧ w.frozen? ⟨g, 0, none⟩ = false ∧ w.frozen? ⟨g, 1, none⟩ = false := by
  have := setsCells h 0 (by decide)
  simpa using this
set_option maxRecDepth 100000 in
set_option maxHeartbeats 2000000 in
theorem rvars_any (w : World) (N : Nt) (A : Option Addr) (c : Nat) (hN : NtAt w w.heap.size A N.l) (hv : vld N = true) :
    Calls Tryd.prog 67 #[ntV N A c] w fun e w' => ∃ g cap, e = .returned (.slice (some ⟨g, 0, none⟩) N.l.length cap) ∧ w.heap.size ≤ g ∧ Rd w' w'.heap.size (some ⟨g, 0, none⟩) (N.l.length * 2) (setsF (own N.l)) ∧ Below w.heap.size w w' := by
  obtain ⟨hn0, hn1, hl0, hl1⟩ := vld_bounds hv
  obtain ⟨ti, hti, ht0, ht1, ht2⟩ := info_parts info_set
  have hck := fun W h => rnvalid_any W N A c (by omega) h
  simp only [hv] at hck
  have hfm := fun k hk => vld_formed hv k hk
  obtain ⟨n, l⟩ := N
  simp only at hN hn0 hn1 hl0 hl1 hfm
  have HF := Lib.hid hfm
  have HCK := Lib.hid hck
  clear hfm hv hck
  have hbox := ntNew w ⟨n, l⟩ A c 24 _ rfl
  have hbl : Below w.heap.size w (w.alloc (.cells #[.int .i64 n, .slice A l.length c] 24)) := (Below.refl _ _).alloc (Nat.le_refl _) _
  go_enter Tryd.func67, Tryd.ntmps67
  go_wp2_with fail
  refine (HCK.out _ ((hN.below hbl).more hbl.size)).mono ?_
  rintro e w5 ⟨rfl, hb5⟩
  replace hbox := rowBelow hbox hb5
  replace hbl := Cs.Below.trans' hbl hb5 hbl.size
  clear HCK hb5
  go_wp2
  go_loopw [3, 4] (fun out t wr => ∃ k : Nat, k ≤ l.length ∧ t = .int .i64 k ∧ wr.ownsRow w.heap.size 59 2 out k (flat (own (l.take k))) ∧ wr.rowIs w.heap.size 24 2 (ntF ⟨n, l⟩ A c) ∧ Below w.heap.size w wr) (fun _ t _ => l.length - (intOf t).toNat)
  case atStart => exact ⟨0, by omega, rfl, World.ownsRow_nil _ _ _ _, hbox, hbl⟩
  case round =>
    clear hbox hbl
    obtain ⟨k, hk, rfl, hown, hbox, hbl⟩ := hrel
    obtain ⟨hc1, hc2⟩ := ntCells hbox
    have hg := hbox.lt
    by_cases hlt : k < l.length
    · obtain ⟨b, o, rfl, hbB, hcs⟩ := hN (by omega)
      have hnd := hcs k hlt
      clear hcs
      have ht := scan_take ownStep l k hlt
      have hfk := HF.out k hlt
      obtain ⟨x, hx⟩ : ∃ x, l[k] = x := ⟨_, rfl⟩
      rw [hx] at hnd ht hfk
      have HT := Lib.hid ht; clear ht hx
      have hin := formed_ins hfk
      have HIN := Lib.hid hin; clear hin hfk
      obtain ⟨hk1, hk2, ⟨A', c', hk3, hrd⟩, hr1, hr2, hr3, hr4⟩ := hnd
      replace hk2 := below_cell hbl hbB hk2
      have HK3 := Lib.hid hk3
      replace hk3 := below_cell hbl hbB hk3
      have HRD := Lib.hid hrd; clear hrd
      obtain ⟨L, hL⟩ : ∃ L, own (l.take k) = L := ⟨_, rfl⟩
      have hLl : L.length = k := by rw [← hL]; exact scan_len _ _ _ (by omega)
      rw [hL] at hown
      change Hid (own (l.take (k + 1)) = own (l.take k) ++ [ownStep (own (l.take k)) x]) at HT
      rw [hL] at HT
      have HLL := Lib.hid hLl
      clear hL hLl
      obtain ⟨hl1, hl2⟩ := hr2
      have hlv := litVar_le x.lit
      obtain ⟨v, hv⟩ : ∃ v, litVar x.lit = v := ⟨_, rfl⟩
      rw [hv] at hlv
      have hva := fun W => rvar_any W x.lit hl1 hl2
      simp only [hv] at hva
      have HVA := Lib.hid hva
      have HV := Lib.hid hv
      clear hva hv hk1
      have hs0 : (wr.alloc (.cells #[.int .u64 0, .int .u64 0] 59)).rowIs wr.heap.size 59 2 (setsF [0]) := (pairNew wr _ _ _ _ rfl).congr fun i hi => by
        have : i = 0 ∨ i = 1 := by omega
        rcases this with rfl | rfl <;> rfl
      have hown1 := hown.alloc (.cells #[.int .u64 0, .int .u64 0] 59)
      have hbox1 := hbox.alloc (.cells #[.int .u64 0, .int .u64 0] 59)
      have hbl1 := hbl.alloc hbl.size (.cells #[.int .u64 0, .int .u64 0] 59)
      have hz1 := hbl1.size
      have hal : Below wr.heap.size wr (wr.alloc (.cells #[.int .u64 0, .int .u64 0] 59)) := (Below.refl _ _).alloc (Nat.le_refl _) _
      have hbr : b < wr.heap.size := by omega
      replace hk2 := below_cell hal hbr hk2
      replace hk3 := below_cell hal hbr hk3
      obtain ⟨hs1, hs2, hs3, hs4⟩ := setPair hs0
      have hou : ∀ g, u3.ownBlock = some g → w.heap.size ≤ g ∧ g < wr.heap.size := fun g hg => hown.lt g hg
      have HOU := Lib.hid hou
      have hi0 : (0 : Int) ≤ (k : Int) := by omega
      have hi1 : (k : Int) < (l.length : Int) := by omega
      have hcs : v = 0 ∨ (1 ≤ v ∧ v ≤ 64) ∨ (65 ≤ v ∧ v ≤ 128) := by omega
      have hstart : ∀ (W : World) (a1 a2 : Int), W = wr.alloc (.cells #[.int .u64 a1, .int .u64 a2] 59) → a1 = (lo (wth 0 v) : Int) → a2 = (hi (wth 0 v) : Int) →
          W.rowIs wr.heap.size 59 2 (setsF [wth 0 v]) ∧ W.ownsRow w.heap.size 59 2 u3 k (flat L) ∧ W.rowIs w.heap.size 24 2 (ntF ⟨n, l⟩ (some ⟨b, o, none⟩) c) ∧ Below w.heap.size w W := fun W a1 a2 hW e1 e2 => by
        subst hW; subst e1; subst e2
        refine ⟨(pairNew wr _ _ _ _ rfl).congr fun i hi => ?_, hown.alloc _, hbox.alloc _, hbl.alloc hbl.size _⟩
        have : i = 0 ∨ i = 1 := by omega
        rcases this with rfl | rfl <;> rfl
      have HSTART := Lib.hid hstart
      clear hstart hown1 hbox1 hbl1 hs0 hs3 hs4 hown hal
      obtain ⟨v0, hv0⟩ : ∃ v0, v0 = v := ⟨_, rfl⟩
      rw [← hv0] at HSTART HV
      have HV0 := Lib.hid hv0
      obtain ⟨W0, rfl⟩ : ∃ W0, W0 = wr := ⟨wr, rfl⟩
      rcases hcs with h0 | ⟨v1, v2⟩ | ⟨v1, v2⟩
      all_goals (first
        | (subst h0
           have e0 : Hid (lo (wth 0 v0) = 0 ∧ hi (wth 0 v0) = 0) := Lib.hid (by rw [hv0]; decide)
           clear hv0
           go_wp2_with (go_at_call 90; (with_reducible refine (HVA.out _).mono ?_); rintro e w6 ⟨rfl, rfl⟩)
           obtain ⟨q1, q2, q3, q4⟩ := HSTART.out _ 0 0 rfl (by rw [e0.out.1]; rfl) (by rw [e0.out.2]; rfl))
        | (have e1 : (v - 1) / 64 = 0 := by omega
           have e2 : (v - 1) % 64 = v - 1 := by omega
           have e3 : wth 0 v = 2 ^ (v.toNat - 1) := by unfold wth; rw [if_pos (by omega), Nat.zero_or]
           have e4 : lo (wth 0 v) = 2 ^ (v.toNat - 1) := by rw [e3, lo_two, if_pos (by omega)]
           have e5 : hi (wth 0 v) = 0 := by rw [e3, hi_two _ (by omega), if_pos (by omega)]
           have e6 := wrap_two (v.toNat - 1) (by omega)
           rw [← e4] at e6
           have e7 : wth 0 v = wth 0 v0 := by rw [hv0]
           rw [e7] at e4 e5 e6
           clear hv0 e7
           have E4 := Lib.hid e4
           have E5 := Lib.hid e5
           have E6 := Lib.hid e6
           clear e3 e4 e5 e6
           go_wp2_with (go_at_call 90; (with_reducible refine (HVA.out _).mono ?_); rintro e w6 ⟨rfl, rfl⟩)
           obtain ⟨q1, q2, q3, q4⟩ := HSTART.out _ (IntKind.u64.wrap (2 ^ (v.toNat - 1))) 0 rfl E6.out (by rw [E5.out]; rfl))
        | (have e1 : (v - 1) / 64 = 1 := by omega
           have e2 : (v - 1) % 64 = v - 65 := by omega
           have e3 : wth 0 v = 2 ^ (v.toNat - 1) := by unfold wth; rw [if_pos (by omega), Nat.zero_or]
           have e4 : hi (wth 0 v) = 2 ^ (v - 65).toNat := by rw [e3, hi_two _ (by omega), if_neg (by omega)]; congr 1; omega
           have e5 : lo (wth 0 v) = 0 := by rw [e3, lo_two, if_neg (by omega)]
           have e6 := wrap_two (v - 65).toNat (by omega)
           rw [← e4] at e6
           have e7 : wth 0 v = wth 0 v0 := by rw [hv0]
           rw [e7] at e4 e5 e6
           clear hv0 e7
           have E4 := Lib.hid e4
           have E5 := Lib.hid e5
           have E6 := Lib.hid e6
           clear e3 e4 e5 e6
           go_wp2_with (go_at_call 90; (with_reducible refine (HVA.out _).mono ?_); rintro e w6 ⟨rfl, rfl⟩)
           obtain ⟨q1, q2, q3, q4⟩ := HSTART.out _ 0 (IntKind.u64.wrap (2 ^ (v - 65).toNat)) rfl (by rw [E5.out]; rfl) E6.out))
      all_goals
        clear HSTART hs1 hs2 hk2 hou
        go_loopw [7] (fun t wq => ∃ (m s : Nat), m ≤ x.ins.length ∧ t = .int .i64 m ∧ Hid ((x.ins.take m).foldl (fun s k => s ||| L.getD k.toNat 0) (wth 0 v0) = s) ∧ wq.rowIs W0.heap.size 59 2 (setsF [s]) ∧ wq.ownsRow w.heap.size 59 2 u3 k (flat L) ∧ wq.rowIs w.heap.size 24 2 (ntF ⟨n, l⟩ (some ⟨b, o, none⟩) c) ∧ Below w.heap.size w wq ∧ W0.heap.size < wq.heap.size) (fun t _ => x.ins.length - (intOf t).toNat)
        case atStart => exact ⟨0, _, by omega, rfl, rfl, q1, q2, q3, q4, by simp⟩
        case round =>
          clear q1 q2 q3 q4
          obtain ⟨m, s, hm, rfl, HP, hset, hown, hbox, hbl, hzq⟩ := hrel
          obtain ⟨hc1, hc2⟩ := ntCells hbox
          obtain ⟨hs1, hs2, hs3, hs4⟩ := setPair hset
          have hk3 : wr.cell? ⟨b, o + k * 3 + 2, none⟩ = some (.slice A' x.ins.length c') := below_cell hbl hbB HK3.out
          by_cases hmlt : m < x.ins.length
          · obtain ⟨b', o', rfl, hbB', hcs⟩ := HRD.out (by omega)
            have hc := below_cell hbl hbB' (hcs m hmlt)
            clear hcs
            unfold intF at hc
            obtain ⟨j, hj1, hj2⟩ := HIN.out m hmlt
            rw [hj1] at hc
            have htk : x.ins.take (m + 1) = x.ins.take m ++ [(j : Int)] := by
              rw [List.take_succ_eq_append_getElem hmlt]
              congr 2
              rw [← hj1]; simp [List.getD, hmlt]
            obtain ⟨y, hy⟩ : ∃ y, L.getD j 0 = y := ⟨_, rfl⟩
            have hfo : (x.ins.take (m + 1)).foldl (fun s k => s ||| L.getD k.toNat 0) (wth 0 v0) = s ||| y := by
              rw [htk, List.foldl_append, HP.out]
              show s ||| L.getD (j : Int).toNat 0 = _
              rw [Int.toNat_natCast, hy]
            have HFO := Lib.hid hfo
            obtain ⟨gr, cr, rfl, hgr1, hgr2⟩ := ownsForm hown (by omega)
            have hle := HLL.out
            have hj3 : j * 2 < L.length * 2 := by omega
            have hj4 : j * 2 + 1 < L.length * 2 := by omega
            have ho1 : wr.cell? ⟨gr, j * 2, none⟩ = some (.int .u64 (lo y : Int)) := by
              rw [hown.cellAt _ (by omega), flat_get L _ hj3]; unfold setsF; rw [if_pos (by omega), show j * 2 / 2 = j by omega, hy]
            have ho2 : wr.cell? ⟨gr, j * 2 + 1, none⟩ = some (.int .u64 (hi y : Int)) := by
              rw [hown.cellAt _ (by omega), flat_get L _ hj4]; unfold setsF; rw [if_neg (by omega), show (j * 2 + 1) / 2 = j by omega, hy]
            have h1 := u64_or_nat (lo s) (lo y) (lo_lt s) (lo_lt y)
            have h2 := u64_or_nat (hi s) (hi y) (hi_lt s) (hi_lt y)
            rw [← lo_or] at h1
            rw [← hi_or] at h2
            have j0 : (0 : Int) ≤ (j : Int) := by omega
            have j1 : (j : Int) < (k : Int) := by omega
            have m0 : (0 : Int) ≤ (m : Int) := by omega
            have m1 : (m : Int) < (x.ins.length : Int) := by omega
            have hne : W0.heap.size ≠ wr.heap.size := by omega
            have hset0 := hset
            clear hj1 htk hy hfo hle hj3 hj4 hset
            go_wp2
            have hzq2 := hbl.size
            have hset2 : ∀ (W : World), W = ((wr.setCell ⟨W0.heap.size, 0, none⟩ (.int .u64 (lo (s ||| y) : Int))).setCell ⟨W0.heap.size, 1, none⟩ (.int .u64 (hi (s ||| y) : Int))).alloc (.cells #[.int .u64 (lo y : Int), .int .u64 (hi y : Int)] 59) →
                W.rowIs W0.heap.size 59 2 (setsF [s ||| y]) ∧ W.ownsRow w.heap.size 59 2 (.slice (some ⟨gr, 0, none⟩) k cr) k (flat L) ∧ W.rowIs w.heap.size 24 2 (ntF ⟨n, l⟩ (some ⟨b, o, none⟩) c) ∧ Below w.heap.size w W ∧ W0.heap.size < W.heap.size := fun W hW => by
              subst hW
              obtain ⟨hgw1, hgw2⟩ := HOU.out gr rfl
              have hng : (Value.slice (some ⟨gr, 0, none⟩) k cr).ownBlock ≠ some W0.heap.size := fun e => by
                have e2 : gr = W0.heap.size := by injection e
                omega
              refine ⟨World.rowIs.alloc (((hset0.set 0 _).set 1 _).congr fun i hi => ?_) _, (ownsRow_setCell_other (ownsRow_setCell_other hown hng _) hng _).alloc _, ((hbox.setOther (by simp; omega) _).setOther (by simp; omega) _).alloc _, ((hbl.setCell (by simp; omega) _).setCell (by simp; omega) _).alloc (by simp; omega) _, by simp; omega⟩
              have : i = 0 ∨ i = 1 := by omega
              rcases this with rfl | rfl <;> rfl
            obtain ⟨p1, p2, p3, p4, p5⟩ := hset2 _ rfl
            go_roundw
            case rel => exact ⟨m + 1, s ||| y, by omega, by go_num, HFO.out, p1, p2, p3, p4, p5⟩
            case measure => simp [intOf]; omega
          · obtain rfl : m = x.ins.length := by omega
            have hst : ownStep L x = s := by
              have := HP.out
              rw [List.take_length] at this
              unfold ownStep
              rw [HV.out]; exact this
            have hnx := HT.out
            rw [hst] at hnx
            have HNX := Lib.hid hnx
            have hle := HLL.out
            clear hst hnx
            have hzq2 := hbl.size
            have hlt0 : ∀ k, u3.ownBlock = some k → w.heap.size ≤ k := fun k hk => (HOU.out k hk).1
            have hnb : u3.ownBlock ≠ some w.heap.size := fun e => by
              rcases hown.2 with ⟨rfl, _⟩ | ⟨g, cap, cur, rfl, _, hgb, _⟩
              · cases e
              · have e2 : g = w.heap.size := by injection e
                subst e2
                have h1 := rowArr hbox
                rw [hgb] at h1
                injection h1 with h1
                injection h1 with _ h2 _
                cases h2
            go_wp2_with (at_builtin; refine wpList_append_own _ rfl _ _ 96 rfl w.heap.size 59 ti (.agg #[.int .u64 0, .int .u64 0]) 2 16 Tryd.underlying96 hti ht0 ht1 ht2 rfl (by decide) _ _ _ rfl (hown.alloc _) ⟨wr.heap.size, 0, none⟩ 1 1 [.int .u64 (lo s : Int), .int .u64 (hi s : Int)] rfl rfl newTwo twoInt (by unfold maxLen; omega) (by omega) (by simp; omega) ?_; intro v' w3 hown3 hgr3 _)
            have hbl3 := (hbl.alloc hbl.size _).grown hgr3 (by simp; omega) (fun k e => hlt0 k e)
            have hbox3 := rowGrown (hbox.alloc _) hgr3 (fun e => hnb e.symm)
            rw [← flat_snoc] at hown3
            rw [← HNX.out] at hown3
            go_wp2
            go_roundw
            case rel => exact ⟨k + 1, by omega, by go_num, hown3, hbox3, hbl3⟩
            case measure => simp [intOf]; omega
    · obtain rfl : k = l.length := by omega
      rw [List.take_length] at hown
      obtain ⟨gr, cr, rfl, hgr1, hgr2⟩ := ownsForm hown (by omega)
      have hol := own_len l
      have hrd : Rd wr wr.heap.size (some ⟨gr, 0, none⟩) (l.length * 2) (setsF (own l)) := fun _ => ⟨gr, 0, rfl, hgr2, fun i hi => by rw [Nat.zero_add, hown.cellAt i hi, flat_get _ i (by omega)]⟩
      clear hlt hown hol
      go_wp2
      go_ret
      exact ⟨gr, ⟨cr, rfl⟩, hgr1, hrd, hbl⟩
end Go.Proofs.YtcgejdlfiemjaaaDoor
