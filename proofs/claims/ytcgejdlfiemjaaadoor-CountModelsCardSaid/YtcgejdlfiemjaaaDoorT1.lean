/- The truth of nets, as plain data. The walks of the reference's Holds, Truth and Eval. -/
import Derived.Test.YtcgejdlfiemjaaaDoorR9
set_option linter.unusedSimpArgs false
set_option linter.unusedVariables false
open Go Go.RowKit Cs
namespace Cs
/-- Whether a literal is true in s. -/
def hld (s : Nat) (l : Int) : Bool := decide (litVar l ≠ 0) && (s.testBit ((litVar l).toNat - 1) == decide (0 < l))
def evStart (s : Nat) (x : Nd) : Bool := decide (x.kind = 1) || decide (x.kind = 3) || (decide (x.kind = 2) && hld s x.lit)
def evIn (acc : List Bool) (x : Nd) (b : Bool) (k : Int) : Bool := if x.kind = 3 then b && acc.getD k.toNat false else b || acc.getD k.toNat false
def evStep (s : Nat) (acc : List Bool) (x : Nd) : Bool := x.ins.foldl (evIn acc x) (evStart s x)
/-- Which nodes are true in s. -/
def truth (s : Nat) (l : List Nd) : List Bool := scan (evStep s) [] l
/-- Whether s is a model. -/
def evB (N : Nt) (s : Nat) : Bool := (truth s N.l).getD (N.l.length - 1) false
theorem truth_len (s : Nat) (l : List Nd) : (truth s l).length = l.length := by unfold truth; rw [scan_length]; simp
/-- The cells of truth values. -/
def bools (L : List Bool) : List Value := L.map .bool
theorem bools_get (L : List Bool) (i : Nat) (h : i < L.length) : (bools L)[i]? = some (.bool (L.getD i false)) := by
  unfold bools
  rw [List.getElem?_map, List.getElem?_eq_getElem h, List.getD_eq_getElem?_getD, List.getElem?_eq_getElem h]; rfl
theorem bools_snoc (L : List Bool) (b : Bool) : bools (L ++ [b]) = bools L ++ [.bool b] := by unfold bools; simp
def boolF (L : List Bool) (i : Nat) : Value := .bool (L.getD i false)
theorem formed_kinds {x : Nd} {n b : Int} (h : formed x n b = true) : x.kind = 0 ∨ x.kind = 1 ∨ x.kind = 2 ∨ x.kind = 3 ∨ x.kind = 4 := by
  rcases formed_kind h with ⟨h1 | h1 | h1, _⟩ | h1 | h1
  · exact .inl h1
  · exact .inr (.inl h1)
  · exact .inr (.inr (.inl h1))
  · exact .inr (.inr (.inr (.inl h1)))
  · exact .inr (.inr (.inr (.inr h1)))
theorem oneBool {b : Bool} (u : Value) (h : u ∈ [Value.bool b]) : u.oneCell' = true := by
  simp at h; subst h; rfl
end Cs
namespace Go.Proofs.YtcgejdlfiemjaaaDoor
theorem info_bool : (Tryd.prog.info? 4).map (fun i => (i.zero, i.size, i.bytes)) = some (some (.bool false), 1, 1) := by kernel_rfl
set_option maxRecDepth 100000 in
theorem rholds_any (w : World) (s : Nat) (l : Int) (h1 : -9223372036854775808 ≤ l) (h2 : l ≤ 9223372036854775807) : Calls Tryd.prog 80 #[setV s, .int .i64 l] w fun e w' => e = .returned (.bool (hld s l)) ∧ Below w.heap.size w w' := by
  have hva := fun W => rvar_any W l h1 h2
  have hlv := litVar_le l
  have hsb := pairNew w (.int .u64 (lo s : Int)) (.int .u64 (hi s : Int)) 59 _ rfl
  have c1 := hsb.cell (i := 0) (by omega)
  have c2 := hsb.cell (i := 1) (by omega)
  have hbl : Below w.heap.size w (w.alloc (.cells #[.int .u64 (lo s : Int), .int .u64 (hi s : Int)] 59)) := (Below.refl _ _).alloc (Nat.le_refl _) _
  have hv : hld s l = (decide (litVar l ≠ 0) && (s.testBit ((litVar l).toNat - 1) == decide (0 < l))) := rfl
  obtain ⟨H, hH⟩ : ∃ b, hld s l = b := ⟨_, rfl⟩
  obtain ⟨v, hv'⟩ : ∃ v, litVar l = v := ⟨_, rfl⟩
  rw [hH] at hv ⊢
  rw [hv'] at hv hlv
  simp only [hv'] at hva
  have HVA := Lib.hid hva
  clear hva hH hv' hsb
  by_cases h0 : v = 0
  · subst h0
    have HV : Hid (H = false) := Lib.hid (by rw [hv]; rfl)
    clear hv
    go_enter Tryd.func80, Tryd.ntmps80
    go_wp2_with (go_at_call 90; (with_reducible refine (HVA.out _).mono ?_); rintro e w6 ⟨rfl, rfl⟩)
    go_ret
    exact ⟨by rw [HV.out]; rfl, hbl⟩
  · have hin := fun W => rin_any W s v.toNat (by omega) (by omega)
    rw [show ((v.toNat : Nat) : Int) = v by omega] at hin
    obtain ⟨T, hT⟩ : ∃ b, s.testBit (v.toNat - 1) = b := ⟨_, rfl⟩
    rw [hT] at hv
    simp only [hT] at hin
    have HIN := Lib.hid hin
    have HV : Hid (H = (T == decide (0 < l))) := Lib.hid (by rw [hv, decide_eq_true h0, Bool.true_and])
    have hp : 0 < v := by omega
    clear hin hT hv h0
    go_enter Tryd.func80, Tryd.ntmps80
    go_wp2_with (first
      | (go_at_call 90; (with_reducible refine (HVA.out _).mono ?_); rintro e w6 ⟨rfl, rfl⟩)
      | (go_at_call 77; (with_reducible refine (HIN.out _).mono ?_); rintro e w7 ⟨rfl, hb7⟩
         have hbl7 := Cs.Below.trans' hbl hb7 hbl.size))
    go_ret
    exact ⟨by rw [HV.out]; rfl, hbl7⟩
/-- A new slice of truth values. -/
def BoolsR (w : World) (n : Nat) (L : List Bool) (e : Ending) (w' : World) : Prop := ∃ g cap, e = .returned (.slice (some ⟨g, 0, none⟩) n cap) ∧ w.heap.size ≤ g ∧ Rd w' w'.heap.size (some ⟨g, 0, none⟩) n (boolF L) ∧ Below w.heap.size w w'
/-- What lies in memory ahead of a round of Truth. -/
structure TR (w : World) (n : Int) (l : List Nd) (A : Option Addr) (c s : Nat) (out : Value) (k : Nat) (L : List Bool) (wr : World) : Prop where
  own : wr.ownsRow (w.heap.size + 1 + 1) 4 1 out k (bools L)
  net : wr.rowIs w.heap.size 24 2 (ntF ⟨n, l⟩ A c)
  set : wr.rowIs (w.heap.size + 1) 59 2 (setsF [s])
  bl : Below w.heap.size w wr
section
variable {w : World} {n : Int} {l : List Nd} {A : Option Addr} {c s : Nat} {out : Value} {k : Nat} {L : List Bool} {wr w' : World}
theorem TR.below (h : TR w n l A c s out k L wr) (hb : Below wr.heap.size wr w') : TR w n l A c s out k L w' := ⟨ownsBelow h.own hb, rowBelow h.net hb, rowBelow h.set hb, Cs.Below.trans' h.bl hb h.bl.size⟩
theorem TR.next (h : TR w n l A c s out k L wr) {b : Bool} {v' : Value} (hown : w'.ownsRow (w.heap.size + 1 + 1) 4 1 v' (k + 1) (bools L ++ [.bool b])) (hg : wr.grownBy w' out.ownBlock) : TR w n l A c s v' (k + 1) (L ++ [b]) w' :=
  ⟨by rw [bools_snoc]; exact hown, rowGrown h.net hg fun e => by have := (h.own.lt _ e.symm).1; omega, rowGrown h.set hg fun e => by have := (h.own.lt _ e.symm).1; omega, h.bl.grown hg h.bl.size fun g e => by have := (h.own.lt _ e).1; omega⟩
end
set_option maxRecDepth 100000 in
set_option maxHeartbeats 4000000 in
theorem rtruth_any (w : World) (N : Nt) (A : Option Addr) (c s : Nat) (hN : NtAt w w.heap.size A N.l) (hv : vld N = true) :
    Calls Tryd.prog 52 #[ntV N A c, setV s] w (BoolsR w N.l.length (truth s N.l)) := by
  obtain ⟨hn0, hn1, hl0, hl1⟩ := vld_bounds hv
  obtain ⟨ti, hti, ht0, ht1, ht2⟩ := info_parts info_bool
  have hfm := fun k hk => vld_formed hv k hk
  have hlen := truth_len s N.l
  obtain ⟨n, l⟩ := N
  simp only at hN hn0 hn1 hl0 hl1 hfm hlen
  have HF := Lib.hid hfm
  have HLEN := Lib.hid hlen
  clear hfm hv hlen
  have hbox := (ntNew w ⟨n, l⟩ A c 24 _ rfl).alloc (.cells #[.int .u64 (lo s : Int), .int .u64 (hi s : Int)] 59)
  have hsb : ((w.alloc (.cells #[.int .i64 n, .slice A l.length c] 24)).alloc (.cells #[.int .u64 (lo s : Int), .int .u64 (hi s : Int)] 59)).rowIs (w.heap.size + 1) 59 2 (setsF [s]) := (pairNew _ _ _ _ _ (by simp)).congr fun i hi => by
    have : i = 0 ∨ i = 1 := by omega
    rcases this with rfl | rfl <;> rfl
  have hbl : Below w.heap.size w ((w.alloc (.cells #[.int .i64 n, .slice A l.length c] 24)).alloc (.cells #[.int .u64 (lo s : Int), .int .u64 (hi s : Int)] 59)) := ((Below.refl _ _).alloc (Nat.le_refl _) _).alloc (by simp) _
  have hE0 : TR w n l A c s (.slice none 0 0) 0 [] _ := ⟨World.ownsRow_nil _ _ _ _, hbox, hsb, hbl⟩
  have HE0 := Lib.hid hE0
  clear hbox hsb hbl hE0
  go_enter Tryd.func52, Tryd.ntmps52
  go_wp2
  go_loopw [5, 6] (fun out t wr => ∃ k : Nat, k ≤ l.length ∧ t = .int .i64 k ∧ TR w n l A c s out k (truth s (l.take k)) wr) (fun _ t _ => l.length - (intOf t).toNat)
  case atStart => exact ⟨0, by omega, rfl, HE0.out⟩
  case round =>
    clear HE0
    obtain ⟨k, hk, rfl, hE⟩ := hrel
    obtain ⟨hc1, hc2⟩ := ntCells hE.net
    have hg := hE.net.lt
    by_cases hlt : k < l.length
    · obtain ⟨b, o, rfl, hbB, hcs⟩ := hN (by omega)
      have hnd := hcs k hlt
      clear hcs
      have ht := scan_take (evStep s) l k hlt
      have hfk := HF.out k hlt
      obtain ⟨x, hx⟩ : ∃ x, l[k] = x := ⟨_, rfl⟩
      rw [hx] at hnd ht hfk
      have hks := formed_kinds hfk
      have hin := formed_ins hfk
      have HIN := Lib.hid hin
      have HT := Lib.hid ht
      clear hin ht hx hfk
      obtain ⟨hk1, hk2, ⟨A', c', hk3, hrd⟩, hr1, hr2, hr3, hr4⟩ := hnd
      replace hk1 := below_cell hE.bl hbB hk1
      replace hk2 := below_cell hE.bl hbB hk2
      replace hk3 := below_cell hE.bl hbB hk3
      have HRD := Lib.hid hrd; clear hrd
      obtain ⟨L, hL⟩ : ∃ L, truth s (l.take k) = L := ⟨_, rfl⟩
      have hLl : L.length = k := by rw [← hL]; exact scan_len _ _ _ (by omega)
      rw [hL] at hE
      change Hid (truth s (l.take (k + 1)) = truth s (l.take k) ++ [evStep s (truth s (l.take k)) x]) at HT
      rw [hL] at HT
      have HLL := Lib.hid hLl
      clear hL hLl
      obtain ⟨hl1', hl2'⟩ := hr2
      have hho := fun W => rholds_any W s x.lit hl1' hl2'
      obtain ⟨H, hH⟩ : ∃ b, hld s x.lit = b := ⟨_, rfl⟩
      simp only [hH] at hho
      have HHO := Lib.hid hho
      have HH := Lib.hid hH
      clear hho hH
      have hi0 : (0 : Int) ≤ (k : Int) := by omega
      have hi1 : (k : Int) < (l.length : Int) := by omega
      have hal : Below wr.heap.size wr (wr.alloc (.cells #[.int .i64 x.kind, .int .i64 x.lit, .slice A' x.ins.length c'] 52)) := (Below.refl _ _).alloc (Nat.le_refl _) _
      have hE1 := hE.below hal
      have hnr := ndNew wr x A' c' 52 _ rfl
      have hlaid : ∀ (W : World) (a1 : Int), W = wr.alloc (.cells #[.int .i64 a1, .int .i64 x.lit, .slice A' x.ins.length c'] 52) → a1 = x.kind →
          TR w n l (some ⟨b, o, none⟩) c s u5 k L W ∧ W.rowIs wr.heap.size 52 3 (ndF x A' c') := fun W a1 hW e1 => by
        subst hW; subst e1; exact ⟨hE1, hnr⟩
      have hbx := hE.set
      have hbz := hbx.lt
      obtain ⟨hs1, hs2, _, _⟩ := setPair hbx
      have HLAID := Lib.hid hlaid
      have HE1 := Lib.hid hE1
      clear hlaid hnr hE1 hE hal hbx
      have hst : ∀ kd, x.kind = kd → evStart s x = (decide (kd = 1) || decide (kd = 3) || (decide (kd = 2) && H)) := fun kd h => by unfold evStart; rw [h, HH.out]
      obtain ⟨kd, hkd⟩ : ∃ kd, kd = x.kind := ⟨_, rfl⟩
      rw [← hkd] at hks hk1
      have HST := Lib.hid (hst kd hkd.symm)
      have HKD := Lib.hid hkd
      have hr1' : -9223372036854775808 ≤ x.kind ∧ x.kind ≤ 9223372036854775807 := hr1
      clear hst hkd hr1 hr1'
      obtain ⟨W0, rfl⟩ : ∃ W0, W0 = wr := ⟨wr, rfl⟩
      rcases hks with rfl | rfl | rfl | rfl | rfl
      all_goals
        go_wp2_with (go_at_call 80; (with_reducible refine (HHO.out _).mono ?_); rintro e w6 ⟨rfl, hb6⟩)
        first
          | (obtain ⟨q1, q2⟩ := HLAID.out _ _ rfl HKD.out
             replace q1 := q1.below hb6
             replace q2 := rowBelow q2 hb6)
          | (obtain ⟨q1, q2⟩ := HLAID.out _ _ rfl HKD.out)
        clear HLAID HE1 hs1 hs2
        go_loopw [8, 9] (fun bv t wq => ∃ (m : Nat) (z : Bool), m ≤ x.ins.length ∧ t = .int .i64 m ∧ bv = .bool z ∧ Hid ((x.ins.take m).foldl (evIn L x) (evStart s x) = z) ∧ TR w n l (some ⟨b, o, none⟩) c s u5 k L wq ∧ wq.rowIs W0.heap.size 52 3 (ndF x A' c')) (fun _ t _ => x.ins.length - (intOf t).toNat)
        case atStart => exact ⟨0, _, by omega, rfl, rfl, HST.out, q1, q2⟩
        case round =>
          clear q1 q2
          obtain ⟨m, z, hm, rfl, rfl, HP, hE, hnr⟩ := hrel
          obtain ⟨hc1, hc2⟩ := ntCells hE.net
          obtain ⟨hd1, hd2, hd3⟩ := ndCells hnr
          rw [← HKD.out] at hd1
          by_cases hmlt : m < x.ins.length
          · obtain ⟨b', o', rfl, hbB', hcs⟩ := HRD.out (by omega)
            have hc := below_cell hE.bl hbB' (hcs m hmlt)
            clear hcs
            unfold intF at hc
            obtain ⟨j, hj1, hj2⟩ := HIN.out m hmlt
            rw [hj1] at hc
            have htk : x.ins.take (m + 1) = x.ins.take m ++ [(j : Int)] := by
              rw [List.take_succ_eq_append_getElem hmlt]
              congr 2
              rw [← hj1]; simp [List.getD, hmlt]
            obtain ⟨y, hy⟩ : ∃ y, L.getD j false = y := ⟨_, rfl⟩
            have hfo : (x.ins.take (m + 1)).foldl (evIn L x) (evStart s x) = evIn L x z (j : Int) := by
              rw [htk, List.foldl_append, HP.out]; rfl
            have hev : evIn L x z (j : Int) = if x.kind = 3 then z && y else z || y := by unfold evIn; rw [Int.toNat_natCast, hy]
            rw [hev, ← HKD.out] at hfo
            have HFO := Lib.hid hfo
            obtain ⟨gr, cr, rfl, hgr1, hgr2⟩ := ownsForm hE.own (by omega)
            have ho1 : wr.cell? ⟨gr, j, none⟩ = some (.bool y) := by
              rw [hE.own.cellAt _ (by omega), bools_get L _ (by rw [HLL.out]; omega), hy]
            have HE := Lib.hid hE
            have HNR := Lib.hid hnr
            have j0 : (0 : Int) ≤ (j : Int) := by omega
            have j1 : (j : Int) < (k : Int) := by omega
            have m0 : (0 : Int) ≤ (m : Int) := by omega
            have m1 : (m : Int) < (x.ins.length : Int) := by omega
            clear hj1 htk hy hfo hev hE hnr
            cases z
            all_goals
              go_wp2
              go_roundw
              case rel => exact ⟨m + 1, _, by omega, by go_num, rfl, HFO.out, HE.out, HNR.out⟩
              case measure => simp [intOf]; omega
          · obtain rfl : m = x.ins.length := by omega
            have hst : evStep s L x = z := by
              have := HP.out
              rw [List.take_length] at this
              exact this
            have hnx := HT.out
            rw [hst] at hnx
            have HNX := Lib.hid hnx
            have hle := HLL.out
            have hzq := hE.net.lt
            have hzs := hE.set.lt
            have hEa := hE.below ((Below.refl _ _).alloc (Nat.le_refl _) (.cells #[.bool z] 4))
            have HEA := Lib.hid hEa
            have hownA := hEa.own
            clear hst hnx hE hEa HP
            go_wp2_with (at_builtin; refine wpList_append_own _ rfl _ _ 91 rfl (w.heap.size + 1 + 1) 4 ti (.bool false) 1 1 Tryd.underlying91 hti ht0 ht1 ht2 rfl (by decide) _ _ _ rfl hownA ⟨wr.heap.size, 0, none⟩ 1 1 [.bool z] rfl rfl newOne oneBool (by unfold maxLen; omega) (by omega) (by simp; omega) ?_; intro v' w3 hown3 hgr3 _)
            have hE3 := HEA.out.next hown3 hgr3
            rw [← HNX.out] at hE3
            go_wp2
            go_roundw
            case rel => exact ⟨k + 1, by omega, by go_num, hE3⟩
            case measure => simp [intOf]; omega
    · obtain rfl : k = l.length := by omega
      rw [List.take_length] at hE
      have hi1 : ¬ ((l.length : Int) < (l.length : Int)) := by omega
      obtain ⟨g, cap, rfl, hg1, hg2⟩ := ownsForm hE.own (by omega)
      have hrd : Rd wr wr.heap.size (some ⟨g, 0, none⟩) l.length (boolF (truth s l)) := Rd.of_own hE.own fun i hi => bools_get _ i (by rw [HLEN.out]; omega)
      have hb := hE.bl
      clear hE hlt
      go_wp2
      go_ret
      exact ⟨g, cap, rfl, by omega, hrd, hb⟩
end Go.Proofs.YtcgejdlfiemjaaaDoor
