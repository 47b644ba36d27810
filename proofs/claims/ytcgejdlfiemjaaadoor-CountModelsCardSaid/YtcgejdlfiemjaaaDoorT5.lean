/- The walks of Uint, of the law's number, and of the law CountModels. -/
import Derived.Test.YtcgejdlfiemjaaaDoorT3
import Derived.Test.YtcgejdlfiemjaaaDoorT4
import Derived.Test.YtcgejdlfiemjaaaDoorK1
import Derived.Test.YtcgejdlfiemjaaaDoorRY
set_option linter.unusedSimpArgs false
set_option linter.unusedVariables false
open Go Go.RowKit Cs
namespace Go.Proofs.YtcgejdlfiemjaaaDoor
set_option maxRecDepth 100000 in
set_option maxHeartbeats 1000000 in
theorem uint_any (w : World) (V : Nat) (hV : n8 V ≤ 8) : Calls Tryd.prog 54 #[natV V] w fun e w' => e = .returned (.tuple #[.int .u64 V, .bool true]) ∧ Below w.heap.size w w' := by
  have hs := natB_size V
  have hg := natB_get V
  have hfin := mod_n8 V
  have hle : (natB V).size ≤ 8 := by omega
  show Calls _ _ #[.agg #[.string (natB V)]] _ _
  generalize natB V = s at *
  have hbox := boxNew w (.string s) 28 _ rfl
  have hbl : Below w.heap.size w (w.alloc (.cells #[.string s] 28)) := (Below.refl _ _).alloc (Nat.le_refl _) _
  have Hs := Lib.hid hs; clear hs
  have Hg := Lib.hid hg; clear hg
  have HF := Lib.hid hfin; clear hfin
  have hc0 := boxCell hbox
  have h8 : ¬ (8 : Int) < (s.size : Int) := by omega
  go_enter Tryd.func54, Tryd.ntmps54
  go_wp2
  go_loopw [4, 13] (fun a t wr => ∃ k : Nat, k ≤ s.size ∧ t = .int .i64 k ∧ a = .int .u64 ((V % 2 ^ (8 * k) : Nat) : Int) ∧ wr.rowIs w.heap.size 28 1 (fun _ => .string s) ∧ Below w.heap.size w wr) (fun _ t _ => s.size - (intOf t).toNat)
  case atStart => exact ⟨0, by omega, rfl, by rw [Nat.mul_zero, Nat.pow_zero, Nat.mod_one]; rfl, hbox, hbl⟩
  case round =>
    clear hbox hbl hc0
    obtain ⟨k, hk, rfl, rfl, hbox, hbl⟩ := hrel
    have hc0 := boxCell hbox
    by_cases hlt : k < s.size
    · have hb := by8_lt V k
      have hor := low_or V k (by omega)
      have hml := Nat.mod_lt V (Nat.two_pow_pos (8 * k))
      have hm64 : V % 2 ^ (8 * k) < 18446744073709551616 := Nat.lt_of_lt_of_le hml (Nat.pow_le_pow_right (n := 2) (by decide) (show 8 * k ≤ 64 by omega))
      have hval : bits BinOp.or IntKind.u64 ((V % 2 ^ (8 * k) : Nat) : Int) (((by8 V k * 2 ^ (8 * k)) % 18446744073709551616 : Nat) : Int) = ((V % 2 ^ (8 * (k + 1)) : Nat) : Int) := by
        rw [u64_or_nat _ _ hm64 (Nat.mod_lt _ (by decide)), hor]
      have HVAL := Lib.hid hval
      obtain ⟨Q, hQ⟩ : ∃ Q, V % 2 ^ (8 * k) = Q := ⟨_, rfl⟩
      rw [hQ] at HVAL ⊢
      have e0 : IntKind.u64.wrap (8 * (k : Int)) = ((8 * k : Nat) : Int) := by rw [IntKind.wrap_u64]; omega
      have e1 : ((s[k].toNat : Nat) : Int) = ((by8 V k : Nat) : Int) := by rw [Hg.out k hlt]
      clear hor hml hm64 hval hQ hb
      have e2 : IntKind.u64.wrap (IntKind.u64.wrap ((by8 V k : Nat) : Int) * 2 ^ (8 * k)) = (((by8 V k * 2 ^ (8 * k)) % 18446744073709551616 : Nat) : Int) := by
        have h256 := by8_lt V k
        have h0 : IntKind.u64.wrap ((by8 V k : Nat) : Int) = ((by8 V k : Nat) : Int) := by rw [IntKind.wrap_u64]; omega
        rw [h0, IntKind.wrap_u64]; simp
      have E2 := Lib.hid e2
      clear e2
      go_wp2
      rw [E2.out, HVAL.out]
      go_roundw
      case rel => exact ⟨k + 1, by omega, by go_num, rfl, hbox, hbl⟩
      case measure => simp [intOf]; omega
    · obtain rfl : k = s.size := by omega
      have hf := HF.out
      rw [← Hs.out] at hf
      rw [hf]
      clear hf
      go_wp2
      go_ret2
      exact ⟨rfl, hbl⟩
set_option maxRecDepth 100000 in
theorem number_any (w : World) (V : Nat) (hV : V ≤ 1048576) : Calls Tryd.prog 29 #[natV V] w fun e w' => e = .returned (.int .i64 V) ∧ Below w.heap.size w w' := by
  have h8 : n8 V ≤ 8 := Nat.le_trans ((n8_le 3 V).2 (by omega)) (by decide)
  have hu := fun W => uint_any W V h8
  have HU := Lib.hid hu
  have hbl : Below w.heap.size w (w.alloc (.cells #[.string (natB V)] 28)) := (Below.refl _ _).alloc (Nat.le_refl _) _
  have hi : ¬ (1099511627776 : Int) < (V : Int) := by omega
  have hwr : IntKind.i64.wrap (V : Int) = (V : Int) := by rw [IntKind.wrap_i64]; omega
  clear hu h8
  go_enter Tryd.func29, Tryd.ntmps29
  go_wp2_with fail
  refine (HU.out _).mono ?_
  rintro e w5 ⟨rfl, hb5⟩
  have hbl5 := Cs.Below.trans' hbl hb5 hbl.size
  go_wp2
  go_ret
  exact ⟨rfl, hbl5⟩
/-- What lies in memory ahead of a round of the law: the net, the count, the program's rows, and the law's three rows. -/
structure ME (w : World) (N : Nt) (A : Option Addr) (c m g3 gL gH gc ga V : Nat) (fn fy fc : Nat → Nat) (wr : World) : Prop where
  net : wr.rowIs w.heap.size 24 2 (ntF N A c)
  b3 : wr.rowIs g3 28 1 fun _ => .string (natB V)
  lo : wr.rowIs gL 28 (m + 1) (natsF (lowL N m))
  hi : wr.rowIs gH 28 (m + 1) (natsF (highL N m))
  ca : wr.rowIs gc 28 (m + 1) (natsF (cardL N m))
  no : wr.rowIs ga 55 12 fun i => .int .i64 (fn i : Nat)
  yes : wr.rowIs (ga + 1) 55 12 fun i => .int .i64 (fy i : Nat)
  card : wr.rowIs (ga + 1 + 1) 55 12 fun i => .int .i64 (fc i : Nat)
  bl : Below w.heap.size w wr
  lt : w.heap.size < ga ∧ g3 < ga ∧ gL < ga ∧ gH < ga ∧ gc < ga
section
variable {w : World} {N : Nt} {A : Option Addr} {c m g3 gL gH gc ga V : Nat} {fn fy fc : Nat → Nat} {wr w' : World}
theorem ME.below (k : ME w N A c m g3 gL gH gc ga V fn fy fc wr) (hb : Below wr.heap.size wr w') : ME w N A c m g3 gL gH gc ga V fn fy fc w' :=
  ⟨rowBelow k.net hb, rowBelow k.b3 hb, rowBelow k.lo hb, rowBelow k.hi hb, rowBelow k.ca hb, rowBelow k.no hb, rowBelow k.yes hb, rowBelow k.card hb, Cs.Below.trans' k.bl hb k.bl.size, k.lt⟩
theorem ME.drew (k : ME w N A c m g3 gL gH gc ga V fn fy fc wr) : ME w N A c m g3 gL gH gc ga V fn fy fc wr.drew := k.below (belowDrewN (Below.refl _ _) 1)
theorem ME.congr (k : ME w N A c m g3 gL gH gc ga V fn fy fc wr) {fn' fy' fc' : Nat → Nat} (h1 : ∀ i, fn i = fn' i) (h2 : ∀ i, fy i = fy' i) (h3 : ∀ i, fc i = fc' i) : ME w N A c m g3 gL gH gc ga V fn' fy' fc' wr := by
  rw [← show fn = fn' from funext h1, ← show fy = fy' from funext h2, ← show fc = fc' from funext h3]; exact k
theorem ME.setN (k : ME w N A c m g3 gL gH gc ga V fn fy fc wr) (j x : Nat) : ME w N A c m g3 gL gH gc ga V (fun i => if i = j then x else fn i) fy fc (wr.setCell ⟨ga, j, none⟩ (.int .i64 x)) := by
  obtain ⟨h1, h2, h3, h4, h5⟩ := k.lt
  exact ⟨k.net.setOther (by simp; omega) _, k.b3.setOther (by simp; omega) _, k.lo.setOther (by simp; omega) _, k.hi.setOther (by simp; omega) _, k.ca.setOther (by simp; omega) _, (k.no.set j _).congr fun i _ => by split <;> rfl, k.yes.setOther (by simp) _, k.card.setOther (by simp; omega) _, k.bl.setCell (by simp; omega) _, k.lt⟩
theorem ME.setY (k : ME w N A c m g3 gL gH gc ga V fn fy fc wr) (j x : Nat) : ME w N A c m g3 gL gH gc ga V fn (fun i => if i = j then x else fy i) fc (wr.setCell ⟨ga + 1, j, none⟩ (.int .i64 x)) := by
  obtain ⟨h1, h2, h3, h4, h5⟩ := k.lt
  exact ⟨k.net.setOther (by simp; omega) _, k.b3.setOther (by simp; omega) _, k.lo.setOther (by simp; omega) _, k.hi.setOther (by simp; omega) _, k.ca.setOther (by simp; omega) _, k.no.setOther (by simp) _, (k.yes.set j _).congr fun i _ => by split <;> rfl, k.card.setOther (by simp) _, k.bl.setCell (by simp; omega) _, k.lt⟩
theorem ME.setC (k : ME w N A c m g3 gL gH gc ga V fn fy fc wr) (j x : Nat) : ME w N A c m g3 gL gH gc ga V fn fy (fun i => if i = j then x else fc i) (wr.setCell ⟨ga + 1 + 1, j, none⟩ (.int .i64 x)) := by
  obtain ⟨h1, h2, h3, h4, h5⟩ := k.lt
  exact ⟨k.net.setOther (by simp; omega) _, k.b3.setOther (by simp; omega) _, k.lo.setOther (by simp; omega) _, k.hi.setOther (by simp; omega) _, k.ca.setOther (by simp; omega) _, k.no.setOther (by simp; omega) _, k.yes.setOther (by simp) _, (k.card.set j _).congr fun i _ => by split <;> rfl, k.bl.setCell (by simp; omega) _, k.lt⟩
end
theorem zero12 (i : Nat) (h : i < 12) : (#[Value.int .i64 0, .int .i64 0, .int .i64 0, .int .i64 0, .int .i64 0, .int .i64 0, .int .i64 0, .int .i64 0, .int .i64 0, .int .i64 0, .int .i64 0, .int .i64 0] : Array Value)[i]? = some (.int .i64 0) := by
  match i, h with
  | 0, _ => rfl
  | 1, _ => rfl
  | 2, _ => rfl
  | 3, _ => rfl
  | 4, _ => rfl
  | 5, _ => rfl
  | 6, _ => rfl
  | 7, _ => rfl
  | 8, _ => rfl
  | 9, _ => rfl
  | 10, _ => rfl
  | 11, _ => rfl
theorem rows12 (W : World) (t : TypeId) (g : Nat) (hg : W.heap.size = g) (f : Nat → Nat) (hf : ∀ i, f i = 0) :
    (W.alloc (.cells #[.int .i64 0, .int .i64 0, .int .i64 0, .int .i64 0, .int .i64 0, .int .i64 0, .int .i64 0, .int .i64 0, .int .i64 0, .int .i64 0, .int .i64 0, .int .i64 0] t)).rowIs g t 12 fun i => .int .i64 (f i : Nat) := by
  subst hg
  exact World.rowIs_alloc W _ t _ fun i hi => by rw [zero12 i hi, hf]; rfl
/-- The rows while a set's variables are gone through. -/
def part (f g : Nat → Nat) (j i : Nat) : Nat := if i ≤ j then g i else f i
/-! the law -/
theorem part_zero (f g : Nat → Nat) (h : g 0 = f 0) (i : Nat) : f i = part f g 0 i := by
  unfold part; split
  · rw [show i = 0 by omega, h]
  · rfl
theorem part_same (f g : Nat → Nat) (j : Nat) (h : g (j + 1) = f (j + 1)) (i : Nat) : part f g j i = part f g (j + 1) i := by
  unfold part
  by_cases h1 : i ≤ j
  · rw [if_pos h1, if_pos (by omega)]
  · by_cases h2 : i ≤ j + 1
    · rw [if_neg h1, if_pos h2, show i = j + 1 by omega, h]
    · rw [if_neg h1, if_neg h2]
theorem part_set (f g : Nat → Nat) (j x : Nat) (h : x = g (j + 1)) (i : Nat) : (if i = j + 1 then x else part f g j i) = part f g (j + 1) i := by
  unfold part
  by_cases h1 : i = j + 1
  · rw [if_pos h1, if_pos (by omega), h, h1]
  · rw [if_neg h1]
    by_cases h2 : i ≤ j
    · rw [if_pos h2, if_pos (by omega)]
    · rw [if_neg h2, if_neg (by omega)]
theorem part_at (f g : Nat → Nat) (j : Nat) : part f g j (j + 1) = f (j + 1) := by unfold part; rw [if_neg (by omega)]
theorem part_all (f g : Nat → Nat) (m : Nat) (h : ∀ i, m < i → f i = g i) (i : Nat) : part f g m i = g i := by
  unfold part; split
  · rfl
  · exact h i (by omega)
theorem noF_succ (N : Nt) (m k i : Nat) : noF N m (k + 1) i = noF N m k i + if 1 ≤ i ∧ i ≤ m then (if k.testBit (i - 1) then 0 else b1 (evB N k)) else 0 := by
  unfold noF; split
  · rw [sN_succ]
  · rfl
theorem yesF_succ (N : Nt) (m k i : Nat) : yesF N m (k + 1) i = yesF N m k i + if 1 ≤ i ∧ i ≤ m then (if k.testBit (i - 1) then b1 (evB N k) else 0) else 0 := by
  unfold yesF; split
  · rw [sN_succ]
  · rfl
theorem cardF_succ (N : Nt) (k i : Nat) : cardF N (k + 1) i = cardF N k i + if pcn 64 k = i then b1 (evB N k) else 0 := by unfold cardF; rw [sN_succ]
theorem allF_succ (N : Nt) (k : Nat) : allF N (k + 1) = allF N k + b1 (evB N k) := by unfold allF; rw [sN_succ]
theorem noF_far (N : Nt) (m k i : Nat) (h : ¬ (1 ≤ i ∧ i ≤ m)) : noF N m k i = 0 := by unfold noF; rw [if_neg h]
theorem yesF_far (N : Nt) (m k i : Nat) (h : ¬ (1 ≤ i ∧ i ≤ m)) : yesF N m k i = 0 := by unfold yesF; rw [if_neg h]
set_option maxRecDepth 100000 in
set_option maxHeartbeats 8000000 in
theorem models_ok (w : World) (N : Nt) (A : Option Addr) (c m : Nat) (hm : N.n = (m : Int)) (hm10 : m ≤ 10) (hN : NtAt w w.heap.size A N.l) (hT : Tab w) (hk0 : cchk N = 0) (hf : fewB N = true) (hap : ap2 N m = true) :
    Calls Tryd.prog 9 #[ntV N A c] w fun e w' => e = .returned (.bool true) ∧ Below w.heap.size w w' := by
  have hnet := ntNew w N A c 24 _ rfl
  have hbl : Below w.heap.size w (w.alloc (.cells #[.int .i64 N.n, .slice A N.l.length c] 24)) := (Below.refl _ _).alloc (Nat.le_refl _) _
  obtain ⟨hv, _, _⟩ := cchk_zero hk0
  obtain ⟨hn0, hn1, hl0, hl1⟩ := vld_bounds hv
  have hfw := fun W h => few_any W N A c (by omega) h
  rw [hf] at hfw
  have hck := fun W h => rcheck_any W N A c (by omega) h
  rw [hk0] at hck
  have hap2 := fun W h => rapart2_any W N A c m hm (by omega) h hv
  simp only [hap] at hap2
  have hc1 := fun W h hT => count_any W N A c (by omega) h hT
  have hc2 := fun W h hT => byLit_any W N A c m hm h hT hk0
  have hc3 := fun W h hT => byCard_any W N A c m hm h hT hk0
  have hev := fun W s h => reval_any W N A c s h hv
  obtain ⟨hall, hlow, hhigh, hcard⟩ := models_all m hm (by omega) hk0 hap
  rw [hk0] at hc1
  obtain ⟨V, hV⟩ : ∃ V, cntN N = V := ⟨_, rfl⟩
  rw [hV] at hall
  simp only [hV] at hc1
  have h2m : (2 : Nat) ^ m ≤ 1024 := Nat.pow_le_pow_right (n := 2) (by decide) hm10
  have h2p : 0 < (2 : Nat) ^ m := Nat.two_pow_pos m
  obtain ⟨M, hM⟩ : ∃ M, (2 : Nat) ^ m = M := ⟨_, rfl⟩
  rw [hM] at h2m h2p hall
  simp only [hM] at hlow hhigh hcard
  have hMi : ((2 : Int) ^ m) = (M : Int) := by rw [← hM, Int.natCast_pow]; rfl
  have hMw : IntKind.u64.wrap (M : Int) = (M : Int) := by rw [IntKind.wrap_u64]; omega
  have hpc : ∀ k, k < M → pcn 64 k ≤ m := fun k hk => by
    rw [show 64 = m + (64 - m) by omega, pcn_more k m (hM ▸ hk)]; exact pcn_le m k
  have hsetV : ∀ k : Nat, k < M → setV k = .agg #[.int .u64 (k : Int), .int .u64 0] := fun k hk => by
    have e1 : lo k = k := by unfold lo; omega
    have e2 : hi k = 0 := by unfold hi; omega
    show Value.agg #[.int .u64 (lo k : Int), .int .u64 (hi k : Int)] = _
    rw [e1, e2]; rfl
  have hon := fun W (k : Nat) (h : k < M) => ones64_any W k (by omega)
  have hnm := fun W V h => number_any W V h
  have HFW := Lib.hid hfw
  have HCK := Lib.hid hck
  have HAP := Lib.hid hap2
  have HC1 := Lib.hid hc1
  have HC2 := Lib.hid hc2
  have HC3 := Lib.hid hc3
  have HEV := Lib.hid hev
  have HALL := Lib.hid hall
  have HLOW := Lib.hid hlow
  have HHIGH := Lib.hid hhigh
  have HCARD := Lib.hid hcard
  have HPC := Lib.hid hpc
  have HSET := Lib.hid hsetV
  have HON := Lib.hid hon
  have HNM := Lib.hid hnm
  have HWK := Lib.hid works_any
  clear hfw hck hap2 hc1 hc2 hc3 hev hall hlow hhigh hcard hpc hsetV hon hnm hV hv hf hk0 hap hM
  obtain ⟨n, l⟩ := N
  simp only at hm hn0 hn1 hl0 hl1 hN
  subst hm
  have hwr : IntKind.i64.wrap ((m : Int) + 1) = (m : Int) + 1 := by rw [IntKind.wrap_i64]; omega
  have h10 : ¬ (10 : Int) < (m : Int) := by omega
  go_enter Tryd.func9, Tryd.ntmps9
  go_wp2_with fail
  refine (HFW.out _ ((hN.below hbl).more hbl.size)).mono ?_
  rintro e w2 ⟨rfl, hb2⟩
  replace hnet := rowBelow hnet hb2
  replace hbl := Cs.Below.trans' hbl hb2 hbl.size
  obtain ⟨hn1', hn2'⟩ := ntCells hnet
  go_wp2_with fail
  refine (HCK.out _ ((hN.below hbl).more hbl.size)).mono ?_
  rintro e w3 ⟨rfl, hb3⟩
  replace hnet := rowBelow hnet hb3
  replace hbl := Cs.Below.trans' hbl hb3 hbl.size
  obtain ⟨hn1', hn2'⟩ := ntCells hnet
  go_wp2_with fail
  refine (HAP.out _ ((hN.below hbl).more hbl.size)).mono ?_
  rintro e w4 ⟨rfl, hb4⟩
  replace hnet := rowBelow hnet hb4
  replace hbl := Cs.Below.trans' hbl hb4 hbl.size
  obtain ⟨hn1', hn2'⟩ := ntCells hnet
  clear hb2 hb3 hb4
  go_wp2_with fail
  refine (HC1.out _ ((hN.below hbl).more hbl.size) (hT.below hbl)).mono ?_
  rintro e w5 ⟨rfl, hb5⟩
  replace hnet := rowBelow hnet hb5
  replace hbl := Cs.Below.trans' hbl hb5 hbl.size
  have hx3 := boxNew w5 (.string (natB V)) 28 _ rfl
  replace hnet := hnet.alloc (.cells #[.string (natB V)] 28)
  replace hbl := hbl.alloc hbl.size (.cells #[.string (natB V)] 28)
  obtain ⟨hn1', hn2'⟩ := ntCells hnet
  clear hb5
  go_wp2_with fail
  refine (HC2.out _ ((hN.below hbl).more hbl.size) (hT.below hbl)).mono ?_
  rintro e w6 ⟨gL, gH, rfl, hgL, hgH, hlo, hhi, hb6⟩
  replace hx3 := rowBelow hx3 hb6
  replace hnet := rowBelow hnet hb6
  replace hbl := Cs.Below.trans' hbl hb6 hbl.size
  obtain ⟨hn1', hn2'⟩ := ntCells hnet
  clear hb6
  go_wp2_with fail
  refine (HC3.out _ ((hN.below hbl).more hbl.size) (hT.below hbl)).mono ?_
  rintro e w7 ⟨gc, rfl, hgc, hca, hb7⟩
  replace hx3 := rowBelow hx3 hb7
  replace hlo := rowBelow hlo hb7
  replace hhi := rowBelow hhi hb7
  replace hnet := rowBelow hnet hb7
  replace hbl := Cs.Below.trans' hbl hb7 hbl.size
  obtain ⟨hn1', hn2'⟩ := ntCells hnet
  clear hb7
  obtain ⟨Z, hZ⟩ : ∃ Z : Array Value, Z = #[.int .i64 0, .int .i64 0, .int .i64 0, .int .i64 0, .int .i64 0, .int .i64 0, .int .i64 0, .int .i64 0, .int .i64 0, .int .i64 0, .int .i64 0, .int .i64 0] := ⟨_, rfl⟩
  have hrow : ∀ (W : World) (g : Nat) (hg : W.heap.size = g) (f : Nat → Nat), (∀ i, f i = 0) → (W.alloc (.cells Z 55)).rowIs g 55 12 fun i => .int .i64 (f i : Nat) := fun W g hg f hf => by rw [hZ]; exact rows12 W _ g hg f hf
  have hE0 : ME w ⟨(m : Int), l⟩ A c m w5.heap.size gL gH gc w7.heap.size V (noF ⟨(m : Int), l⟩ m 0) (yesF ⟨(m : Int), l⟩ m 0) (cardF ⟨(m : Int), l⟩ 0) (((w7.alloc (.cells Z 55)).alloc (.cells Z 55)).alloc (.cells Z 55)) :=
    ⟨((hnet.alloc _).alloc _).alloc _, ((hx3.alloc _).alloc _).alloc _, ((hlo.alloc _).alloc _).alloc _, ((hhi.alloc _).alloc _).alloc _, ((hca.alloc _).alloc _).alloc _,
      ((hrow w7 _ rfl _ fun i => Nat.le_zero.1 (noF_le _ m 0 i)).alloc _).alloc _, (hrow _ _ (by simp) _ fun i => Nat.le_zero.1 (yesF_le _ m 0 i)).alloc _, hrow _ _ (by simp) _ fun i => Nat.le_zero.1 (cardF_le _ 0 i), ((hbl.alloc hbl.size _).alloc (by simp; have := hbl.size; omega) _).alloc (by simp; have := hbl.size; omega) _, ⟨hnet.lt, hx3.lt, hlo.lt, hhi.lt, hca.lt⟩⟩
  rw [hZ] at hE0
  have HE0 := Lib.hid hE0
  clear hE0 hx3 hlo hhi hca hnet hbl hrow hZ
  go_wp2
  go_loopw [10, 14] (fun a t wr => ∃ k : Nat, k ≤ M ∧ t = .int .u64 (k : Int) ∧ a = .int .i64 (allF ⟨(m : Int), l⟩ k : Nat) ∧ ME w ⟨(m : Int), l⟩ A c m w5.heap.size gL gH gc w7.heap.size V (noF ⟨(m : Int), l⟩ m k) (yesF ⟨(m : Int), l⟩ m k) (cardF ⟨(m : Int), l⟩ k) wr) (fun _ t _ => M - (intOf t).toNat)
  case atStart => exact ⟨0, by omega, rfl, rfl, HE0.out⟩
  case round =>
    obtain ⟨k, hk, rfl, rfl, hE⟩ := hrel
    obtain ⟨ga, hga⟩ : ∃ ga, w7.heap.size = ga := ⟨_, rfl⟩
    obtain ⟨g3, hg3⟩ : ∃ ga, w5.heap.size = ga := ⟨_, rfl⟩
    simp only [hga, hg3] at hE ⊢
    clear HE0 hn1' hn2'
    obtain ⟨hn1', hn2'⟩ := ntCells hE.net
    by_cases hlt : k < M
    · have hi1 : (k : Int) < (M : Int) := by omega
      have hev := fun W h => HEV.out W k h
      simp only [HSET.out k hlt] at hev
      have hns := noF_succ ⟨(m : Int), l⟩ m k
      have hys := yesF_succ ⟨(m : Int), l⟩ m k
      have hcs := cardF_succ ⟨(m : Int), l⟩ k
      have has := allF_succ ⟨(m : Int), l⟩ k
      have hal := allF_le ⟨(m : Int), l⟩ k
      have hcl := cardF_le ⟨(m : Int), l⟩ k
      have hnl := noF_le ⟨(m : Int), l⟩ m k
      have hyl := yesF_le ⟨(m : Int), l⟩ m k
      have hnf := noF_far ⟨(m : Int), l⟩ m
      have hyf := yesF_far ⟨(m : Int), l⟩ m
      obtain ⟨B, hB⟩ : ∃ b, evB ⟨(m : Int), l⟩ k = b := ⟨_, rfl⟩
      simp only [hB] at hev hns hys hcs has
      have HEV1 := Lib.hid hev
      obtain ⟨FN, hFN⟩ : ∃ f : Nat → Nat, noF ⟨(m : Int), l⟩ m k = f := ⟨_, rfl⟩
      obtain ⟨FY, hFY⟩ : ∃ f : Nat → Nat, yesF ⟨(m : Int), l⟩ m k = f := ⟨_, rfl⟩
      obtain ⟨FC, hFC⟩ : ∃ f : Nat → Nat, cardF ⟨(m : Int), l⟩ k = f := ⟨_, rfl⟩
      obtain ⟨GN, hGN⟩ : ∃ f : Nat → Nat, noF ⟨(m : Int), l⟩ m (k + 1) = f := ⟨_, rfl⟩
      obtain ⟨GY, hGY⟩ : ∃ f : Nat → Nat, yesF ⟨(m : Int), l⟩ m (k + 1) = f := ⟨_, rfl⟩
      obtain ⟨GC, hGC⟩ : ∃ f : Nat → Nat, cardF ⟨(m : Int), l⟩ (k + 1) = f := ⟨_, rfl⟩
      obtain ⟨a, ha⟩ : ∃ a, allF ⟨(m : Int), l⟩ k = a := ⟨_, rfl⟩
      have hnf1 : ∀ i, m < i → FN i = GN i := fun i hi => by rw [← hFN, ← hGN, hnf k i (by omega), hnf (k + 1) i (by omega)]
      have hyf1 : ∀ i, m < i → FY i = GY i := fun i hi => by rw [← hFY, ← hGY, hyf k i (by omega), hyf (k + 1) i (by omega)]
      have hnf0 : GN 0 = FN 0 := by rw [← hFN, ← hGN, hnf k 0 (by omega), hnf (k + 1) 0 (by omega)]
      have hyf0 : GY 0 = FY 0 := by rw [← hFY, ← hGY, hyf k 0 (by omega), hyf (k + 1) 0 (by omega)]
      rw [hFN] at hE hns hnl
      rw [hFY] at hE hys hyl
      rw [hFC] at hE hcs hcl
      rw [hGN] at hns
      rw [hGY] at hys
      rw [hGC] at hcs
      rw [ha] at has hal ⊢
      have HNS := Lib.hid hns
      have HYS := Lib.hid hys
      have HCS := Lib.hid hcs
      have HAS := Lib.hid has
      have HCL := Lib.hid hcl
      have HNL := Lib.hid hnl
      have HYL := Lib.hid hyl
      have HN1 := Lib.hid hnf1
      have HY1 := Lib.hid hyf1
      have HN0 := Lib.hid hnf0
      have HY0 := Lib.hid hyf0
      have HG := Lib.hid (And.intro hGN (And.intro hGY hGC))
      clear hev hns hys hcs has hcl hnl hyl hnf hyf hnf1 hyf1 hnf0 hyf0 hGN hGY hGC hFN hFY hFC ha hB
      have hwa : IntKind.i64.wrap ((a : Int) + 1) = (a : Int) + 1 := by rw [IntKind.wrap_i64]; omega
      have hwk : IntKind.u64.wrap ((k : Int) + 1) = (k : Int) + 1 := by rw [IntKind.wrap_u64]; omega
      go_wp2_with fail
      refine (HEV1.out _ ((hN.below hE.bl).more hE.bl.size)).mono ?_
      rintro e w8 ⟨rfl, hb8⟩
      replace hE := hE.below hb8
      clear hn1' hn2' hb8
      obtain ⟨hn1', hn2'⟩ := ntCells hE.net
      cases B
      · have hfin : ME w ⟨(m : Int), l⟩ A c m g3 gL gH gc ga V GN GY GC w8 := hE.congr (fun i => by rw [HNS.out]; simp [b1]) (fun i => by rw [HYS.out]; simp [b1]) (fun i => by rw [HCS.out]; simp [b1])
        have HFIN := Lib.hid hfin
        have has : allF ⟨(m : Int), l⟩ (k + 1) = a := by rw [HAS.out]; rfl
        have HAS2 := Lib.hid has
        clear hfin has hE
        go_wp2
        go_roundw
        case rel => exact ⟨k + 1, by omega, by go_num, by rw [HAS2.out], by rw [HG.out.1, HG.out.2.1, HG.out.2.2]; exact HFIN.out⟩
        case measure => simp [intOf]; omega
      · have has : allF ⟨(m : Int), l⟩ (k + 1) = a + 1 := by rw [HAS.out]; rfl
        have HAS2 := Lib.hid has
        have hon := fun W => HON.out W k hlt
        have hpm := HPC.out k hlt
        obtain ⟨p, hp⟩ : ∃ p, pcn 64 k = p := ⟨_, rfl⟩
        simp only [hp] at hon
        rw [hp] at hpm
        have hcs := HCS.out
        simp only [hp] at hcs
        have hcp : FC p + 1 = GC p := by rw [hcs, if_pos rfl]; rfl
        have hcq : ∀ i, i ≠ p → FC i = GC i := fun i hi => by rw [hcs, if_neg (fun e => hi e.symm)]; rfl
        have hfcp := HCL.out p
        have c1 := hE.card.cell (i := p) (by omega)
        have c2 := hE.card.frozen p
        have hset := hE.setC p (FC p + 1)
        have hE2 : ME w ⟨(m : Int), l⟩ A c m g3 gL gH gc ga V FN FY GC (w8.setCell ⟨ga + 1 + 1, p, none⟩ (.int .i64 ((FC p + 1 : Nat) : Int))) := hset.congr (fun _ => rfl) (fun _ => rfl) (fun i => by
          split
          · rename_i h; rw [h, hcp]
          · rename_i h; exact hcq i h)
        have hE3 := hE2.congr (part_zero FN GN HN0.out) (part_zero FY GY HY0.out) (fun _ => rfl)
        obtain ⟨q, hq⟩ : ∃ q, FC p = q := ⟨_, rfl⟩
        rw [hq] at hE3 hfcp
        have c1' : w8.cell? ⟨ga + 1 + 1, p, none⟩ = some (.int .i64 (q : Int)) := by rw [c1, hq]
        rw [Int.natCast_succ] at hE3
        have hwq : IntKind.i64.wrap ((q : Int) + 1) = (q : Int) + 1 := by rw [IntKind.wrap_i64]; omega
        have p0 : (0 : Int) ≤ (p : Int) := by omega
        have p1 : (p : Int) < 12 := by omega
        have HON1 := Lib.hid hon
        have HE3 := Lib.hid hE3
        clear hon hcs hcp hcq hset hE2 hE3 hq c1 hE has
        go_wp2_with (go_at_call 28; (with_reducible refine (HON1.out _).mono ?_); rintro e w9 ⟨rfl, rfl⟩)
        go_loopw [15] (fun t wq => ∃ j : Nat, j ≤ m ∧ t = .int .i64 ((j : Int) + 1) ∧ ME w ⟨(m : Int), l⟩ A c m g3 gL gH gc ga V (part FN GN j) (part FY GY j) GC wq) (fun t _ => m + 1 - (intOf t).toNat)
        case atStart => exact ⟨0, by omega, rfl, HE3.out⟩
        case round =>
          clear HE3 hn1' hn2' c1' c2
          obtain ⟨j, hj, rfl, hE⟩ := hrel
          obtain ⟨hn1', hn2'⟩ := ntCells hE.net
          by_cases hjlt : j < m
          · have j1 : (j : Int) + 1 ≤ (m : Int) := by omega
            have j2 : (0 : Int) ≤ (j : Int) + 1 := by omega
            have j3 : (j : Int) + 1 < 12 := by omega
            have e0 : (j : Int) + 1 - 1 = (j : Int) := by omega
            have hb := bit_int k j
            have hns := HNS.out (j + 1)
            have hys := HYS.out (j + 1)
            rw [if_pos ⟨by omega, by omega⟩, Nat.add_sub_cancel] at hns hys
            obtain ⟨T, hT⟩ : ∃ b, k.testBit j = b := ⟨_, rfl⟩
            rw [hT] at hb hns hys
            have c1 := hE.no.cell (i := j + 1) (by omega)
            have c2 := hE.yes.cell (i := j + 1) (by omega)
            have c3 := hE.no.frozen (j + 1)
            have c4 := hE.yes.frozen (j + 1)
            rw [part_at] at c1 c2
            have hnl := HNL.out (j + 1)
            have hyl := HYL.out (j + 1)
            cases T
            · have hsn := (hE.setN (j + 1) (FN (j + 1) + 1)).congr (part_set FN GN j (FN (j + 1) + 1) (by rw [hns]; rfl)) (part_same FY GY j (by rw [hys]; rfl)) (fun _ => rfl)
              obtain ⟨q2, hq2⟩ : ∃ q, FN (j + 1) = q := ⟨_, rfl⟩
              rw [hq2] at hsn c1 hnl
              rw [Int.natCast_succ] at hsn
              have hwq2 : IntKind.i64.wrap ((q2 : Int) + 1) = (q2 : Int) + 1 := by rw [IntKind.wrap_i64]; omega
              have HSN := Lib.hid hsn
              clear hsn hq2 hns hys hT hE
              go_wp2
              go_roundw
              case rel => exact ⟨j + 1, by omega, by go_num, HSN.out⟩
              case measure => simp [intOf]; omega
            · have hsn := (hE.setY (j + 1) (FY (j + 1) + 1)).congr (part_same FN GN j (by rw [hns]; rfl)) (part_set FY GY j (FY (j + 1) + 1) (by rw [hys]; rfl)) (fun _ => rfl)
              obtain ⟨q2, hq2⟩ : ∃ q, FY (j + 1) = q := ⟨_, rfl⟩
              rw [hq2] at hsn c2 hyl
              rw [Int.natCast_succ] at hsn
              have hwq2 : IntKind.i64.wrap ((q2 : Int) + 1) = (q2 : Int) + 1 := by rw [IntKind.wrap_i64]; omega
              have HSN := Lib.hid hsn
              clear hsn hq2 hns hys hT hE
              go_wp2
              go_roundw
              case rel => exact ⟨j + 1, by omega, by go_num, HSN.out⟩
              case measure => simp [intOf]; omega
          · obtain rfl : j = m := by omega
            have j1 : ¬ ((j : Int) + 1 ≤ (j : Int)) := by omega
            have hfin := hE.congr (part_all FN GN j HN1.out) (part_all FY GY j HY1.out) (fun _ => rfl)
            have HFIN := Lib.hid hfin
            clear hfin hE hjlt
            go_wp2
            go_roundw
            case rel => exact ⟨k + 1, by omega, by go_num, by rw [HAS2.out]; go_num, by rw [HG.out.1, HG.out.2.1, HG.out.2.2]; exact HFIN.out⟩
            case measure => simp [intOf]; omega
    · obtain rfl : k = M := by omega
      have hi1 : ¬ ((k : Int) < (k : Int)) := by omega
      have HE := Lib.hid hE
      have hVa := HALL.out
      have hVl := allF_le ⟨(m : Int), l⟩ k
      rw [← hVa] at hVl ⊢
      clear hE hlt hVa hn1' hn2'
      obtain ⟨hn1', hn2'⟩ := ntCells HE.out.net
      go_wp2
      go_loopw [16] (fun t wq => ∃ j : Nat, j ≤ m + 1 ∧ t = .int .i64 (j : Int) ∧ ME w ⟨(m : Int), l⟩ A c m g3 gL gH gc ga V (noF ⟨(m : Int), l⟩ m k) (yesF ⟨(m : Int), l⟩ m k) (cardF ⟨(m : Int), l⟩ k) wq) (fun t _ => m + 1 - (intOf t).toNat)
      case atStart => exact ⟨0, by omega, rfl, HE.out⟩
      case round =>
        clear HE hn1' hn2'
        obtain ⟨j, hj, rfl, hE⟩ := hrel
        obtain ⟨hn1', hn2'⟩ := ntCells hE.net
        by_cases hjlt : j < m + 1
        · have j1 : (j : Int) ≤ (m : Int) := by omega
          have j2 : (0 : Int) ≤ (j : Int) := by omega
          have j3 : (j : Int) < 12 := by omega
          have j4 : (j : Int) < (m : Int) + 1 := by omega
          have hx := HLOW.out j (by omega)
          have hy := HHIGH.out j (by omega)
          have hz := HCARD.out j (by omega)
          have hxl := noF_le ⟨(m : Int), l⟩ m k j
          have hyl := yesF_le ⟨(m : Int), l⟩ m k j
          have hzl := cardF_le ⟨(m : Int), l⟩ k j
          have hcells : ∀ W, ME w ⟨(m : Int), l⟩ A c m g3 gL gH gc ga V (noF ⟨(m : Int), l⟩ m k) (yesF ⟨(m : Int), l⟩ m k) (cardF ⟨(m : Int), l⟩ k) W →
              W.cell? ⟨gL, j, none⟩ = some (.string (natB (noF ⟨(m : Int), l⟩ m k j))) ∧ W.cell? ⟨gH, j, none⟩ = some (.string (natB (yesF ⟨(m : Int), l⟩ m k j))) ∧ W.cell? ⟨gc, j, none⟩ = some (.string (natB (cardF ⟨(m : Int), l⟩ k j))) ∧
              W.cell? ⟨ga, j, none⟩ = some (.int .i64 (noF ⟨(m : Int), l⟩ m k j : Nat)) ∧ W.cell? ⟨ga + 1, j, none⟩ = some (.int .i64 (yesF ⟨(m : Int), l⟩ m k j : Nat)) ∧ W.cell? ⟨ga + 1 + 1, j, none⟩ = some (.int .i64 (cardF ⟨(m : Int), l⟩ k j : Nat)) := fun W h =>
            ⟨by rw [← hx]; exact h.lo.cell hjlt, by rw [← hy]; exact h.hi.cell hjlt, by rw [← hz]; exact h.ca.cell hjlt, h.no.cell (i := j) (by omega), h.yes.cell (i := j) (by omega), h.card.cell (i := j) (by omega)⟩
          obtain ⟨x, hx'⟩ : ∃ x, noF ⟨(m : Int), l⟩ m k j = x := ⟨_, rfl⟩
          obtain ⟨y, hy'⟩ : ∃ x, yesF ⟨(m : Int), l⟩ m k j = x := ⟨_, rfl⟩
          obtain ⟨z, hz'⟩ : ∃ x, cardF ⟨(m : Int), l⟩ k j = x := ⟨_, rfl⟩
          simp only [hx', hy', hz'] at hcells hxl hyl hzl
          have HCELLS := Lib.hid hcells
          have hnx := fun W => HNM.out W x (by omega)
          have hny := fun W => HNM.out W y (by omega)
          have hnz := fun W => HNM.out W z (by omega)
          have HNX := Lib.hid hnx
          have HNY := Lib.hid hny
          have HNZ := Lib.hid hnz
          clear hcells hx hy hz hx' hy' hz' hxl hyl hzl hnx hny hnz
          go_wp2_with fail
          replace hE := hE.drew
          obtain ⟨c1, c2, c3, c4, c5, c6⟩ := HCELLS.out _ hE
          go_region_held3 (fun w' => w'.cell? ⟨gL, j, none⟩ = some (.string (natB x)) ∧ w'.cell? ⟨gH, j, none⟩ = some (.string (natB y)) ∧ w'.cell? ⟨gc, j, none⟩ = some (.string (natB z)) ∧ w'.cell? ⟨ga, j, none⟩ = some (.int .i64 (x : Int)) ∧ w'.cell? ⟨ga + 1, j, none⟩ = some (.int .i64 (y : Int)) ∧ w'.cell? ⟨ga + 1 + 1, j, none⟩ = some (.int .i64 (z : Int))) (first | exact ⟨c1, c2, c3, c4, c5, c6⟩ | go_keep)
            (first
              | (go_simp
                 go_at_call 29
                 (with_reducible first | refine (HNX.out _).mono ?_ | refine (HNY.out _).mono ?_ | refine (HNZ.out _).mono ?_)
                 rintro e w9 ⟨rfl, hb9⟩
                 replace hE := hE.below hb9
                 obtain ⟨c1, c2, c3, c4, c5, c6⟩ := HCELLS.out _ hE))
          all_goals
            try go_wp2
            go_roundw
            case rel => exact ⟨j + 1, by omega, by go_num, hE⟩
            case measure => simp [intOf]; omega
        · obtain rfl : j = m + 1 := by omega
          have j1 : ¬ (((m + 1 : Nat) : Int) ≤ (m : Int)) := by omega
          have hnv := fun W => HNM.out W V (by omega)
          have HNV := Lib.hid hnv
          have c1 := boxCell hE.b3
          have HE := Lib.hid hE
          clear hnv hE hjlt
          go_wp2_with fail
          refine (HNV.out _).mono ?_
          rintro e w9 ⟨rfl, hb9⟩
          have HE9 := Lib.hid (HE.out.below hb9)
          clear hb9
          go_wp2_with fail
          refine (HWK.out _ (hT.below HE9.out.bl)).mono ?_
          rintro e w10 ⟨rfl, hb10⟩
          have HE10 := Lib.hid (HE9.out.below hb10)
          go_wp2
          go_ret
          exact ⟨rfl, HE10.out.bl⟩
set_option maxRecDepth 100000 in
set_option maxHeartbeats 4000000 in
theorem models_no (w : World) (N : Nt) (A : Option Addr) (c : Nat) (hlen : N.l.length ≤ 140737488355328) (hN : NtAt w w.heap.size A N.l) (hT : Tab w) (h : fewB N = false ∨ (fewB N = true ∧ (10 < N.n ∨ (¬ 10 < N.n ∧ (cchk N ≠ 0 ∨ (cchk N = 0 ∧ ap2 N N.n.toNat = false)))))) :
    Calls Tryd.prog 9 #[ntV N A c] w fun e w' => e = .returned (.bool true) ∧ Below w.heap.size w w' := by
  have hnet := ntNew w N A c 24 _ rfl
  have hbl : Below w.heap.size w (w.alloc (.cells #[.int .i64 N.n, .slice A N.l.length c] 24)) := (Below.refl _ _).alloc (Nat.le_refl _) _
  have hfw := fun W h => few_any W N A c hlen h
  have hck := fun W h => rcheck_any W N A c hlen h
  have HFW := Lib.hid hfw
  have HCK := Lib.hid hck
  have HWK := Lib.hid works_any
  clear hfw hck
  rcases h with hf | ⟨hf, h10 | ⟨h10, hk | ⟨hk, ha⟩⟩⟩
  · rw [hf] at HFW
    clear hf
    obtain ⟨n, l⟩ := N
    go_enter Tryd.func9, Tryd.ntmps9
    go_wp2_with fail
    refine (HFW.out _ ((hN.below hbl).more hbl.size)).mono ?_
    rintro e w2 ⟨rfl, hb2⟩
    have hbl2 := Cs.Below.trans' hbl hb2 hbl.size
    go_wp2_with fail
    refine (HWK.out _ (hT.below hbl2)).mono ?_
    rintro e w3 ⟨rfl, hb3⟩
    go_wp2
    go_ret
    exact ⟨rfl, Cs.Below.trans' hbl2 hb3 hbl2.size⟩
  · rw [hf] at HFW
    clear hf
    obtain ⟨n, l⟩ := N
    simp only at h10
    go_enter Tryd.func9, Tryd.ntmps9
    go_wp2_with fail
    refine (HFW.out _ ((hN.below hbl).more hbl.size)).mono ?_
    rintro e w2 ⟨rfl, hb2⟩
    replace hnet := rowBelow hnet hb2
    have hbl2 := Cs.Below.trans' hbl hb2 hbl.size
    obtain ⟨hn1', hn2'⟩ := ntCells hnet
    go_wp2_with fail
    refine (HWK.out _ (hT.below hbl2)).mono ?_
    rintro e w3 ⟨rfl, hb3⟩
    go_wp2
    go_ret
    exact ⟨rfl, Cs.Below.trans' hbl2 hb3 hbl2.size⟩
  · rw [hf] at HFW
    clear hf
    obtain ⟨C, hC⟩ : ∃ V, cchk N = V := ⟨_, rfl⟩
    rw [hC] at HCK
    have hk1 : (C == 0) = false := beq_eq_false_iff_ne.2 (hC ▸ hk)
    have hk3 : ¬ C = 0 := hC ▸ hk
    have hk2 : (C != 0) = true := bne_iff_ne.2 hk3
    clear hC hk
    obtain ⟨n, l⟩ := N
    simp only at h10
    go_enter Tryd.func9, Tryd.ntmps9
    go_wp2_with fail
    refine (HFW.out _ ((hN.below hbl).more hbl.size)).mono ?_
    rintro e w2 ⟨rfl, hb2⟩
    replace hnet := rowBelow hnet hb2
    replace hbl := Cs.Below.trans' hbl hb2 hbl.size
    obtain ⟨hn1', hn2'⟩ := ntCells hnet
    go_wp2_with fail
    refine (HCK.out _ ((hN.below hbl).more hbl.size)).mono ?_
    rintro e w3 ⟨rfl, hb3⟩
    replace hbl := Cs.Below.trans' hbl hb3 hbl.size
    go_wp2_with fail
    refine (HWK.out _ (hT.below hbl)).mono ?_
    rintro e w4 ⟨rfl, hb4⟩
    go_wp2
    go_ret
    exact ⟨rfl, Cs.Below.trans' hbl hb4 hbl.size⟩
  · rw [hf] at HFW
    obtain ⟨hv, _, _⟩ := cchk_zero hk
    obtain ⟨hn0, _, _, _⟩ := vld_bounds hv
    have hap := fun W h => rapart2_any W N A c N.n.toNat (by omega) (by omega) h hv
    simp only [ha] at hap
    have HAP := Lib.hid hap
    rw [hk] at HCK
    clear hf hap ha hk hv
    obtain ⟨n, l⟩ := N
    simp only at h10
    go_enter Tryd.func9, Tryd.ntmps9
    go_wp2_with fail
    refine (HFW.out _ ((hN.below hbl).more hbl.size)).mono ?_
    rintro e w2 ⟨rfl, hb2⟩
    replace hnet := rowBelow hnet hb2
    replace hbl := Cs.Below.trans' hbl hb2 hbl.size
    obtain ⟨hn1', hn2'⟩ := ntCells hnet
    go_wp2_with fail
    refine (HCK.out _ ((hN.below hbl).more hbl.size)).mono ?_
    rintro e w3 ⟨rfl, hb3⟩
    replace hnet := rowBelow hnet hb3
    replace hbl := Cs.Below.trans' hbl hb3 hbl.size
    obtain ⟨hn1', hn2'⟩ := ntCells hnet
    go_wp2_with fail
    refine (HAP.out _ ((hN.below hbl).more hbl.size)).mono ?_
    rintro e w4 ⟨rfl, hb4⟩
    replace hbl := Cs.Below.trans' hbl hb4 hbl.size
    go_wp2_with fail
    refine (HWK.out _ (hT.below hbl)).mono ?_
    rintro e w5 ⟨rfl, hb5⟩
    go_wp2
    go_ret
    exact ⟨rfl, Cs.Below.trans' hbl hb5 hbl.size⟩
theorem countModels_any (w : World) (N : Nt) (A : Option Addr) (c : Nat) (hlen : N.l.length ≤ 140737488355328) (hN : NtAt w w.heap.size A N.l) (hT : Tab w) :
    Calls Tryd.prog 9 #[ntV N A c] w fun e w' => e = .returned (.bool true) ∧ Below w.heap.size w w' := by
  by_cases h : fewB N = false ∨ (fewB N = true ∧ (10 < N.n ∨ (¬ 10 < N.n ∧ (cchk N ≠ 0 ∨ (cchk N = 0 ∧ ap2 N N.n.toNat = false)))))
  · exact models_no w N A c hlen hN hT h
  · have hf : fewB N = true := by
      cases hf : fewB N
      · exact absurd (.inl hf) h
      · rfl
    have h10 : ¬ 10 < N.n := fun h1 => h (.inr ⟨hf, .inl h1⟩)
    have hk : cchk N = 0 := by
      rcases Decidable.em (cchk N = 0) with h1 | h1
      · exact h1
      · exact absurd (.inr ⟨hf, .inr ⟨h10, .inl h1⟩⟩) h
    have ha : ap2 N N.n.toNat = true := by
      cases ha : ap2 N N.n.toNat
      · exact absurd (.inr ⟨hf, .inr ⟨h10, .inr ⟨hk, ha⟩⟩⟩) h
      · rfl
    obtain ⟨hv, _, _⟩ := cchk_zero hk
    obtain ⟨hn0, _, _, _⟩ := vld_bounds hv
    exact models_ok w N A c N.n.toNat (by omega) (by omega) hN hT hk hf ha
end Go.Proofs.YtcgejdlfiemjaaaDoor
