import Derived.Test.YtgnobohfnhpkdaaGreatDoorRK
import Derived.Test.YtgnobohfnhpkdaaGreatDoorYr
set_option linter.unusedSimpArgs false
set_option linter.unusedVariables false
set_option maxRecDepth 100000
set_option maxHeartbeats 4000000
section
open Go Go.RowKit Cs
namespace Go.Proofs.YtgnobohfnhpkdaaGreatDoor
theorem nat_bit (y e : Nat) : ((((y : Nat) : Int) / 2 ^ e).tmod 2 == 1) = (y / 2 ^ e % 2 == 1) := by
 have e1 : ((y : Nat) : Int) / 2 ^ e = ((y / 2 ^ e : Nat) : Int) := by simp
 have e2 : ((y / 2 ^ e : Nat) : Int).tmod 2 = ((y / 2 ^ e % 2 : Nat) : Int) := rfl;rw [e1, e2];by_cases h : y / 2 ^ e % 2 = 1
 ·rw [h]; rfl
 ·rw [beq_eq_false_iff_ne.2 h];exact beq_eq_false_iff_ne.2 fun e => h (by exact_mod_cast e)
def rdrV : Option (Nat × Nat) → Value
 | none => .tuple #[.string ⟨#[48]⟩, .int .i64 0, .bool false]
 | some (x, u) => .tuple #[.string (dec x), .int .i64 (u : Int), .bool true]
theorem rdraw36_any (w : World) (c : Nat) (bs : List Nat) (Ab : Option Addr) (cb : Nat) (hc : 0 < c) (hc8 : n8 c ≤ 100000) (hlb : bs.length ≤ 1000000) (hbs : Rd w w.heap.size Ab bs.length (byF bs)) (hb8 : ∀ i, bs.getD i 0 < 256) :
  Calls Tryz.prog 45 #[.string (dec c), .slice Ab bs.length cb] w fun e w' => e = .returned (rdrV (drawN c bs)) ∧ Below w.heap.size w w' := by
 have hbt := fun W => rbits_any W c hc hc8;have hk : nd 2 (c - 1) ≤ 1000000 := nd2_le (Nat.le_trans (n8_mono (Nat.sub_le _ _)) (by omega));obtain ⟨D, hD⟩ : ∃ D, drawN c bs = D := ⟨_, rfl⟩;rw [hD];unfold drawN at hD;obtain ⟨k, hkk⟩ : ∃ k, nd 2 (c - 1) = k := ⟨_, rfl⟩;rw [hkk] at hbt hk hD;have hbd : ∀ at' m, m ≤ k → decN (bitsV bs at' m) ≤ 10000000 := fun at' m hm => decN_two _ m 10000000 (bitsV_lt bs at' m) (by omega) (by decide);have hbd2 : ∀ at' m, m ≤ k → decN (bitsV bs at' m + bitsV bs at' m) ≤ 10000000 := fun at' m hm => decN_two _ (m + 1) 10000000 (by have := bitsV_lt bs at' m; rw [Nat.pow_succ]; omega) (by omega) (by decide);have hturn := fun f at' h => drawN_turn bs c k (fun _ => hc) f at' h;have HBT := zqh hbt;have HBD := zqh hbd;have HBD2 := zqh hbd2;have HTU := zqh hturn;have HD := zqh hD;have HB8 := zqh hb8;have HBS := zqh hbs;have HC := zqh hc;have H1 := zqh (show dec 1 = (⟨#[49]⟩ : ByteArray) from dec_one);have H0 := zqh (show dec 0 = (⟨#[48]⟩ : ByteArray) from dec_zero);clear hbt hbd hbd2 hturn hD hb8 hbs hc hkk
 go_enter Tryz.func45, Tryz.ntmps45
 go_wp2_with fail
 refine (HBT.out _).mono ?_;rintro e w1 ⟨rfl, hb1⟩
 go_wp2_with fail
 go_loopw [8] (fun t wr => ∃ at' f : Nat, at' ≤ 8 * bs.length ∧ t = .int .i64 (at' : Int) ∧ Hid (8 * bs.length < at' + f) ∧ Hid (drawF bs c k f at' = D) ∧ Below w.heap.size w wr) (fun t _ => 8 * bs.length + 1 - (intOf t).toNat)
 case atStart => exact ⟨0, 8 * bs.length + 1, Nat.zero_le _, rfl, zqh (by omega), HD.out, hb1⟩
 case round =>
  clear hb1;obtain ⟨at', f, hat, rfl, HF, HDF, hbel⟩ := hrel;have htu := HTU.out f at' HF.out;rw [HDF.out] at htu;rcases Nat.lt_or_ge (8 * bs.length) (at' + k) with hlt | hge
  ·rw [if_neg (by omega)] at htu;have d1 : decide ((at' : Int) + (k : Int) ≤ 8 * (bs.length : Int)) = false := decide_eq_false (by omega);have HTT := zqh htu;clear htu
   go_wp2_with fail
   go_ret3
   exact ⟨by rw [HTT.out]; rfl, hbel⟩
  ·rw [if_pos hge] at htu;have d1 : decide ((at' : Int) + (k : Int) ≤ 8 * (bs.length : Int)) = true := decide_eq_true (by omega);have HTT := zqh htu;clear htu
   go_wp2_with fail
   go_loopw [9, 10] (fun s t wr => ∃ m : Nat, m ≤ k ∧ t = .int .i64 ((at' + m : Nat) : Int) ∧ s = .string (dec (bitsV bs at' m)) ∧ Below w.heap.size w wr) (fun _ t _ => at' + k - (intOf t).toNat)
   case atStart => exact ⟨0, Nat.zero_le _, rfl, by rw [show bitsV bs at' 0 = 0 from rfl, H0.out], hbel⟩
   case round =>
    clear hbel;obtain ⟨m, hm, rfl, rfl, hbel⟩ := hrel;rcases Nat.lt_or_ge m k with hmk | hmk
    ·have hbm : bitsV bs at' (m + 1) = bitsV bs at' m + bitsV bs at' m + bitAt bs (at' + m) := rfl;have hbl := bitAt_lt bs (at' + m);have e1 : bitAt bs (at' + m) = bs.getD ((at' + m) / 8) 0 / 2 ^ (7 - (at' + m) % 8) % 2 := rfl;have hbb := HB8.out ((at' + m) / 8);obtain ⟨bb, ob, rfl, hbB, hcb⟩ := HBS.out (by omega);have c1 := (hbel.cell (p := ⟨bb, ob + (at' + m) / 8, none⟩) hbB).trans (hcb ((at' + m) / 8) (by omega));unfold byF at c1;have hxd := HBD.out at' m hm;have hxd2 := HBD2.out at' m hm;obtain ⟨p, hp⟩ : ∃ p, at' + m = p := ⟨_, rfl⟩;rw [hp] at e1 hbm hbl hbb c1 ⊢;obtain ⟨x, hx⟩ : ∃ x, bitsV bs at' m = x := ⟨_, rfl⟩;rw [hx] at hbm hxd hxd2 ⊢;obtain ⟨y, hy⟩ : ∃ y, bs.getD (p / 8) 0 = y := ⟨_, rfl⟩;rw [hy] at e1 hbb c1;have had := fun W => radd_any W x x hxd hxd;have hone := fun W => radd_any W (x + x) 1 hxd2 (by decide +kernel);rw [H1.out] at hone;have HAD := zqh had;have HON := zqh hone;have HBM := zqh hbm
     have hpk : p < at' + k := by omega
     have d2 : decide ((p : Int) < (at' : Int) + (k : Int)) = true := decide_eq_true (by omega);clear hcb hx hy had hone hbm
     have hp8 : p / 8 < bs.length := by omega
     have i0 : (0 : Int) ≤ (p : Int) / 8 := by omega
     have i1 : (p : Int) / 8 < (bs.length : Int) := by omega
     have hbit := nat_bit y (7 - p % 8);rw [← e1] at hbit;have B9 : decN (x + x + 1) = decN (x + x + 1) := rfl;clear e1 B9
     have hgo : bitAt bs p = 0 ∨ bitAt bs p = 1 := by omega
     rcases hgo with hb0 | hb1
     ·rw [hb0] at hbit
      have hbm2 : bitsV bs at' (m + 1) = x + x := by rw [HBM.out, hb0]; rfl
      have HBM2 := zqh hbm2;have hbit2 : ((((y : Nat) : Int) / 2 ^ (7 - p % 8)).tmod 2 == 1) = false := hbit;clear hbm2 hb0 hbl hbit
      go_wp2_with fail
      refine (HAD.out _).mono ?_;rintro e w2 ⟨rfl, hb2⟩;have hB2 := zqx hbel hb2 hbel.size;have c2 := below_cell hb2 (Nat.lt_of_lt_of_le hbB hbel.size) c1;clear c1 hb2 hbel
      go_wp2_with fail
      exact ⟨⟨m + 1, by omega, by go_num, by rw [HBM2.out], hB2⟩, by simp [intOf]; omega⟩
     ·rw [hb1] at hbit
      have hbm2 : bitsV bs at' (m + 1) = x + x + 1 := by rw [HBM.out, hb1]
      have HBM2 := zqh hbm2;have hbit2 : ((((y : Nat) : Int) / 2 ^ (7 - p % 8)).tmod 2 == 1) = true := hbit;clear hbm2 hb1 hbl hbit
      go_wp2_with fail
      refine (HAD.out _).mono ?_;rintro e w2 ⟨rfl, hb2⟩;have hB2 := zqx hbel hb2 hbel.size;have c2 := below_cell hb2 (Nat.lt_of_lt_of_le hbB hbel.size) c1;clear c1 hb2 hbel
      go_wp2_with fail
      refine (HON.out _).mono ?_;rintro e w3 ⟨rfl, hb3⟩;have hB3 := zqx hB2 hb3 hB2.size;clear hb3 hB2
      go_wp2_with fail
      exact ⟨⟨m + 1, by omega, by go_num, by rw [HBM2.out], hB3⟩, by simp [intOf]; omega⟩
    ·obtain rfl : m = k := by omega
     have d2 : decide (((at' + m : Nat) : Int) < (at' : Int) + (m : Int)) = false := decide_eq_false (by omega);have hcm := fun W => rcmp_any W (bitsV bs at' m) c;obtain ⟨x, hx⟩ : ∃ x, bitsV bs at' m = x := ⟨_, rfl⟩;have htt := HTT.out;rw [hx] at hcm htt ⊢;rcases Nat.lt_or_ge x c with hxc | hxc
     ·have hc1 : cmpN x c = -1 := by unfold cmpN; rw [if_pos hxc]
      rw [hc1] at hcm;rw [if_pos hxc] at htt;have HCM := zqh hcm;have HT2 := zqh htt;clear hcm htt hc1 hxc hx
      go_wp2_with fail
      refine (HCM.out _).mono ?_;rintro e w5 ⟨rfl, rfl⟩
      go_wp2_with fail
      go_ret3
      exact ⟨by rw [HT2.out]; rfl, hbel⟩
     ·have hc1 : decide (cmpN x c < 0) = false := decide_eq_false (by unfold cmpN; rw [if_neg (by omega)]; split <;> decide);rw [if_neg (by omega)] at htt
      have hk0 : 0 < m := Nat.pos_of_ne_zero fun h0 => by
       rw [h0] at hx;have : bitsV bs at' 0 = 0 := rfl;have := HC.out;omega
      generalize cmpN x c = C at *
      have HCM := zqh hcm;have HT2 := zqh htt;have hff := HF.out;clear hcm htt hxc hx
      go_wp2_with fail
      refine (HCM.out _).mono ?_;rintro e w5 ⟨rfl, rfl⟩
      go_wp2_with fail
      exact ⟨⟨at' + m, f, by omega, by go_num, zqh (by omega), zqh HT2.out.symm, hbel⟩, by simp [intOf]; omega⟩
end Go.Proofs.YtgnobohfnhpkdaaGreatDoor
end
section
open Go Go.RowKit Cs
namespace Cs
def numL (n : Nat) (L : List Pr) : List Nat := (List.range (n + 1)).map fun v => if v = 0 then 0 else (L.getD v (0, 0)).1
theorem numL_len (n : Nat) (L : List Pr) : (numL n L).length = n + 1 := by simp [numL]
theorem numL_get (n : Nat) (L : List Pr) (v : Nat) : (numL n L).getD v 0 = if 1 ≤ v ∧ v ≤ n then (L.getD v (0, 0)).1 else 0 := by
 unfold numL;rw [List.getD_eq_getElem?_getD, List.getElem?_map];by_cases h : v < n + 1
 ·rw [List.getElem?_range h];show (if v = 0 then 0 else (L.getD v (0, 0)).1) = _;by_cases h0 : v = 0
  ·rw [if_pos h0, if_neg (by omega)]
  ·rw [if_neg h0, if_pos (by omega)]
 ·rw [if_neg (by omega), List.getElem?_eq_none (by simp; omega)]; rfl
theorem numL_zero (n : Nat) (L : List Pr) : (numL n L).getD 0 0 = 0 := by rw [numL_get, if_neg (by omega)]
theorem numL_zr (n : Nat) (L : List Pr) (v : Nat) (h1 : 1 ≤ v) (h2 : v ≤ n) (i : Nat) : (numL n (zr L v)).getD i 0 = if i = v then 0 else (numL n L).getD i 0 := by
 rw [numL_get, numL_get, zr_get];by_cases h : i = v
 ·rw [if_pos h, if_pos h]; split <;> rfl
 ·rw [if_neg h, if_neg h]
theorem wx_wn {N : Nt} {n : Nat} {lo hi : List Pr} (hv : vld N = true) (hn : N.n = (n : Int)) (h : WhIn lo hi) : ((RN 0).wit (WX (numL n lo) (numL n hi))).sum N = totN N n lo hi := by
 rw [tot_wh h];refine wit_sum hv _ _ fun l hl => ?_;have hr := litOk_rng' hl;unfold WX WN plit;by_cases hp : 0 < l
 ·rw [if_pos hp, if_pos (by omega), if_neg (by omega), numL_get, if_pos (by omega), show l.toNat = l.natAbs by omega]
 ·rw [if_neg hp, if_pos (by omega), if_pos (by omega), numL_get, if_pos (by omega), show (-l).toNat = l.natAbs by omega]
def Le100 (L : List Pr) : Prop := ∀ k, (L.getD k (0, 0)).1 ≤ 2 ^ 100
theorem Le100.zr {L : List Pr} (h : Le100 L) (v : Nat) : Le100 (zr L v) := fun k => by
 rw [zr_get];split
 ·exact Nat.zero_le _
 ·exact h k
theorem Le100.num {L : List Pr} (h : Le100 L) (n i : Nat) : (numL n L).getD i 0 ≤ 2 ^ 100 := by
 rw [numL_get];split
 ·exact h i
 ·exact Nat.zero_le _
end Cs
namespace Go.Proofs.YtgnobohfnhpkdaaGreatDoor
def StrR (w : World) (g : Nat) (t : TypeId) (cap m : Nat) (X : List Nat) : Prop := ∃ F, w.rowIs g t cap F ∧ m ≤ cap ∧ ∀ i, i < m → F i = decF X i
section
variable {w w' : World} {g cap m : Nat} {t : TypeId} {X : List Nat}
theorem StrR.below (h : StrR w g t cap m X) (hb : Below w.heap.size w w') : StrR w' g t cap m X := let ⟨F, h1, h2, h3⟩ := h; ⟨F, rowBelow h1 hb, h2, h3⟩
theorem StrR.setOther (h : StrR w g t cap m X) {a : Addr} (ha : g ≠ a.block) (v : Value) : StrR (w.setCell a v) g t cap m X := let ⟨F, h1, h2, h3⟩ := h; ⟨F, h1.setOther ha v, h2, h3⟩
theorem StrR.lt (h : StrR w g t cap m X) : g < w.heap.size := let ⟨F, h1, _, _⟩ := h; h1.lt
theorem StrR.cell (h : StrR w g t cap m X) (i : Nat) (hi : i < m) : w.cell? ⟨g, i, none⟩ = some (.string (dec (X.getD i 0))) := by
 obtain ⟨F, h1, h2, h3⟩ := h
 rw [h1.cell (i := i) (by omega), h3 i hi]; rfl
theorem StrR.frozen (h : StrR w g t cap m X) (i : Nat) : w.frozen? ⟨g, i, none⟩ = false := let ⟨F, h1, _, _⟩ := h; h1.frozen i
theorem StrR.put (h : StrR w g t cap m X) (i x : Nat) {Y : List Nat} (hY : ∀ j, j < m → Y.getD j 0 = if j = i then x else X.getD j 0) : StrR (w.setCell ⟨g, i, none⟩ (.string (dec x))) g t cap m Y := by
 obtain ⟨F, h1, h2, h3⟩ := h;refine ⟨_, h1.set i (.string (dec x)), h2, fun j hj => ?_⟩;unfold decF;rw [hY j hj];by_cases e : j = i
 ·rw [if_pos e, if_pos e]
 ·rw [if_neg e, if_neg e, h3 j hj]; rfl
theorem StrR.rd (h : StrR w g t cap m X) : Rd w w.heap.size (some ⟨g, 0, none⟩) m (decF X) := by
 obtain ⟨F, h1, h2, h3⟩ := h;exact (Rd.of_row h1 h2 h1.lt).congr h3
end
structure Cx (w wr : World) (tN tS tT : TypeId) (n : Nat) (A : Option Addr) (ln c g1 c1 g2 c2 : Nat) (X Y : List Nat) (a : Nat) : Prop where
 net : wr.rowIs w.heap.size tN 2 (arrF #[.int .i64 (n : Int), .slice A ln c])
 res : wr.rowIs (w.heap.size + 1) tS 2 (setsF [0])
 st : wr.rowIs (w.heap.size + 1 + 1) tS 2 (setsF [a])
 low : StrR wr g1 tT c1 (n + 1) X
 high : StrR wr g2 tT c2 (n + 1) Y
 o1 : w.heap.size + 1 + 1 < g1
 o2 : g1 < g2
 bl : Below w.heap.size w wr
theorem Cx.below {w wr w' : World} {tN tS tT : TypeId} {n : Nat} {A : Option Addr} {ln c g1 c1 g2 c2 : Nat} {X Y : List Nat} {a : Nat} (h : Cx w wr tN tS tT n A ln c g1 c1 g2 c2 X Y a) (hb : Below wr.heap.size wr w') : Cx w w' tN tS tT n A ln c g1 c1 g2 c2 X Y a :=
 ⟨rowBelow h.net hb, rowBelow h.res hb, rowBelow h.st hb, h.low.below hb, h.high.below hb, h.o1, h.o2, zqx h.bl hb h.bl.size⟩
theorem Cx.putHigh {w wr : World} {tN tS tT : TypeId} {n : Nat} {A : Option Addr} {ln c g1 c1 g2 c2 : Nat} {X Y Y' : List Nat} {a : Nat} (h : Cx w wr tN tS tT n A ln c g1 c1 g2 c2 X Y a) (i x : Nat) (hY : ∀ j, j < n + 1 → Y'.getD j 0 = if j = i then x else Y.getD j 0) :
  Cx w (wr.setCell ⟨g2, i, none⟩ (.string (dec x))) tN tS tT n A ln c g1 c1 g2 c2 X Y' a := by
 have o1 := h.o1;have o2 := h.o2;exact ⟨h.net.setOther (show w.heap.size ≠ g2 by omega) _, h.res.setOther (show w.heap.size + 1 ≠ g2 by omega) _, h.st.setOther (show w.heap.size + 1 + 1 ≠ g2 by omega) _, h.low.setOther (show g1 ≠ g2 by omega) _, h.high.put i x hY, o1, o2, h.bl.setCell (p := ⟨g2, i, none⟩) (show w.heap.size ≤ g2 by omega) _⟩
theorem Cx.putLow {w wr : World} {tN tS tT : TypeId} {n : Nat} {A : Option Addr} {ln c g1 c1 g2 c2 : Nat} {X X' Y : List Nat} {a : Nat} (h : Cx w wr tN tS tT n A ln c g1 c1 g2 c2 X Y a) (i x : Nat) (hX : ∀ j, j < n + 1 → X'.getD j 0 = if j = i then x else X.getD j 0) :
  Cx w (wr.setCell ⟨g1, i, none⟩ (.string (dec x))) tN tS tT n A ln c g1 c1 g2 c2 X' Y a := by
 have o1 := h.o1;have o2 := h.o2;exact ⟨h.net.setOther (show w.heap.size ≠ g1 by omega) _, h.res.setOther (show w.heap.size + 1 ≠ g1 by omega) _, h.st.setOther (show w.heap.size + 1 + 1 ≠ g1 by omega) _, h.low.put i x hX, h.high.setOther (show g2 ≠ g1 by omega) _, o1, o2, h.bl.setCell (p := ⟨g1, i, none⟩) (show w.heap.size ≤ g1 by omega) _⟩
theorem Cx.putSet {w wr : World} {tN tS tT : TypeId} {n : Nat} {A : Option Addr} {ln c g1 c1 g2 c2 : Nat} {X Y : List Nat} {a a' : Nat} (h : Cx w wr tN tS tT n A ln c g1 c1 g2 c2 X Y a) (hr : (wr.setCell ⟨w.heap.size + 1 + 1, 0, none⟩ (.int .u64 (lo a' : Int))).rowIs (w.heap.size + 1 + 1) tS 2 (setsF [a'])) :
  Cx w (wr.setCell ⟨w.heap.size + 1 + 1, 0, none⟩ (.int .u64 (lo a' : Int))) tN tS tT n A ln c g1 c1 g2 c2 X Y a' := by
 have o1 := h.o1;have o2 := h.o2;exact ⟨h.net.setOther (show w.heap.size ≠ w.heap.size + 1 + 1 by omega) _, h.res.setOther (show w.heap.size + 1 ≠ w.heap.size + 1 + 1 by omega) _, hr, h.low.setOther (show g1 ≠ w.heap.size + 1 + 1 by omega) _, h.high.setOther (show g2 ≠ w.heap.size + 1 + 1 by omega) _, o1, o2, h.bl.setCell (p := ⟨w.heap.size + 1 + 1, 0, none⟩) (show w.heap.size ≤ w.heap.size + 1 + 1 by omega) _⟩
theorem decs_cells {W : World} {b o m B : Nat} {X : List Nat} (h : ∀ i, i < m → W.cell? ⟨b, o + i, none⟩ = some (decF X i)) : ∀ j u, ((List.range m).map (decF X))[j]? = some u → W.cell? ((⟨b, o, none⟩ : Addr).add j) = some u := fun j u hu => by
 have hj : j < m := by
  have := (List.getElem?_eq_some_iff.1 hu).1
  simpa using this
 have hadd : (⟨b, o, none⟩ : Addr).add j = ⟨b, o + j, none⟩ := by unfold Addr.add; split <;> simp_all
 rw [hadd, h j hj];rw [List.getElem?_map, List.getElem?_range hj] at hu;exact hu
theorem decs_one {m : Nat} {X : List Nat} : ∀ u ∈ (List.range m).map (decF X), u.oneCell' = true := fun u hu => by
 obtain ⟨i, _, rfl⟩ := List.mem_map.1 hu
 rfl
theorem own_str {w : World} {base : Nat} {t : TypeId} {v : Value} {n : Nat} {X : List Nat} (h : w.ownsRow base t 1 v (n + 1) ((List.range (n + 1)).map (decF X))) : ∃ g cap, v = .slice (some ⟨g, 0, none⟩) (n + 1) cap ∧ base ≤ g ∧ StrR w g t cap (n + 1) X := by
 obtain ⟨g, cap, f, rfl, h1, h2, h3, h4, h5⟩ := ownsRows h (by omega);rw [Nat.mul_one] at h4;refine ⟨g, cap, rfl, h1, f, h4, h3, fun i hi => ?_⟩;have := h5 i (by omega);rw [List.getElem?_map, List.getElem?_range hi] at this;injection this with this;exact this.symm
theorem rchoice36_any (w : World) (N : Nt) (A Al Ah : Option Addr) (c cl ch n r : Nat) (lo hi : List Pr) (hn : N.n = (n : Int)) (hn20 : n ≤ 20) (hN : NtAt w w.heap.size A N.l) (hc : cchk N = 0) (hwh : WhIn lo hi) (hbl : Le100 lo) (hbh : Le100 hi) (hr8 : n8 r ≤ 100000)
  (hL : Rd w w.heap.size Al (n + 1) (decF (numL n lo))) (hH : Rd w w.heap.size Ah (n + 1) (decF (numL n hi))) :
  Calls Tryz.prog 46 #[ntV N A c, .slice Al (n + 1) cl, .slice Ah (n + 1) ch, .string (dec r)] w fun e w' => e = .returned (setV (choiceN N n lo hi r)) ∧ Below w.heap.size w w' := by
 obtain ⟨ti, hti, ht0, ht1, ht2⟩ := info_parts info_str;have hv := cchk_vld hc;have hsm := fun W Bl Bh dl dh (L H : List Pr) (h1 : WhIn L H) (h2 : Le100 L) (h3 : Le100 H) hN hL hH => rsum36_any W N A Bl Bh c dl dh n (numL n L) (numL n H) hn hn20 hN hc (numL_len n L) (numL_len n H) (numL_zero n L) (numL_zero n H) (h2.num n) (h3.num n) hL hH
 have hsm' : ∀ W Bl Bh dl dh (L H : List Pr), WhIn L H → Le100 L → Le100 H → NtAt W W.heap.size A N.l → Rd W W.heap.size Bl (n + 1) (decF (numL n L)) → Rd W W.heap.size Bh (n + 1) (decF (numL n H)) →
   Calls Tryz.prog 44 #[ntV N A c, .slice Bl (n + 1) dl, .slice Bh (n + 1) dh] W fun e w' => e = .returned (.string (dec (totN N n L H))) ∧ Below W.heap.size W w' := fun W Bl Bh dl dh L H h1 h2 h3 h4 h5 h6 => by
  have := hsm W Bl Bh dl dh L H h1 h2 h3 h4 h5 h6;rw [wx_wn hv hn h1] at this;exact this
 have HSM := zqh hsm';have hfin : (Ch.run N n ⟨r, lo, hi, 0⟩ n).a = choiceN N n lo hi r := rfl;have hstep : ∀ k, Ch.run N n ⟨r, lo, hi, 0⟩ (k + 1) = (Ch.run N n ⟨r, lo, hi, 0⟩ k).step N n (k + 1) := fun k => rfl;have hrr := fun k => Ch.run_r N n ⟨r, lo, hi, 0⟩ k;obtain ⟨RUN, hRUN⟩ : ∃ f, Ch.run N n ⟨r, lo, hi, 0⟩ = f := ⟨_, rfl⟩
 have h0 : RUN 0 = ⟨r, lo, hi, 0⟩ := by rw [← hRUN]; rfl
 rw [hRUN] at hfin;simp only [hRUN] at hstep hrr;obtain ⟨C, hC⟩ : ∃ C, choiceN N n lo hi r = C := ⟨_, rfl⟩;rw [hC] at hfin ⊢;have HFIN := zqh hfin;have HSTEP := zqh hstep;have HRR := zqh hrr;have HR0 := zqh h0;have hwh0 := zqh hwh;have hbl0 := zqh hbl;have hbh0 := zqh hbh;clear hsm hsm' hfin hstep hrr h0 hRUN hC hwh hbl hbh hv hc;obtain ⟨Nn, l⟩ := N;simp only at hn;subst hn;have q0 := (((Bag.zero w).new #[.int .i64 (n : Int), .slice A l.length c] 24 w.heap.size 2 rfl rfl).new #[.int .u64 0, .int .u64 0] 30 (w.heap.size + 1) 2 (by simp) rfl).new #[.int .u64 0, .int .u64 0] 30 (w.heap.size + 1 + 1) 2 (by simp) rfl;have HNT := zqh (fun W (hb : Below w.heap.size w W) => (hN.below hb).more hb.size);obtain ⟨ba, oa, rfl, hba, hca⟩ := hL (by omega);obtain ⟨bh, oh, rfl, hbh, hch⟩ := hH (by omega);have hsz0 := (q0.rows (w.heap.size + 1 + 1, 30, 2, #[.int .u64 0, .int .u64 0]) (by simp)).lt;have hca1 : ∀ W, Below w.heap.size w W → ∀ i, i < n + 1 → W.cell? ⟨ba, oa + i, none⟩ = some (decF (numL n lo) i) := fun W hb i hi => (hb.cell (p := ⟨ba, oa + i, none⟩) hba).trans (hca i hi);have hch1 : ∀ W, Below w.heap.size w W → ∀ i, i < n + 1 → W.cell? ⟨bh, oh + i, none⟩ = some (decF (numL n hi) i) := fun W hb i hi => (hb.cell (p := ⟨bh, oh + i, none⟩) hbh).trans (hch i hi);have HCA := zqh hca1;have HCH := zqh hch1;clear hca hch hca1 hch1 hL hH hN
 go_enter Tryz.func46, Tryz.ntmps46
 obtain ⟨W3, hW3⟩ : ∃ W, ((w.alloc (.cells #[.int .i64 (n : Int), .slice A l.length c] 24)).alloc (.cells #[.int .u64 0, .int .u64 0] 30)).alloc (.cells #[.int .u64 0, .int .u64 0] 30) = W := ⟨_, rfl⟩
 have hWz : W3.heap.size = w.heap.size + 1 + 1 + 1 := by rw [← hW3]; simp
 have own1 : (W3.alloc (.cells #[] 9)).ownsRow (w.heap.size + 1 + 1 + 1) 9 1 (.slice (some ⟨w.heap.size + 1 + 1 + 1, 0, none⟩) 0 0) 0 [] := own_of_row (f := arrF #[]) (arrNew W3 #[] 9 (w.heap.size + 1 + 1 + 1) 0 hWz rfl) (zqn _) (Nat.zero_le _);rw [hW3] at q0;have hB1 : Below w.heap.size w (W3.alloc (.cells #[] 9)) := q0.bl.alloc q0.bl.size _;have hB3 : Below W3.heap.size W3 (W3.alloc (.cells #[] 9)) := (zqr _ _).alloc (zqn _) _
 go_wp2_with (first
  | (at_builtin
     refine wpList_append_own _ rfl _ _ 43 rfl (w.heap.size + 1 + 1 + 1) 9 ti (.string ⟨#[]⟩) 1 16 Tryz.underlying43 hti ht0 ht1 ht2 rfl (by decide) _ _ _ rfl own1 ⟨ba, oa, none⟩ (n + 1) cl ((List.range (n + 1)).map (decF (numL n lo))) rfl (by simp) (decs_cells (B := 0) (HCA.out _ hB1)) decs_one (by unfold maxLen; omega) (by omega) (by simp; omega) ?_;intro v3 w3 hown3 hgr3 _
     have hb3 : Below W3.heap.size W3 w3 := hB3.grown hgr3 (by simp) (fun k e => by
      have e2 : w.heap.size + 1 + 1 + 1 = k := by injection e
      omega)
     have q3 := q0.below hb3;rw [Nat.zero_add, List.nil_append] at hown3;obtain ⟨g1, c1, rfl, hg1, hs3⟩ := own_str hown3;have own5 : (w3.alloc (.cells #[] 9)).ownsRow w3.heap.size 9 1 (.slice (some ⟨w3.heap.size, 0, none⟩) 0 0) 0 [] := own_of_row (f := arrF #[]) (arrNew w3 #[] 9 w3.heap.size 0 rfl rfl) (zqn _) (Nat.zero_le _);have hB5 : Below w.heap.size w (w3.alloc (.cells #[] 9)) := q3.bl.alloc q3.bl.size _
     clear hown3 hgr3 own1 hB1 hB3)
  | (at_builtin
     refine wpList_append_own _ rfl _ _ 43 rfl w3.heap.size 9 ti (.string ⟨#[]⟩) 1 16 Tryz.underlying43 hti ht0 ht1 ht2 rfl (by decide) _ _ _ rfl own5 ⟨bh, oh, none⟩ (n + 1) ch ((List.range (n + 1)).map (decF (numL n hi))) rfl (by simp) (decs_cells (B := 0) (HCH.out _ hB5)) decs_one (by unfold maxLen; omega) (by omega) (by simp) ?_;intro v5 w5 hown5 hgr5 _
     have hb5 : Below w3.heap.size w3 w5 := ((zqr _ _).alloc (zqn _) (.cells #[] 9)).grown hgr5 (by simp) (fun k e => by
      have e2 : w3.heap.size = k := by injection e
      omega)
     have q5 := q3.below hb5;rw [Nat.zero_add, List.nil_append] at hown5;obtain ⟨g2, c2, rfl, hg2, hs5⟩ := own_str hown5;have lg1 := hs3.lt;replace hs3 := hs3.below hb5
     clear hown5 hgr5 own5 hB5))
 have hcz : ∀ {W : World} {g : Nat}, W.rowIs g 30 2 (arrF #[.int .u64 0, .int .u64 0]) → W.rowIs g 30 2 (setsF [0]) := fun h => h.congr fun i hi => by
  have : i = 0 ∨ i = 1 := by omega
  rcases this with rfl | rfl <;> rfl
 have hx0 : Cx w w5 24 30 9 n A l.length c g1 c1 g2 c2 (numL n lo) (numL n hi) 0 :=
  ⟨q5.rows (w.heap.size, 24, 2, #[.int .i64 (n : Int), .slice A l.length c]) (by simp), hcz (q5.rows (w.heap.size + 1, 30, 2, #[.int .u64 0, .int .u64 0]) (by simp)), hcz (q5.rows (w.heap.size + 1 + 1, 30, 2, #[.int .u64 0, .int .u64 0]) (by simp)), hs3, hs5, by omega, by omega, q5.bl⟩
 have HZ := zqh (show dec 0 = (⟨#[48]⟩ : ByteArray) from dec_zero);clear hcz hs3 hs5 q5 q3 q0 hb3 hb5 hWz hsz0 hg1 hg2 lg1 hW3
 go_loopw [3, 10] (fun rv t wr => ∃ (k : Nat) (s : Ch), k ≤ n ∧ Hid (RUN k = s) ∧ t = .int .i64 ((k : Int) + 1) ∧ rv = .string (dec s.r) ∧ Hid (WhIn s.lo s.hi) ∧ Hid (Le100 s.lo) ∧ Hid (Le100 s.hi) ∧ Cx w wr 24 30 9 n A l.length c g1 c1 g2 c2 (numL n s.lo) (numL n s.hi) s.a) (fun _ t _ => n + 1 - (intOf t).toNat)
 case atStart => exact ⟨0, ⟨r, lo, hi, 0⟩, Nat.zero_le _, HR0, rfl, rfl, hwh0, hbl0, hbh0, hx0⟩
 case round =>
  clear hx0 hwh0 hbl0 hbh0;obtain ⟨k, s, hk, HS, rfl, rfl, HW, HL1, HL2, hx⟩ := hrel;have hrk := HRR.out k;rw [HS.out] at hrk;have hst := HSTEP.out k;rw [HS.out] at hst;have n1 := hx.net.cell (i := 0) (by omega);have n2 := hx.net.cell (i := 1) (by omega);replace n1 : wr.cell? ⟨w.heap.size, 0, none⟩ = some (.int .i64 (n : Int)) := n1;replace n2 : wr.cell? ⟨w.heap.size, 1, none⟩ = some (.slice A l.length c) := n2;rcases Nat.lt_or_ge k n with hlt | hge
  ·obtain ⟨sr, slo, shi, sa⟩ := s;simp only at hrk hx;unfold Ch.step at hst;simp only [Nat.add_sub_cancel] at hst;have hsm := fun W Bl Bh dl dh h4 h5 h6 => HSM.out W Bl Bh dl dh slo (zr shi (k + 1)) (HW.out.zhi (k + 1)) HL1.out (HL2.out.zr (k + 1)) h4 h5 h6;obtain ⟨T, hT⟩ : ∃ T, totN ⟨(n : Int), l⟩ n slo (zr shi (k + 1)) = T := ⟨_, rfl⟩;rw [hT] at hst hsm;have hcm := fun W => rcmp_any W sr T;have HSM1 := zqh hsm;have HCM := zqh hcm;have HST := zqh hst;have hch1 := hx.high.cell (k + 1) (by omega);have hcf1 := hx.high.frozen (k + 1);have hx1 := hx.putHigh (k + 1) 0 (Y' := numL n (zr shi (k + 1))) (fun j hj => numL_zr n shi (k + 1) (by omega) (by omega) j);rw [HZ.out] at hx1;obtain ⟨y, hy⟩ : ∃ y, (numL n shi).getD (k + 1) 0 = y := ⟨_, rfl⟩;rw [hy] at hch1;have HY := zqh hy;have hg2 := hx.high.lt;have o1 := hx.o1;have o2 := hx.o2;have d1 : decide ((k : Int) + 1 ≤ (n : Int)) = true := decide_eq_true (by omega)
   have i0 : (0 : Int) ≤ (k : Int) + 1 := by omega
   have i1 : (k : Int) + 1 < (n : Int) + 1 := by omega
   have i2 : k + 1 < n + 1 := by omega
   have N1 : Hid (g2 ≠ w.heap.size) := zqh (by omega);have HX1 := zqh hx1;have hX1n1 := hx1.net.cell (i := 0) (by omega);have hX1n2 := hx1.net.cell (i := 1) (by omega);replace hX1n1 : (wr.setCell ⟨g2, k + 1, none⟩ (.string ⟨#[48]⟩)).cell? ⟨w.heap.size, 0, none⟩ = some (.int .i64 (n : Int)) := hX1n1;replace hX1n2 : (wr.setCell ⟨g2, k + 1, none⟩ (.string ⟨#[48]⟩)).cell? ⟨w.heap.size, 1, none⟩ = some (.slice A l.length c) := hX1n2;clear hsm hcm hst hT hx hx1 hy o1 o2
   go_wp2_with fail
   refine (HSM1.out _ _ _ c1 c2 (HNT.out _ HX1.out.bl) HX1.out.low.rd HX1.out.high.rd).mono ?_;rintro e w6 ⟨rfl, hb6⟩;have HX6 := zqh (HX1.out.below hb6);clear hX1n1 hX1n2 hch1 hcf1 n1 n2 hb6 HX1;rcases Nat.lt_or_ge sr T with hrT | hrT
   ·have hc1 : cmpN sr T = -1 := by unfold cmpN; rw [if_pos hrT]
    have hcm := HCM.out;rw [hc1] at hcm;have hst := HST.out;rw [if_neg (by omega)] at hst;have HC1 := zqh hcm;have HS1 := zqh hst;clear hcm hst hc1 hrT
    go_wp2_with fail
    refine (HC1.out _).mono ?_;rintro e w7 ⟨rfl, rfl⟩
    go_wp2_with fail
    exact ⟨⟨k + 1, ⟨sr, slo, zr shi (k + 1), sa⟩, by omega, HS1, by go_num, rfl, zqh (HW.out.zhi (k + 1)), HL1, zqh (HL2.out.zr (k + 1)), HX6.out⟩, by simp [intOf]; omega⟩
   ·have hc1 : decide (cmpN sr T < 0) = false := decide_eq_false (by unfold cmpN; rw [if_neg (by omega)]; split <;> decide);have hcm := HCM.out;have hst := HST.out;rw [if_pos (by omega)] at hst;have hd1 := decN_n8 sr 100000 (Nat.le_trans (n8_mono hrk) hr8) (by omega);have hsu := fun W => rsub_any W sr T (by omega) (by have := decN_mono hrT; omega) hrT
    generalize cmpN sr T = CM at *
    have HC1 := zqh hcm;have HS1 := zqh hst;have HSU := zqh hsu;clear hcm hst hsu hrT
    go_wp2_with fail
    refine (HC1.out _).mono ?_;rintro e w7 ⟨rfl, rfl⟩
    go_wp2_with fail
    refine (HSU.out _).mono ?_;rintro e w8 ⟨rfl, hb8⟩;have hx8 := HX6.out.below hb8
    have hx9 := hx8.putHigh (k + 1) y (Y' := numL n shi) (fun j hj => by
     by_cases e : j = k + 1
     ·rw [if_pos e, e, HY.out]
     ·rw [if_neg e, numL_zr n shi (k + 1) (by omega) (by omega) j, if_neg e])
    have hx10 := hx9.putLow (k + 1) 0 (X' := numL n (zr slo (k + 1))) (fun j hj => numL_zr n slo (k + 1) (by omega) (by omega) j);rw [HZ.out] at hx10;have f8 := hx8.high.frozen (k + 1);have k8 := hx8.high.cell (k + 1) (by omega);have f9 := hx9.low.frozen (k + 1);have k9 := hx9.low.cell (k + 1) (by omega);obtain ⟨ha1, ha2, ha3, ha4⟩ := setPair hx10.st;have e4 := wrap_two k (by omega);have e5 := u64_or_nat (Cs.lo sa) (2 ^ k) (lo_lt sa) (Nat.pow_lt_pow_right (by decide) (show k < 64 by omega));simp only [Int.natCast_pow, Int.cast_ofNat_Int] at e5
    have e6 : Cs.lo (sa ||| 2 ^ k) = Cs.lo sa ||| 2 ^ k := by rw [lo_or, lo_two, if_pos (by omega)]
    have e7 : Cs.hi (sa ||| 2 ^ k) = Cs.hi sa := by rw [hi_or, hi_two k (by omega), if_pos (by omega)]; simp
    have hp := setsPut1 hx10.st e7;have hx11 := hx10.putSet hp;rw [e6] at hx11;have HX11 := zqh hx11;have hg1l := hx8.low.lt;have hg2l := hx8.high.lt;have o1 := hx8.o1;have o2 := hx8.o2
    have e2 : (k : Int) / 64 = 0 := by omega
    have e3 : (k : Int) % 64 = (k : Int) := by omega
    have e1 : (k : Int) + 1 - 1 = (k : Int) := by omega
    clear hx8 hx9 hx10 hx11 hp e6 e7 hb8
    go_wp2_with fail
    exact ⟨⟨k + 1, ⟨sr - T, zr slo (k + 1), shi, sa ||| 2 ^ k⟩, by omega, HS1, by go_num, rfl, zqh (HW.out.zlo (k + 1)), zqh (HL1.out.zr (k + 1)), HL2, HX11.out⟩, by simp [intOf]; omega⟩
  ·obtain rfl : k = n := by omega
   have d1 : decide ((k : Int) + 1 ≤ (k : Int)) = false := decide_eq_false (by omega)
   have ha : s.a = C := by rw [← HFIN.out, HS.out]
   rw [ha] at hx;obtain ⟨hs1, hs2, _, _⟩ := setPair hx.st;obtain ⟨hr1, hr2, hr3, hr4⟩ := setPair hx.res;have hfin := ((hx.res.set 0 (.int .u64 (Cs.lo C : Int))).set 1 (.int .u64 (Cs.hi C : Int)));have HFN := zqh hfin;have hbb := hx.bl;clear hfin hx ha hst hrk
   go_wp2_with fail
   refine ret_set rfl C rfl HFN.out rfl rfl rfl ⟨rfl, (hbb.setCell (by simp) _).setCell (by simp) _⟩
end Go.Proofs.YtgnobohfnhpkdaaGreatDoor
end
