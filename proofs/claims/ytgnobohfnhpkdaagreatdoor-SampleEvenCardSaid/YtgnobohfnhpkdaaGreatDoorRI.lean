import Derived.Test.YtgnobohfnhpkdaaGreatDoorRH
import Derived.Test.YtgnobohfnhpkdaaGreatDoorD1
import Derived.Test.YtgnobohfnhpkdaaGreatDoorZg
import Derived.WalkMore
set_option linter.unusedSimpArgs false
set_option linter.unusedVariables false
set_option maxRecDepth 100000
set_option maxHeartbeats 4000000
section
open Go Go.RowKit Cs
namespace Go.Proofs.YtgnobohfnhpkdaaGreatDoor
theorem form_nil (w : World) : Calls Tryz.prog 112 #[.slice none 0 0] w fun e w' => e = .returned (.string (dec 0)) ∧ Below w.heap.size w w' := by
 obtain ⟨ti, hi, hz0, hz1, hz2⟩ := info_parts info_u8;have hz := dec_zero;rw [hz]
 have hmk : ∀ u : World, (Instr.makeSlice 25 (.int .i64 0) (.int .i64 0)).run Tryz.prog u = .ok (.slice (some ⟨u.heap.size, 0, none⟩) 0 0) (u.alloc (.cells (madeCells #[.int .u8 0] 0) 5)) := fun u =>
  run_make_row 25 5 ti (.int .u8 0) Tryz.underlying25 hi hz0 hz1 rfl .i64 .i64 0 (by rw [hz2]; omega) (by omega) u
 go_enter Tryz.func112, Tryz.ntmps112
 go_wp2_with fail
 go_loop [3] (fun t => t = .int .i64 0) (fun _ => 0)
 case atStart => rfl
 case round =>
  subst hrel
  go_wp2_with fail
  go_loopw [4, 5] (fun o i wr => o = .slice (some ⟨w.heap.size, 0, none⟩) 0 0 ∧ i = .int .i64 (-1) ∧ Below w.heap.size w wr) (fun _ _ _ => 0)
  case atStart => exact ⟨rfl, rfl, (zqr _ _).alloc (zqn _) _⟩
  case round =>
   obtain ⟨rfl, rfl, hbel⟩ := hrel
   go_wp2_with fail
   go_ret
   exact ⟨rfl, hbel⟩
theorem rof_any (w : World) (V : Nat) (hV : V < 18446744073709551616) : Calls Tryz.prog 146 #[.int .u64 (V : Int)] w fun e w' => e = .returned (.string (dec V)) ∧ Below w.heap.size w w' := by
 obtain ⟨ti, hi, hz0, hz1, hz2⟩ := info_parts info_int;have hfm := fun W A n cap h0 h1 h2 h3 => form_pos W A n cap V h0 h1 h2 h3;have hn20 : nd 10 V ≤ 20 := (nd10_pow V 20).2 (Nat.lt_of_lt_of_le hV (by decide));have HF := zqh hfm;clear hfm
 go_enter Tryz.func146, Tryz.ntmps146
 go_wp2
 go_loopw [0, 3] (fun x l wr => ∃ k : Nat, k ≤ nd 10 V ∧ x = .int .u64 ((V / 10 ^ k : Nat) : Int) ∧ wr.ownsRow w.heap.size 3 1 l k (dgi V k) ∧ (k = 0 → l = .slice none 0 0) ∧ Below w.heap.size w wr)
  (fun x _ _ => (intOf x).toNat)
 case atStart => exact ⟨0, Nat.zero_le _, by rw [Nat.pow_zero, Nat.div_one], World.ownsRow_nil _ _ _ _, fun _ => rfl, zqr _ _⟩
 case round =>
  obtain ⟨k, hk, rfl, hown, hnil, hbel⟩ := hrel;have hszw := hbel.size;obtain ⟨Q, hQ⟩ : ∃ Q, V / 10 ^ k = Q := ⟨_, rfl⟩
  have hQ1 : V / 10 ^ (k + 1) = Q / 10 := by rw [Nat.pow_succ, ← Nat.div_div_eq_div_mul, hQ]
  have hQ2 : dg 10 V k = Q % 10 := by unfold dg; rw [hQ]
  have hQV : Q ≤ V := by rw [← hQ]; exact Nat.div_le_self _ _
  rcases Nat.eq_zero_or_pos Q with h0 | h0
  ·have hk2 : nd 10 V ≤ k := by
    rw [nd10_pow];rw [h0] at hQ
    exact Nat.lt_of_not_le fun h => by
     have := Nat.div_pos h (Nat.pow_pos (show 0 < 10 by decide));omega
   obtain rfl : k = nd 10 V := by omega
   rw [hQ, h0];rcases Nat.eq_zero_or_pos (nd 10 V) with hz | hz
   ·have hV0 : V = 0 := by
     have := (nd10_pow V 0).1 (by omega)
     simpa using this
    obtain rfl : u3 = .slice none 0 0 := hnil hz;subst hV0;clear hown HF
    go_wp2_with fail
    refine (form_nil _).mono ?_;rintro e w' ⟨rfl, hb9⟩
    go_wp2_with fail
    go_ret
    exact ⟨rfl, zqx hbel hb9 hszw⟩
   ·obtain ⟨go', cp, rfl, hgo1, hgo2⟩ := ownsForm hown hz;have hrd : Rd wr wr.heap.size (some ⟨go', 0, none⟩) (nd 10 V) (dgF V) := Rd.of_own hown fun i hi => dgi_get _ _ _ hi;have HR := zqh hrd;clear hrd hown
    go_wp2_with fail
    refine (HF.out _ _ (nd 10 V) cp hz (by omega) (zqn _) HR.out).mono ?_;rintro e w' ⟨rfl, hb9⟩
    go_wp2_with fail
    go_ret
    exact ⟨rfl, zqx hbel hb9 hszw⟩
  ·have hk3 : k < nd 10 V := Nat.lt_of_not_le fun h => by
    have := (nd10_pow V k).1 h;have := Nat.div_eq_of_lt this;omega
   have hlt0 : ∀ k, u3.ownBlock = some k → w.heap.size ≤ k := fun k hk => (hown.lt k hk).1;rw [hQ]
   have e1 : ((Q : Int) % 10) = ((dg 10 V k : Nat) : Int) := by rw [hQ2]; omega
   have HQ1 := zqh hQ1;have HE := zqh e1;clear hQ hQ1 hQ2 e1
   go_wp2_with (at_builtin; go_loud (refine wpList_append_own _ rfl _ _ 54 rfl w.heap.size 3 ti (.int .i64 0) 1 8 Tryz.underlying54 hi hz0 hz1 hz2 rfl (by decide) _ _ _ rfl (hown.alloc _) ⟨wr.heap.size, 0, none⟩ 1 1 [.int .i64 ((Q : Int) % 10)] rfl rfl newOne oneInt (by unfold maxLen; omega) (by omega) (by simp; omega) ?_; intro v' w3 hown3 hgr3 _))
   have hbel3 := (hbel.alloc hbel.size _).grown hgr3 (by simp; omega) (fun k e => hlt0 k e);rw [HE.out, ← dgi_succ] at hown3;exact ⟨⟨k + 1, by omega, by rw [HQ1.out]; simp, hown3, fun h => absurd h (by omega), hbel3⟩, by simp [intOf]; omega⟩
noncomputable def decV (v : Value) : Nat := open Classical in if h : ∃ n, v = .string (dec n) then h.choose else 0
theorem decV_dec (n : Nat) : decV (.string (dec n)) = n := by
 have h : ∃ m, Value.string (dec n) = .string (dec m) := ⟨n, rfl⟩;unfold decV;rw [dif_pos h];have := h.choose_spec;injection this with this;exact (dec_inj this).symm
theorem dec10 : dec 10 = ⟨#[49, 48]⟩ := by decide +kernel
def dvF (Q m t j : Nat) : Value := if j = m then .int .i64 (t : Int) else if m + 1 ≤ j then dgF Q j else .int .i64 0
theorem rdiv_any (w : World) (a b : Nat) (ha : decN a ≤ 1000000) (hb : decN b ≤ 1000000) (hb0 : 0 < b) :
  Calls Tryz.prog 127 #[.string (dec a), .string (dec b)] w fun e w' => e = .returned (.tuple #[.string (dec (a / b)), .string (dec (a % b)), .bool true]) ∧ Below w.heap.size w w' := by
 have hsa := dec_size a;have hna := nd_decN a;have h1a := decN_one a
 have hbne : ((dec b).toList == [48]) = false := beq_eq_false_iff_ne.2 fun e => by have := (dec_is0 b).1 e; omega
 have hrd : ∀ k, decN (rd a b k) ≤ 1000001 := fun k => by
  have h : rd a b k < b := Nat.mod_lt _ hb0;have := decN_mono (Nat.le_of_lt h);omega
 have hx : ∀ k, decN (rd a b (k + 1) * 10 + dg 10 a k) ≤ 1000002 := fun k => by
  have h := rd_lt a b k hb0;have h2 := decN_mono (Nat.le_of_lt h)
  have h3 : decN (10 * b) ≤ 1000001 := by
   refine decN_le _ _ ?_ (by omega);have := lt_decN b
   calc 10 * b < 10 * 10 ^ decN b := by omega
    _ = 10 ^ (decN b + 1) := by rw [Nat.pow_succ]; omega
    _ ≤ 10 ^ 1000001 := Nat.pow_le_pow_right (by decide) (by omega)
  omega
 have hmu := fun W k => rmul_any W (rd a b k) 10 (by have := hrd k; omega) (by decide +kernel);rw [dec10] at hmu;have hda := fun W i hi => rdigit_any W a i (by omega) hi;have hof := fun W k => rof_any W (dg 10 a k) (by have := dg10_lt a k; omega);have had := fun W k => radd_any W (rd a b (k + 1) * 10) (dg 10 a k) (by have := hx k; have := decN_mono (show rd a b (k + 1) * 10 ≤ rd a b (k + 1) * 10 + dg 10 a k by omega); omega) (by have := hx k; have := decN_mono (show dg 10 a k ≤ rd a b (k + 1) * 10 + dg 10 a k by omega); omega);have hcm := fun W x => rcmp_any W x b;have hsu := fun W k t (h : (t + 1) * b ≤ rd a b (k + 1) * 10 + dg 10 a k) => rsub_any W (rd a b (k + 1) * 10 + dg 10 a k - t * b) b (by have := hx k; have := decN_mono (show rd a b (k + 1) * 10 + dg 10 a k - t * b ≤ rd a b (k + 1) * 10 + dg 10 a k by omega); omega) (by omega) (by rw [Nat.succ_mul] at h; omega);have hnd := div_nd a b;have hfm := fun W A n cap h0 h1 h2 h3 => form_pos W A n cap (a / b) h0 h1 h2 h3;have hz0 : rd a b (decN a) = 0 := rd_top a b _ hna;obtain ⟨sa, hsa'⟩ : ∃ s, s = dec a := ⟨_, rfl⟩;rw [← hsa'] at hsa hda ⊢;rw [← hsa] at hz0;clear hsa';have hmk := rmk_int sa.size (by omega);have HMU := zqh hmu;have HDA := zqh hda;have HOF := zqh hof;have HAD := zqh had;have HCM := zqh hcm;have HSU := zqh hsu;have HF := zqh hfm;have HZ0 := zqh hz0;have HZZ := zqh (show dec 0 = (⟨#[48]⟩ : ByteArray) from dec_zero)
 have hza : sa.size ≤ 1000000 := by omega
 have hz1a : 1 ≤ sa.size := by omega
 have hna' : nd 10 (a / b) ≤ sa.size := by omega
 have HNA := zqh hna';clear ha hb hsa hna h1a hnd hna' hmu hda hof had hcm hsu hfm hz0 hrd hx
 go_enter Tryz.func127, Tryz.ntmps127
 go_wp2
 go_loopw [8, 9] (fun r i wr => ∃ k : Nat, k ≤ sa.size ∧ i = .int .i64 ((k : Int) - 1) ∧ r = .string (dec (rd a b k)) ∧ wr.rowIs w.heap.size 3 sa.size (fun j => if k ≤ j then dgF (a / b) j else .int .i64 0) ∧ Below w.heap.size w wr)
  (fun _ i _ => (intOf i + 1).toNat)
 case atStart => exact ⟨sa.size, zqn _, rfl, by rw [HZ0.out, HZZ.out], rowMade w (.int .i64 0) sa.size 3 _ rfl (fun i hi => by rw [if_neg (by omega)]), (zqr _ _).alloc (zqn _) _⟩
 case round =>
  obtain ⟨k, hk, rfl, rfl, hrow, hbel⟩ := hrel;rcases Nat.eq_zero_or_pos k with h0 | h0
  ·subst h0;have hrd : Rd wr wr.heap.size (some ⟨w.heap.size, 0, none⟩) sa.size (dgF (a / b)) := Rd.of_row (hrow.congr fun i hi => by rw [if_pos (by omega)]) (zqn _) hrow.lt;have HR := zqh hrd;have hbl := hbel.size;have hz := rd_zero a b;rw [hz];clear hrd hmk hrow hz
   go_wp2_with fail
   refine (HF.out _ _ sa.size sa.size hz1a (by omega) HNA.out HR.out).mono ?_;rintro e w' ⟨rfl, hb9⟩
   go_wp2_with fail
   go_ret3
   exact ⟨rfl, zqx hbel hb9 hbl⟩
  ·obtain ⟨m, rfl⟩ : ∃ m, k = m + 1 := ⟨k - 1, by omega⟩
   have hrow0 : wr.rowIs w.heap.size 3 sa.size (dvF (a / b) m 0) := hrow.congr fun j hj => by
    unfold dvF;by_cases e : j = m
    ·subst e; rw [if_pos rfl, if_neg (by omega)]; rfl
    ·rw [if_neg e]
   have hstep := rd_step a b m;have hdig := rd_digit a b m hb0;have hxlt := rd_lt a b m hb0;obtain ⟨x, hx⟩ : ∃ x, rd a b (m + 1) * 10 + dg 10 a m = x := ⟨_, rfl⟩;have hmu := fun W => HMU.out W (m + 1);have hda := fun W => HDA.out W m (by omega);have hof := fun W => HOF.out W m;have had := fun W => HAD.out W m;have hsu := fun W t => HSU.out W m t;rw [hx] at hstep hdig hxlt had;simp only [hx] at hsu;have HMU' := zqh hmu;have HDA' := zqh hda;have HOF' := zqh hof;have HAD' := zqh had;have HSU' := zqh hsu;have HST := zqh hstep;have HDG := zqh hdig;have HX := zqh hx;have d10 := dg10_lt a m;rw [show (((m + 1 : Nat) : Int) - 1) = (m : Int) by omega];clear hmu hda hof had hsu hstep hdig hrow hx
   generalize dg 10 a m = D at *
   generalize hRR : rd a b (m + 1) = RR at *
   clear hRR
   have hwD : IntKind.u64.wrap (D : Int) = (D : Int) := by rw [IntKind.wrap_u64]; omega
   go_wp2_with fail
   refine (HMU'.out _).mono ?_;rintro e w1 ⟨rfl, hb1⟩
   go_wp2_with fail
   refine (HDA'.out _).mono ?_;rintro e w2 ⟨rfl, rfl⟩
   go_wp2_with fail
   refine (HOF'.out _).mono ?_;rintro e w3 ⟨rfl, hb3⟩
   go_wp2_with fail
   refine (HAD'.out _).mono ?_;rintro e w4 ⟨rfl, hb4⟩;have hB := (hb1.trans (hb3.mono hb1.size)).trans (hb4.mono (Nat.le_trans hb1.size hb3.size));have hrow4 := rowBelow hrow0 hB;have hbel4 := zqx hbel hB hbel.size;clear hb1 hb3 hb4 hB hrow0 hbel
   go_wp2_with fail
   go_loopw [8] (fun r wr => ∃ t : Nat, t * b ≤ x ∧ r = .string (dec (x - t * b)) ∧ wr.rowIs w.heap.size 3 sa.size (dvF (a / b) m t) ∧ Below w.heap.size w wr) (fun r _ => decV r)
   case atStart => exact ⟨0, by omega, by rw [Nat.zero_mul]; rfl, hrow4, hbel4⟩
   case round =>
    clear hrow4 hbel4;obtain ⟨t, ht, rfl, hrow, hbel⟩ := hrel
    have ht10 : t < 10 := Nat.lt_of_not_le fun h => by
     have := Nat.mul_le_mul_right b h;omega
    rcases Nat.lt_or_ge (x - t * b) b with hlt | hge
    ·have hq : t = x / b := by
      have h1 : x / b = t := Nat.div_eq_of_lt_le (by rw [Nat.mul_comm] at ht; rw [Nat.mul_comm]; omega) (by rw [Nat.succ_mul]; omega);exact h1.symm
     have hr : x - t * b = rd a b m := by
      rw [← HST.out];have := Nat.div_add_mod x b;rw [← hq, Nat.mul_comm] at this;omega
     have hc : cmpN (x - t * b) b = -1 := by unfold cmpN; rw [if_pos hlt]
     have hcm := fun W => HCM.out W (x - t * b);rw [hc] at hcm;have HC' := zqh hcm;have HRR := zqh hr;have HTT := zqh (hq.trans HDG.out);clear hq hr hc hcm
     go_wp2_with fail
     refine (HC'.out _).mono ?_;rintro e w5 ⟨rfl, rfl⟩
     go_wp2_with fail
     refine ⟨⟨m, by omega, rfl, by rw [HRR.out], hrow.congr fun j hj => ?_, hbel⟩, by simp [intOf] <;> omega⟩;unfold dvF;by_cases e : j = m
     ·subst e; rw [if_pos rfl, if_pos (zqn _), HTT.out]; rfl
     ·rw [if_neg e];by_cases e2 : m + 1 ≤ j
      ·rw [if_pos e2, if_pos (by omega)]
      ·rw [if_neg e2, if_neg (by omega)]
    ·have hc : 0 ≤ cmpN (x - t * b) b := by unfold cmpN; rw [if_neg (by omega)]; split <;> decide
     have hle : (t + 1) * b ≤ x := by rw [Nat.succ_mul]; omega
     have hcm := fun W => HCM.out W (x - t * b);have hsu := fun W => HSU'.out W t hle
     have hse : x - t * b - b = x - (t + 1) * b := by rw [Nat.succ_mul]; omega
     rw [hse] at hsu
     have hml : x - (t + 1) * b < x - t * b := by omega
     have hd : decide (0 ≤ cmpN (x - t * b) b) = true := decide_eq_true hc
     generalize cmpN (x - t * b) b = C at *
     have HC' := zqh hcm;have HS' := zqh hsu;have hcell := hrow.cell (i := m) (by omega);have hcell2 : wr.cell? ⟨w.heap.size, m, none⟩ = some (.int .i64 (t : Int)) := hcell.trans (by unfold dvF; rw [if_pos rfl]);have hfr := hrow.frozen m;have hrl := hrow.lt;clear hcell hcm hsu hc
     go_wp2_with fail
     refine (HC'.out _).mono ?_;rintro e w5 ⟨rfl, rfl⟩
     go_wp2_with fail
     refine (HS'.out _).mono ?_;rintro e w6 ⟨rfl, hb6⟩;have hrow6 := rowBelow hrow hb6;have hcell6 : w6.cell? ⟨w.heap.size, m, none⟩ = some (.int .i64 (t : Int)) := (hrow6.cell (i := m) (by omega)).trans (by unfold dvF; rw [if_pos rfl]);have hfr6 := hrow6.frozen m;have hset := hrow6.set m (.int .i64 ((t + 1 : Nat) : Int))
     have hset2 : (w6.setCell ⟨w.heap.size, m, none⟩ (.int .i64 ((t + 1 : Nat) : Int))).rowIs w.heap.size 3 sa.size (dvF (a / b) m (t + 1)) := hset.congr fun j hj => by
      unfold dvF;by_cases e : j = m
      ·rw [if_pos e, if_pos e]
      ·rw [if_neg e, if_neg e, if_neg e]
     have hbel6 := (zqx hbel hb6 hbel.size).setCell (p := ⟨w.heap.size, m, none⟩) (zqn _) (.int .i64 ((t + 1 : Nat) : Int));have HS2 := zqh hset2;have HB2 := zqh hbel6
     have hi1 : (m : Int) < (sa.size : Int) := by omega
     have hi2 : m < sa.size := by omega
     have hi3 : (0 : Int) ≤ (m : Int) := by omega
     clear hcell2 hfr hset hset2 hbel6 hb6 hrow
     go_wp2_with fail
     exact ⟨⟨t + 1, hle, rfl, HS2.out, HB2.out⟩, by rw [decV_dec, decV_dec]; exact hml⟩
theorem rgcd_any (w : World) (a b : Nat) (ha : decN a ≤ 1000000) (hb : decN b ≤ 1000000) :
  Calls Tryz.prog 85 #[.string (dec a), .string (dec b)] w fun e w' => e = .returned (.string (dec (Nat.gcd a b))) ∧ Below w.heap.size w w' := by
 have hdv := fun W x y h1 h2 h3 => rdiv_any W x y h1 h2 h3;have HDV := zqh hdv;clear hdv
 have HG : Hid (∀ x y, 0 < y → Nat.gcd y (x % y) = Nat.gcd x y) := zqh fun x y h => by rw [Nat.gcd_comm y, ← Nat.gcd_rec, Nat.gcd_comm]
 go_enter Tryz.func85, Tryz.ntmps85
 go_wp2_with fail
 go_loopw [0, 1] (fun s t wr => ∃ x y : Nat, s = .string (dec x) ∧ t = .string (dec y) ∧ decN x ≤ 1000000 ∧ decN y ≤ 1000000 ∧ Nat.gcd x y = Nat.gcd a b ∧ Below w.heap.size w wr) (fun _ t _ => decV t)
 case atStart => exact ⟨a, b, rfl, rfl, ha, hb, rfl, zqr _ _⟩
 case round =>
  clear ha hb;obtain ⟨x, y, rfl, rfl, hx, hy, hg, hbel⟩ := hrel;rcases Nat.eq_zero_or_pos y with h0 | h0
  ·have hbe : ((dec y).toList == [48]) = true := by rw [beq_iff_eq]; exact (dec_is0 y).2 h0
   have hxg : x = Nat.gcd a b := by rw [← hg, h0, Nat.gcd_zero_right]
   have HXG := zqh hxg
   have hb3 : ((dec y).toList != [48]) = false := by simp [bne, hbe]
   clear hg hxg h0
   go_wp2_with fail
   go_ret
   exact ⟨by rw [HXG.out]; rfl, hbel⟩
  ·have hbe : ((dec y).toList == [48]) = false := beq_eq_false_iff_ne.2 fun e => by have := (dec_is0 y).1 e; omega
   have hml : x % y < y := Nat.mod_lt _ h0;have hgg := HG.out x y h0;rw [hg] at hgg;have HGG := zqh hgg
   have hdy : decN (x % y) ≤ 1000000 := by have := decN_mono (Nat.le_of_lt hml); omega
   have hdv := fun W => HDV.out W x y hx hy h0;have HD' := zqh hdv
   generalize x / y = Q at *
   have hb3 : ((dec y).toList != [48]) = true := by simp [bne, hbe]
   clear hdv hg hgg
   go_wp2_with fail
   refine (HD'.out _).mono ?_;rintro e w1 ⟨rfl, hb1⟩
   go_wp2_with fail
   exact ⟨⟨y, x % y, rfl, rfl, hy, hdy, HGG.out, zqx hbel hb1 hbel.size⟩, by rw [decV_dec, decV_dec]; exact hml⟩
end Go.Proofs.YtgnobohfnhpkdaaGreatDoor
end
section
open Go Go.RowKit Cs
namespace Go.Proofs.YtgnobohfnhpkdaaGreatDoor
theorem rparts_slash (w : World) (s a b : ByteArray) (k : Nat) (hsz : s.size ≤ 1000000) (hk : k ≤ s.size) (hne : ∀ j (h : j < s.size), j < k → (s[j]'h).toNat ≠ 47)
  (hend : (k = s.size ∧ a = s ∧ b = ⟨#[49]⟩) ∨ (∃ h : k < s.size, (s[k]'h).toNat = 47 ∧ s.extract 0 k = a ∧ s.extract (k + 1) s.size = b)) :
  Calls Tryz.prog 83 #[.string s] w fun e w' => e = .returned (.tuple #[.string a, .string b]) ∧ Below w.heap.size w w' := by
 have HNE := zqh hne;have HEND := zqh hend;clear hne hend
 go_enter Tryz.func83, Tryz.ntmps83
 go_wp2_with fail
 go_loopw [4] (fun t wr => ∃ i : Nat, i ≤ k ∧ t = .int .i64 (i : Int) ∧ wr = w) (fun t _ => s.size - (intOf t).toNat)
 case atStart => exact ⟨0, Nat.zero_le _, rfl, rfl⟩
 case round =>
  obtain ⟨i, hi, rfl, rfl⟩ := hrel;rcases Nat.lt_or_ge i k with hik | hik
  ·have hlt : i < s.size := by omega
   have hb := HNE.out i hlt hik;have hb2 : (((s[i]'hlt).toNat : Int) == 47) = false := beq_eq_false_iff_ne.2 (by exact_mod_cast hb);have d1 : decide ((i : Int) < (s.size : Int)) = true := decide_eq_true (by omega)
   have i0 : (0 : Int) ≤ (i : Int) := by omega
   have i1 : (i : Int) < (s.size : Int) := by omega
   clear hb
   go_wp2_with fail
   exact ⟨⟨i + 1, by omega, by go_num, by first | rfl | trivial⟩, by simp [intOf]; omega⟩
  ·obtain rfl : i = k := by omega
   rcases HEND.out with ⟨h1, h2, h3⟩ | ⟨hlt, h1, h2, h3⟩
   ·have d1 : decide ((i : Int) < (s.size : Int)) = false := decide_eq_false (by omega)
    have d2 : ¬ i < s.size := by omega
    have d3 : ¬ (i : Int) < (s.size : Int) := by omega
    have d4 : (s.size : Int) ≤ (i : Int) := by omega
    subst h2;subst h3;clear h1 HNE
    go_wp2_with fail
    go_ret2
    exact ⟨rfl, zqr _ _⟩
   ·have hb2 : (((s[i]'hlt).toNat : Int) == 47) = true := by rw [h1]; rfl
    have d1 : decide ((i : Int) < (s.size : Int)) = true := decide_eq_true (by omega)
    have i0 : (0 : Int) ≤ (i : Int) := by omega
    have i1 : (i : Int) < (s.size : Int) := by omega
    have i2 : (i : Int) ≤ (s.size : Int) := by omega
    have i3 : (i : Int) + 1 ≤ (s.size : Int) := by omega
    have i4 : (0 : Int) ≤ (i : Int) + 1 := by omega
    have i5 : decide ((0 : Int) ≤ (i : Int)) = true := decide_eq_true i0;subst h2;subst h3;clear h1
    go_wp2_with fail
    go_region
    all_goals
     go_wp2_with fail
     go_ret2
     exact ⟨rfl, (zqr _ _).drew⟩
theorem dec_byte (V j : Nat) (h : j < (dec V).size) : ((dec V)[j]'h).toNat ≠ 47 := by rw [dec_get]; omega
def PT (s : ByteArray) (n d : Nat) : Prop := (s = dec n ∧ d = 1) ∨ s = dec n ++ ⟨#[47]⟩ ++ dec d
theorem PT.read {s : ByteArray} {q : Rat} (h : rdO s = some q) : PT s (qn q) q.den := by
 obtain ⟨_, e, _, _⟩ := rdO_spec h;unfold qtext at e;by_cases hd : q.den = 1
 ·rw [if_pos hd] at e; exact .inl ⟨e, hd⟩
 ·rw [if_neg hd] at e; exact .inr e
theorem PT.dec (n : Nat) : PT (dec n) n 1 := .inl ⟨rfl, rfl⟩
theorem rparts_any (w : World) (s : ByteArray) (n d : Nat) (h : PT s n d) (hz : s.size ≤ 1000000) :
  Calls Tryz.prog 83 #[.string s] w fun e w' => e = .returned (.tuple #[.string (dec n), .string (dec d)]) ∧ Below w.heap.size w w' := by
 rcases h with ⟨e, hd⟩ | e
 ·subst e;exact rparts_slash w _ _ _ (dec n).size (by omega) (zqn _) (fun j h _ => dec_byte _ j h) (.inl ⟨rfl, rfl, by rw [hd]; decide +kernel⟩)
 ·have hc := frac_cut n d;have hsl := slash_frac n d;unfold cutN cutD at hc;rw [hsl, if_neg (by omega), if_neg (by omega), Int.toNat_natCast] at hc
  have hsize : (dec n ++ (⟨#[47]⟩ : ByteArray) ++ dec d).size = (dec n).size + 1 + (dec d).size := by rw [ByteArray.size_append, ByteArray.size_append]; rfl
  have h1 := decN_one d;have h2 := dec_size d;subst e;refine rparts_slash w _ _ _ (dec n).size (by omega) (by omega) (fun j h hj => ?_) (.inr ⟨by omega, ?_, hc.1, hc.2⟩)
  ·have e2 : (dec n ++ (⟨#[47]⟩ : ByteArray) ++ dec d)[j]'h = (dec n)[j]'hj := by
    rw [ByteArray.getElem_append_left (by rw [ByteArray.size_append]; omega), ByteArray.getElem_append_left hj]
   rw [e2];exact dec_byte _ j hj
  ·have e2 : (dec n ++ (⟨#[47]⟩ : ByteArray) ++ dec d)[(dec n).size]'(by omega) = 47 := by
    rw [ByteArray.getElem_append_left (by rw [ByteArray.size_append]; show _ < _ + 1; omega), ByteArray.getElem_append_right (zqn _)];simp
    rfl
   rw [e2]
   rfl
theorem rover_any (w : World) (a b : Nat) (ha : decN a ≤ 1000000) (hb : decN b ≤ 1000000) (hb0 : 0 < b) :
  Calls Tryz.prog 84 #[.string (dec a), .string (dec b)] w fun e w' => e = .returned (.string (dec (a / b))) ∧ Below w.heap.size w w' := by
 have hdv := fun W => rdiv_any W a b ha hb hb0;have HDV := zqh hdv;clear hdv
 generalize a / b = Q at *
 generalize a % b = R at *
 go_enter Tryz.func84, Tryz.ntmps84
 go_wp2_with fail
 refine (HDV.out _).mono ?_;rintro e w1 ⟨rfl, hb1⟩
 go_wp2_with fail
 go_ret
 exact ⟨rfl, hb1⟩
theorem lcm_over (d e : Nat) (hd : 0 < d) : d * e / Nat.gcd d e / d = e / Nat.gcd d e := by
 rw [Nat.mul_div_assoc _ (Nat.gcd_dvd_right _ _), Nat.mul_comm, Nat.mul_div_cancel _ hd]
theorem lcm_over2 (d e : Nat) (he : 0 < e) : d * e / Nat.gcd d e / e = d / Nat.gcd d e := by
 rw [Nat.mul_comm d e, Nat.mul_div_assoc _ (Nat.gcd_dvd_left _ _), Nat.mul_comm, Nat.mul_div_cancel _ he]
theorem rwhole_any (w : World) (sa sb : ByteArray) (n d m e : Nat) (ha : PT sa n d) (hb : PT sb m e) (hza : sa.size ≤ 1000) (hzb : sb.size ≤ 1000) (hn : decN n ≤ 100) (hd : decN d ≤ 100) (hm : decN m ≤ 100) (he : decN e ≤ 100) (hd0 : 0 < d) (he0 : 0 < e) :
  Calls Tryz.prog 43 #[.string sa, .string sb] w fun x w' => x = .returned (.tuple #[.string (dec (n * (e / Nat.gcd d e))), .string (dec (m * (d / Nat.gcd d e)))]) ∧ Below w.heap.size w w' := by
 have hg0 : 0 < Nat.gcd d e := Nat.gcd_pos_of_pos_left _ hd0;have hgd : Nat.gcd d e ≤ d := Nat.gcd_le_left _ hd0
 have hml : decN (d * e) ≤ 200 := by
  refine decN_le _ _ ?_ (by omega);have h1 : d < 10 ^ 100 := Nat.lt_of_lt_of_le (lt_decN d) (Nat.pow_le_pow_right (by decide) hd);have h2 : e < 10 ^ 100 := Nat.lt_of_lt_of_le (lt_decN e) (Nat.pow_le_pow_right (by decide) he);rw [show 200 = 100 + 100 from rfl, Nat.pow_add];exact Nat.mul_lt_mul'' h1 h2
 have q1 := lcm_over d e hd0;have q2 := lcm_over2 d e he0;have hpa := fun W => rparts_any W sa n d ha (by omega);have hpb := fun W => rparts_any W sb m e hb (by omega);have hmu := fun W => rmul_any W d e (by omega) (by omega);have hgc := fun W => rgcd_any W d e (by omega) (by omega);have hov := fun W => rover_any W (d * e) (Nat.gcd d e) (by omega) (by have := decN_mono hgd; omega) hg0;have hL : decN (d * e / Nat.gcd d e) ≤ 200 := Nat.le_trans (decN_mono (Nat.div_le_self _ _)) hml;have ho1 := fun W => rover_any W (d * e / Nat.gcd d e) d (by omega) (by omega) hd0;have ho2 := fun W => rover_any W (d * e / Nat.gcd d e) e (by omega) (by omega) he0;rw [q1] at ho1;rw [q2] at ho2;have hm1 := fun W => rmul_any W n (e / Nat.gcd d e) (by omega) (by have := decN_mono (Nat.div_le_self e (Nat.gcd d e)); omega);have hm2 := fun W => rmul_any W m (d / Nat.gcd d e) (by omega) (by have := decN_mono (Nat.div_le_self d (Nat.gcd d e)); omega);have HPA := zqh hpa;have HPB := zqh hpb;have HMU := zqh hmu;have HGC := zqh hgc;have HOV := zqh hov;have HO1 := zqh ho1;have HO2 := zqh ho2;have HM1 := zqh hm1;have HM2 := zqh hm2;clear hpa hpb hmu hgc hov ho1 ho2 hm1 hm2 q1 q2 hg0 hgd hml hL ha hb hn hd hm he hd0 he0 hza hzb
 go_enter Tryz.func43, Tryz.ntmps43
 go_wp2_with fail
 refine (HPA.out _).mono ?_;rintro x w1 ⟨rfl, hb1⟩
 go_wp2_with fail
 refine (HPB.out _).mono ?_;rintro x w2 ⟨rfl, hb2⟩;have hb := zqx hb1 hb2 hb1.size
 go_wp2_with fail
 refine (HMU.out _).mono ?_;rintro x w3 ⟨rfl, hb3⟩;replace hb := zqx hb hb3 hb.size
 go_wp2_with fail
 refine (HGC.out _).mono ?_;rintro x w4 ⟨rfl, hb4⟩;replace hb := zqx hb hb4 hb.size
 go_wp2_with fail
 refine (HOV.out _).mono ?_;rintro x w5 ⟨rfl, hb5⟩;replace hb := zqx hb hb5 hb.size
 go_wp2_with fail
 refine (HO1.out _).mono ?_;rintro x w6 ⟨rfl, hb6⟩;replace hb := zqx hb hb6 hb.size
 go_wp2_with fail
 refine (HM1.out _).mono ?_;rintro x w7 ⟨rfl, hb7⟩;replace hb := zqx hb hb7 hb.size
 go_wp2_with fail
 refine (HO2.out _).mono ?_;rintro x w8 ⟨rfl, hb8⟩;replace hb := zqx hb hb8 hb.size
 go_wp2_with fail
 refine (HM2.out _).mono ?_;rintro x w9 ⟨rfl, hb9⟩;replace hb := zqx hb hb9 hb.size
 go_wp2_with fail
 go_ret2
 exact ⟨rfl, hb⟩
structure TxAt (n : Nat) (la : List ByteArray) (pl : List Pr) : Prop where
 ln : la.length = n + 1
 pt : ∀ v, 1 ≤ v → v ≤ n → PT (la.getD v ⟨#[]⟩) (pl.getD v (0, 0)).1 (qd (pl.getD v (0, 0)).2)
 sz : ∀ v, 1 ≤ v → v ≤ n → (la.getD v ⟨#[]⟩).size ≤ 1000
 dn : ∀ v, 1 ≤ v → v ≤ n → decN (pl.getD v (0, 0)).1 ≤ 100
 dd : ∀ v, 1 ≤ v → v ≤ n → decN (qd (pl.getD v (0, 0)).2) ≤ 100
theorem rheavy_any (w : World) (n : Nat) (hn : n ≤ 128) (la lb : List ByteArray) (pl ph : List Pr) (Al Ah : Option Addr) (cl ch : Nat) (hA : TxAt n la pl) (hB : TxAt n lb ph) (hrl : Rd w w.heap.size Al (n + 1) (strF la)) (hrh : Rd w w.heap.size Ah (n + 1) (strF lb)) :
  Calls Tryz.prog 42 #[.slice Al (n + 1) cl, .slice Ah (n + 1) ch] w fun e w' => e = .returned (.bool (decide (16384 < sumB pl n + sumB ph n))) ∧ Below w.heap.size w w' := by
 obtain ⟨ba, oa, rfl, hba, hca⟩ := hrl (by omega);obtain ⟨bh, oh, rfl, hbh, hch⟩ := hrh (by omega);have HCA := zqh hca;have HCH := zqh hch
 have hlen : ∀ x, decN x ≤ 100 → nd 2 x ≤ 400 := fun x h => by have := nd2_dec x 100 h; omega
 have HLN := zqh hlen;have HA := zqh hA;have HB := zqh hB;clear hca hch hlen hA hB hrl hrh
 go_enter Tryz.func42, Tryz.ntmps42
 go_wp2_with fail
 go_loopw [5, 6] (fun s t wr => ∃ k : Nat, k ≤ n ∧ t = .int .i64 ((k : Int) + 1) ∧ s = .int .i64 ((sumB pl k + sumB ph k : Nat) : Int) ∧ sumB pl k + sumB ph k ≤ k * 1600 ∧ Below w.heap.size w wr) (fun _ t _ => n + 1 - (intOf t).toNat)
 case atStart => exact ⟨0, Nat.zero_le _, rfl, rfl, Nat.zero_le _, zqr _ _⟩
 case round =>
  obtain ⟨k, hk, rfl, rfl, hsm, hbel⟩ := hrel;rcases Nat.lt_or_ge k n with hlt | hge
  ·have c1 := (hbel.cell (p := ⟨ba, oa + (k + 1), none⟩) hba).trans (HCA.out (k + 1) (by omega));have c2 := (hbel.cell (p := ⟨bh, oh + (k + 1), none⟩) hbh).trans (HCH.out (k + 1) (by omega));have p1 := HA.out.pt (k + 1) (by omega) (by omega);have p2 := HB.out.pt (k + 1) (by omega) (by omega);have z1 := HA.out.sz (k + 1) (by omega) (by omega);have z2 := HB.out.sz (k + 1) (by omega) (by omega);have n1 := HA.out.dn (k + 1) (by omega) (by omega);have n2 := HA.out.dd (k + 1) (by omega) (by omega);have n3 := HB.out.dn (k + 1) (by omega) (by omega);have n4 := HB.out.dd (k + 1) (by omega) (by omega);have hs1 : sumB pl (k + 1) = sumB pl k + (nd 2 (pl.getD (k + 1) (0, 0)).1 + nd 2 (qd (pl.getD (k + 1) (0, 0)).2)) := rfl;have hs2 : sumB ph (k + 1) = sumB ph k + (nd 2 (ph.getD (k + 1) (0, 0)).1 + nd 2 (qd (ph.getD (k + 1) (0, 0)).2)) := rfl;unfold strF at c1 c2
   generalize la.getD (k + 1) ⟨#[]⟩ = sa at *
   generalize lb.getD (k + 1) ⟨#[]⟩ = sb at *
   generalize (pl.getD (k + 1) (0, 0)).1 = x1 at *
   generalize qd (pl.getD (k + 1) (0, 0)).2 = x2 at *
   generalize (ph.getD (k + 1) (0, 0)).1 = x3 at *
   generalize qd (ph.getD (k + 1) (0, 0)).2 = x4 at *
   have hpa := fun W => rparts_any W sa x1 x2 p1 (by omega);have hpb := fun W => rparts_any W sb x3 x4 p2 (by omega);have hl1 := fun W => rlen_any W x1 (by omega);have hl2 := fun W => rlen_any W x2 (by omega);have hl3 := fun W => rlen_any W x3 (by omega);have hl4 := fun W => rlen_any W x4 (by omega);have y1 := HLN.out x1 n1;have y2 := HLN.out x2 n2;have y3 := HLN.out x3 n3;have y4 := HLN.out x4 n4;have HPA := zqh hpa;have HPB := zqh hpb;have HL1 := zqh hl1;have HL2 := zqh hl2;have HL3 := zqh hl3;have HL4 := zqh hl4;have HS1 := zqh hs1;have HS2 := zqh hs2;have HBA := zqh hba;have HBH := zqh hbh;clear hpa hpb hl1 hl2 hl3 hl4 p1 p2 z1 z2 n1 n2 n3 n4 hs1 hs2
   generalize nd 2 x1 = y1v at *
   generalize nd 2 x2 = y2v at *
   generalize nd 2 x3 = y3v at *
   generalize nd 2 x4 = y4v at *
   obtain ⟨S, hS⟩ : ∃ S, sumB pl k + sumB ph k = S := ⟨_, rfl⟩
   have hS' : sumB pl (k + 1) + sumB ph (k + 1) = S + y1v + y2v + y3v + y4v := by rw [HS1.out, HS2.out]; omega
   rw [hS] at hsm ⊢;have HSS := zqh hS'
   have hSb : S ≤ 204800 := by omega
   have d1 : decide ((k : Int) + 1 < (n : Int) + 1) = true := decide_eq_true (by omega)
   have d2 : k + 1 < n + 1 := by omega
   have i0 : (0 : Int) ≤ (k : Int) + 1 := by omega
   have i1 : (k : Int) + 1 < (n : Int) + 1 := by omega
   clear hS hS'
   go_wp2_with fail
   refine (HPA.out _).mono ?_;rintro e w1 ⟨rfl, hb1⟩;have hB1 := zqx hbel hb1 hbel.size;have c2' := below_cell hb1 (Nat.lt_of_lt_of_le HBH.out hbel.size) c2;clear c1 c2
   go_wp2_with fail
   refine (HPB.out _).mono ?_;rintro e w2 ⟨rfl, hb2⟩;have hB2 := zqx hB1 hb2 hB1.size;clear c2' hb1 hb2 hB1
   go_wp2_with fail
   refine (HL1.out _).mono ?_;rintro e w3 ⟨rfl, hb3⟩;have hB3 := zqx hB2 hb3 hB2.size
   go_wp2_with fail
   refine (HL2.out _).mono ?_;rintro e w4 ⟨rfl, hb4⟩;have hB4 := zqx hB3 hb4 hB3.size
   go_wp2_with fail
   refine (HL3.out _).mono ?_;rintro e w5 ⟨rfl, hb5⟩;have hB5 := zqx hB4 hb5 hB4.size
   go_wp2_with fail
   refine (HL4.out _).mono ?_;rintro e w6 ⟨rfl, hb6⟩;have hB6 := zqx hB5 hb6 hB5.size;clear hb3 hb4 hb5 hb6 hB2 hB3 hB4 hB5 hbel
   go_wp2_with fail
   refine ⟨⟨k + 1, by omega, by go_num, ?_, by rw [HSS.out, Nat.succ_mul]; omega, hB6⟩, by simp [intOf] <;> omega⟩;rw [HSS.out]
   go_num
  ·obtain rfl : k = n := by omega
   have d1 : decide ((k : Int) + 1 < (k : Int) + 1) = false := decide_eq_false (by omega);obtain ⟨S, hS⟩ : ∃ S, sumB pl k + sumB ph k = S := ⟨_, rfl⟩;rw [hS];have HSS := zqh hS;clear hS
   have hd : decide (16384 < (S : Int)) = decide (16384 < S) := by
    by_cases h : 16384 < S
    ·rw [decide_eq_true h, decide_eq_true (by exact_mod_cast h)]
    ·rw [decide_eq_false h, decide_eq_false (by exact_mod_cast h)]
   go_wp2_with fail
   go_ret
   exact ⟨by rw [HSS.out, ← hd]; rfl, hbel⟩
end Go.Proofs.YtgnobohfnhpkdaaGreatDoor
end
