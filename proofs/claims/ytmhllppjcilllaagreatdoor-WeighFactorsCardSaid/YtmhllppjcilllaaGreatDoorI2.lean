import Derived.Test.YtmhllppjcilllaaGreatDoorBq
import Derived.Test.YtmhllppjcilllaaGreatDoorB1
import Derived.Test.YtmhllppjcilllaaGreatDoorV1
import Derived.Test.YtmhllppjcilllaaGreatDoorN4
import Derived.Test.YtmhllppjcilllaaGreatDoorS1
import Derived.IntWalk
set_option linter.unusedSimpArgs false
set_option linter.unusedVariables false
set_option maxRecDepth 100000
set_option maxHeartbeats 2000000
section
open Go Go.RowKit Cs
namespace Go.Proofs.YtmhllppjcilllaaGreatDoor
theorem litOk_nat (l n : Int) (h0 : 0 ≤ n) (hn : n ≤ 128) : litOk l n = (decide (l ≠ 0) && decide (-n ≤ l) && decide (l ≤ n)) := by
 unfold litOk litVar;rw [Bool.eq_iff_iff];simp;by_cases h1 : 1 ≤ l ∧ l ≤ 128
 ·rw [if_pos h1]; omega
 ·rw [if_neg h1];by_cases h2 : l ≤ -1 ∧ -128 ≤ l
  ·rw [if_pos h2]; omega
  ·rw [if_neg h2]; omega
theorem valid5_any (w : World) (l n : Int) (h0 : 0 ≤ n) (hn : n ≤ 128) : Calls Tryz.prog 97 #[.int .i64 l, .int .i64 n] w fun e w' => e = .returned (.bool (litOk l n)) ∧ w = w' := by
 rw [litOk_nat l n h0 hn];by_cases h1 : l = 0
 ·subst h1
  go_enter Tryz.func97, Tryz.ntmps97
  go_wp2
  go_ret
  exact ⟨rfl, rfl⟩
 ·rw [decide_eq_true h1, Bool.true_and];have hb1 : (l != 0) = true := bne_iff_ne.2 h1;by_cases h2 : -n ≤ l
  ·rw [decide_eq_true h2, Bool.true_and]
   go_enter Tryz.func97, Tryz.ntmps97
   go_wp2
   go_ret
   exact ⟨rfl, rfl⟩
  ·rw [decide_eq_false h2, Bool.false_and]
   go_enter Tryz.func97, Tryz.ntmps97
   go_wp2
   go_ret
   exact ⟨rfl, rfl⟩
end Go.Proofs.YtmhllppjcilllaaGreatDoor
end
section
open Go Go.RowKit Cs
namespace Cs
def badIn (before : Int) (i : Int) : Bool := decide (i < 0) || decide (before ≤ i)
theorem formed_bad {x : Nd} {n b : Int} (h : x.ins.any (badIn b) = true) : formed x n b = false := by unfold formed; exact if_pos h
theorem formed_kind5 {x : Nd} {n b : Int} (h : x.kind < 0 ∨ 4 < x.kind) : formed x n b = false := by
 unfold formed;by_cases h1 : x.ins.any (fun i => decide (i < 0) || decide (b ≤ i)) = true
 ·rw [if_pos h1]
 ·rw [if_neg h1, if_neg (by omega), if_neg (by omega), if_neg (by omega)]
theorem formed_lit {x : Nd} {n b : Int} (h : x.kind ≠ 2) (hl : x.lit ≠ 0) : formed x n b = false := by
 unfold formed;by_cases h1 : x.ins.any (fun i => decide (i < 0) || decide (b ≤ i)) = true
 ·rw [if_pos h1]
 ·rw [if_neg h1];by_cases h2 : x.kind = 0 ∨ x.kind = 1
  ·rw [if_pos h2, decide_eq_false hl]; rfl
  ·rw [if_neg h2, if_neg h];by_cases h3 : x.kind = 3 ∨ x.kind = 4
   ·rw [if_pos h3, decide_eq_false hl]
   ·rw [if_neg h3]
theorem formed_two {x : Nd} {n b : Int} (h : x.kind = 2) (hl : litOk x.lit n = false) : formed x n b = false := by
 unfold formed;by_cases h1 : x.ins.any (fun i => decide (i < 0) || decide (b ≤ i)) = true
 ·rw [if_pos h1]
 ·rw [if_neg h1, if_neg (by omega), if_pos h, hl]; rfl
theorem formed_len {x : Nd} {n b : Int} (h : x.kind < 3) (hl : 0 < x.ins.length) : formed x n b = false := by
 unfold formed;by_cases h1 : x.ins.any (fun i => decide (i < 0) || decide (b ≤ i)) = true
 ·rw [if_pos h1]
 ·rw [if_neg h1];have e : decide (x.ins.length = 0) = false := decide_eq_false (by omega);by_cases h2 : x.kind = 0 ∨ x.kind = 1
  ·rw [if_pos h2, e, Bool.and_false]
  ·rw [if_neg h2];by_cases h3 : x.kind = 2
   ·rw [if_pos h3, e, Bool.and_false]
   ·rw [if_neg h3, if_neg (by omega)]
theorem formed_good {x : Nd} {n b : Int} (h : x.ins.any (badIn b) = false) (hk : ((x.kind = 0 ∨ x.kind = 1) ∧ x.lit = 0 ∧ x.ins.length = 0) ∨ (x.kind = 2 ∧ litOk x.lit n = true ∧ x.ins.length = 0) ∨ ((x.kind = 3 ∨ x.kind = 4) ∧ x.lit = 0)) : formed x n b = true := by
 have h1 : ¬ x.ins.any (fun i => decide (i < 0) || decide (b ≤ i)) = true := by
  have : x.ins.any (fun i => decide (i < 0) || decide (b ≤ i)) = false := h
  rw [this]; decide
 unfold formed;rw [if_neg h1];rcases hk with ⟨a1, a2, a3⟩ | ⟨a1, a2, a3⟩ | ⟨a1, a2⟩
 ·rw [if_pos a1, a2, a3]; rfl
 ·rw [if_neg (by omega), if_pos a1, a2, a3]; rfl
 ·rw [if_neg (by omega), if_neg (by omega), if_pos a1, a2]; rfl
end Cs
namespace Go.Proofs.YtmhllppjcilllaaGreatDoor
theorem valid21_any (w : World) (N : Nt) (A : Option Addr) (c : Nat) (hlen : N.l.length ≤ 140737488355328) (hN : NtAt w w.heap.size A N.l) :
  Calls Tryz.prog 51 #[ntV N A c] w fun e w' => e = .returned (.bool (vld N)) ∧ Below w.heap.size w w' := by
 obtain ⟨n, l⟩ := N;simp only at hlen hN;have hbl : Below w.heap.size w (w.alloc (.cells #[.int .i64 n, .slice A l.length c] 24)) := (zqr _ _).alloc (zqn _) _;have hbx := ntNew w ⟨n, l⟩ A c 24 _ rfl;obtain ⟨c1, c2⟩ := ntCells hbx;simp only at c1 c2;by_cases hb : 0 ≤ n ∧ n ≤ 128 ∧ 1 ≤ l.length ∧ l.length ≤ 65536
 ·obtain ⟨h1, h2, h3, h4⟩ := hb;obtain ⟨B, hB⟩ : ∃ B, vld ⟨n, l⟩ = B := ⟨_, rfl⟩
  have hv : vld ⟨n, l⟩ = allFormed n 0 l := by unfold vld; simp [h1, h2, h3, h4]
  have hbad : ∀ k (hk : k < l.length), formed l[k] n (k : Int) = false → B = false := fun k hk hf => by
   rw [← hB];cases hv2 : vld ⟨n, l⟩
   ·rfl
   ·have := vld_formed hv2 k hk; rw [show (⟨n, l⟩ : Nt).l[k] = l[k] from rfl] at this; rw [hf] at this; cases this
  have hgo : allFormed n 0 l = true → B = true := fun h => by rw [← hB, hv, h]
  rw [hB];have HBAD := zqh hbad;have HGO := zqh hgo;have hz0 : ((l.length : Int) == 0) = false := beq_eq_false_iff_ne.2 (by omega);clear hB hv hbad hgo
  go_enter Tryz.func51, Tryz.ntmps51
  go_wp2_with fail
  go_loopw [3] (fun t wr => ∃ k : Nat, k ≤ l.length ∧ t = .int .i64 (k : Int) ∧ Hid (allFormed n 0 (l.take k) = true) ∧ wr.rowIs w.heap.size 24 2 (ntF ⟨n, l⟩ A c) ∧ Below w.heap.size w wr) (fun t _ => l.length - (intOf t).toNat)
  case atStart => exact ⟨0, by omega, rfl, rfl, hbx, hbl⟩
  case round =>
   clear hbx hbl c1 c2;obtain ⟨k, hk, rfl, HA, hbx, hbl⟩ := hrel;obtain ⟨c1, c2⟩ := ntCells hbx;simp only at c1 c2;by_cases hlt : k < l.length
   ·obtain ⟨b, o, rfl, hbB, hcs⟩ := hN (by omega);have hnd := hcs k hlt;clear hcs;have hbd := HBAD.out k hlt;have hst := allFormed_take n l k hlt;rw [HA.out, Bool.true_and] at hst;obtain ⟨x, hx⟩ : ∃ x, l[k] = x := ⟨_, rfl⟩;rw [hx] at hnd hbd hst;obtain ⟨hk1, hk2, ⟨A', c', hk3, hrd⟩, hr1, hr2, hr3, hr4⟩ := hnd;replace hk1 := below_cell hbl hbB hk1;replace hk2 := below_cell hbl hbB hk2;replace hk3 := below_cell hbl hbB hk3;have HRD := zqh (hrd.below hbl);have HBD := zqh hbd;have HST := zqh hst;have hz := hbx.lt;clear hrd hbd hst hx hr3;obtain ⟨kd, lt, ins⟩ := x;simp only at hk1 hk2 hk3 hr1 hr2 hr4 HRD
    have hkd : (kd < 0 ∨ 4 < kd) ∨ (kd = 0 ∨ kd = 1) ∨ kd = 2 ∨ (kd = 3 ∨ kd = 4) := by omega
    rcases hkd with hkd | hkd | hkd | hkd
    ·have h := HBD.out (formed_kind5 hkd);have H := zqh h;clear h;rcases hkd with hkd | hkd
     ·go_wp2
      go_ret
      exact ⟨by rw [H.out]; try rfl, hbl.alloc hbl.size _⟩
     ·have hkn : ¬ kd < 0 := by omega
      go_wp2
      go_ret
      exact ⟨by rw [H.out]; try rfl, hbl.alloc hbl.size _⟩
    ·by_cases hlt0 : lt = 0
     ·subst hlt0;rcases hkd with rfl | rfl
      ·by_cases hln : 0 < ins.length
       ·have h := HBD.out (formed_len (by show 0 < 3; omega) hln);have H := zqh h;have hli : decide ((0 : Int) < (ins.length : Int)) = true := decide_eq_true (by omega);clear h
        go_wp2
        go_ret
        exact ⟨by rw [H.out]; try rfl, hbl.alloc hbl.size _⟩
       ·have hl0 : ins.length = 0 := by omega
        have h := HST.out.trans (formed_good (by rw [List.eq_nil_of_length_eq_zero hl0]; rfl) (.inl ⟨by first | exact .inl rfl | exact .inr rfl, rfl, hl0⟩));have H := zqh h;have hli : decide ((0 : Int) < (ins.length : Int)) = false := decide_eq_false (by omega)
        have hln2 : ¬ (0 : Int) < (ins.length : Int) := by omega
        clear h;obtain ⟨W0, rfl⟩ : ∃ W0, W0 = wr := ⟨wr, rfl⟩
        go_wp2_with fail
        go_loopw [5] (fun t wq => t = .int .i64 0 ∧ wq = W0.alloc (.cells #[.int .i64 0, .int .i64 0, .slice A' 0 c'] 66)) (fun t _ => 0)
        case atStart => exact ⟨rfl, rfl⟩
        case round =>
         obtain ⟨rfl, rfl⟩ := hrel
         go_wp2
         go_roundw
         case rel => exact ⟨k + 1, by omega, by go_num, H.out, hbx.alloc _, hbl.alloc hbl.size _⟩
         case measure => simp [intOf]; omega
      ·by_cases hln : 0 < ins.length
       ·have h := HBD.out (formed_len (by show 1 < 3; omega) hln);have H := zqh h;have hli : decide ((0 : Int) < (ins.length : Int)) = true := decide_eq_true (by omega);clear h
        go_wp2
        go_ret
        exact ⟨by rw [H.out]; try rfl, hbl.alloc hbl.size _⟩
       ·have hl0 : ins.length = 0 := by omega
        have h := HST.out.trans (formed_good (by rw [List.eq_nil_of_length_eq_zero hl0]; rfl) (.inl ⟨by first | exact .inl rfl | exact .inr rfl, rfl, hl0⟩));have H := zqh h;have hli : decide ((0 : Int) < (ins.length : Int)) = false := decide_eq_false (by omega)
        have hln2 : ¬ (0 : Int) < (ins.length : Int) := by omega
        clear h;obtain ⟨W0, rfl⟩ : ∃ W0, W0 = wr := ⟨wr, rfl⟩
        go_wp2_with fail
        go_loopw [5] (fun t wq => t = .int .i64 0 ∧ wq = W0.alloc (.cells #[.int .i64 1, .int .i64 0, .slice A' 0 c'] 66)) (fun t _ => 0)
        case atStart => exact ⟨rfl, rfl⟩
        case round =>
         obtain ⟨rfl, rfl⟩ := hrel
         go_wp2
         go_roundw
         case rel => exact ⟨k + 1, by omega, by go_num, H.out, hbx.alloc _, hbl.alloc hbl.size _⟩
         case measure => simp [intOf]; omega
     ·have h := HBD.out (formed_lit (by show kd ≠ 2; omega) hlt0);have H := zqh h;clear h;have hl1 : (lt != 0) = true := bne_iff_ne.2 hlt0;rcases hkd with rfl | rfl
      all_goals
       go_wp2
       go_ret
       exact ⟨by rw [H.out]; try rfl, hbl.alloc hbl.size _⟩
    ·subst hkd;have hlv := fun W => valid5_any W lt n h1 h2;cases hlo : litOk lt n
     ·have h := HBD.out (formed_two rfl hlo);rw [hlo] at hlv;have H := zqh h;have HLV := zqh hlv;clear h hlv hlo
      go_wp2_with fail
      refine (HLV.out _).mono ?_;rintro e w5 ⟨rfl, rfl⟩
      go_wp2
      go_ret
      exact ⟨by rw [H.out]; try rfl, hbl.alloc hbl.size _⟩
     ·rw [hlo] at hlv;have HLV := zqh hlv;have HLO := zqh hlo;clear hlv hlo;by_cases hln : 0 < ins.length
      ·have h := HBD.out (formed_len (by show 2 < 3; omega) hln);have H := zqh h;have hli : decide ((0 : Int) < (ins.length : Int)) = true := decide_eq_true (by omega);clear h
       go_wp2_with fail
       refine (HLV.out _).mono ?_;rintro e w5 ⟨rfl, rfl⟩
       go_wp2
       go_ret
       exact ⟨by rw [H.out]; try rfl, hbl.alloc hbl.size _⟩
      ·have hl0 : ins.length = 0 := by omega
       have h := HST.out.trans (formed_good (by rw [List.eq_nil_of_length_eq_zero hl0]; rfl) (.inr (.inl ⟨rfl, HLO.out, hl0⟩)));have H := zqh h;have hli : decide ((0 : Int) < (ins.length : Int)) = false := decide_eq_false (by omega)
       have hln2 : ¬ (0 : Int) < (ins.length : Int) := by omega
       clear h;obtain ⟨W0, rfl⟩ : ∃ W0, W0 = wr := ⟨wr, rfl⟩
       go_wp2_with fail
       refine (HLV.out _).mono ?_;rintro e w5 ⟨rfl, rfl⟩
       go_wp2_with fail
       go_loopw [5] (fun t wq => t = .int .i64 0 ∧ wq = W0.alloc (.cells #[.int .i64 2, .int .i64 lt, .slice A' 0 c'] 66)) (fun t _ => 0)
       case atStart => exact ⟨rfl, rfl⟩
       case round =>
        obtain ⟨rfl, rfl⟩ := hrel
        go_wp2
        go_roundw
        case rel => exact ⟨k + 1, by omega, by go_num, H.out, hbx.alloc _, hbl.alloc hbl.size _⟩
        case measure => simp [intOf]; omega
    ·by_cases hlt0 : lt = 0
     ·subst hlt0;have hgd : ins.any (badIn (k : Int)) = false → allFormed n 0 (l.take (k + 1)) = true := fun h => HST.out.trans (formed_good h (.inr (.inr ⟨hkd, rfl⟩)));have hba : ins.any (badIn (k : Int)) = true → B = false := fun h => HBD.out (formed_bad h);have HGD := zqh hgd;have HBA := zqh hba;clear hgd hba HST HBD;obtain ⟨W0, rfl⟩ : ∃ W0, W0 = wr := ⟨wr, rfl⟩;rcases hkd with rfl | rfl
      all_goals
       go_wp2_with fail
       go_loopw [5] (fun t wq => ∃ j : Nat, j ≤ ins.length ∧ t = .int .i64 (j : Int) ∧ Hid ((ins.take j).any (badIn (k : Int)) = false) ∧ wq = W0.alloc (.cells #[.int .i64 _, .int .i64 0, .slice A' ins.length c'] 66)) (fun t _ => ins.length - (intOf t).toNat)
       case atStart => exact ⟨0, by omega, rfl, rfl, rfl⟩
       case round =>
        obtain ⟨j, hj, rfl, HJ, rfl⟩ := hrel;by_cases hjl : j < ins.length
        ·obtain ⟨b', o', rfl, hbB', hcs⟩ := HRD.out (by omega);have hc := hcs j hjl;clear hcs;have hsz := hbl.size
         have hlt' : b' < W0.heap.size := by omega
         have ht : ins.take (j + 1) = ins.take j ++ [ins[j]] := List.take_succ_eq_append_getElem hjl;have hmem : ins[j] ∈ ins := List.getElem_mem hjl
         have hii : intF ins j = .int .i64 ins[j] := by unfold intF; rw [List.getD_eq_getElem?_getD, List.getElem?_eq_getElem hjl]; rfl
         rw [hii] at hc;obtain ⟨y, hy⟩ : ∃ y, ins[j] = y := ⟨_, rfl⟩;rw [hy] at hc ht hmem;have hbad : badIn (k : Int) y = true → B = false := fun h => HBA.out (List.any_eq_true.2 ⟨y, hmem, h⟩)
         have hnx : badIn (k : Int) y = false → (ins.take (j + 1)).any (badIn (k : Int)) = false := fun h => by rw [ht, List.any_append, HJ.out]; simp [h]
         have HB2 := zqh hbad;have HNX := zqh hnx;clear hii hy ht hmem hbad hnx;by_cases h1' : y < 0
         ·have h := HB2.out (by unfold badIn; rw [decide_eq_true h1']; rfl);have H := zqh h;clear h
          go_wp2
          go_ret
          exact ⟨by rw [H.out]; try rfl, hbl.alloc hbl.size _⟩
         ·by_cases h2' : (k : Int) ≤ y
          ·have h := HB2.out (by unfold badIn; rw [decide_eq_true h2']; simp);have H := zqh h;clear h
           go_wp2
           go_ret
           exact ⟨by rw [H.out]; try rfl, hbl.alloc hbl.size _⟩
          ·have h := HNX.out (by unfold badIn; rw [decide_eq_false h1', decide_eq_false h2']; rfl);have H := zqh h;clear h
           go_wp2
           go_roundw
           case rel => exact ⟨j + 1, by omega, by go_num, H.out, by first | trivial | rfl⟩
           case measure => simp [intOf]; omega
        ·obtain rfl : j = ins.length := by omega
         have h := HGD.out (by have := HJ.out; rwa [List.take_length] at this);have H := zqh h;clear h
         go_wp2
         go_roundw
         case rel => exact ⟨k + 1, by omega, by go_num, H.out, hbx.alloc _, hbl.alloc hbl.size _⟩
         case measure => simp [intOf]; omega
     ·have h := HBD.out (formed_lit (by show kd ≠ 2; omega) hlt0);have H := zqh h;clear h;have hl1 : (lt != 0) = true := bne_iff_ne.2 hlt0;rcases hkd with rfl | rfl
      all_goals
       go_wp2
       go_ret
       exact ⟨by rw [H.out]; try rfl, hbl.alloc hbl.size _⟩
   ·obtain rfl : k = l.length := by omega
    have h := HGO.out (by have := HA.out; rwa [List.take_length] at this);have H := zqh h;clear h
    go_wp2
    go_ret
    exact ⟨by rw [H.out]; try rfl, hbl⟩
 ·have hv : vld ⟨n, l⟩ = false := by unfold vld; rw [decide_eq_false (by simpa using hb)]; rfl
  rw [hv];clear hv;by_cases h1 : n < 0
  ·clear hb
   go_enter Tryz.func51, Tryz.ntmps51
   go_wp2
   go_ret
   exact ⟨rfl, hbl⟩
  ·by_cases h2 : 128 < n
   ·clear hb
    go_enter Tryz.func51, Tryz.ntmps51
    go_wp2
    go_ret
    exact ⟨rfl, hbl⟩
   ·by_cases h3 : l.length = 0
    ·have hi3 : ((l.length : Int) == 0) = true := by rw [h3]; rfl
     have H3 := zqh h3;clear hb h3
     go_enter Tryz.func51, Tryz.ntmps51
     go_wp2
     go_ret
     exact ⟨rfl, hbl⟩
    ·have h4 : 65536 < l.length := by omega
     have hi3 : ((l.length : Int) == 0) = false := beq_eq_false_iff_ne.2 (by omega);clear hb
     go_enter Tryz.func51, Tryz.ntmps51
     go_wp2
     go_ret
     exact ⟨rfl, hbl⟩
end Go.Proofs.YtmhllppjcilllaaGreatDoor
end
