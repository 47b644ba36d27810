import Derived.Test.YtoljkoifgnmbgaaGreatDoorVl
import Derived.Test.YtoljkoifgnmbgaaGreatDoorVc
import Derived.Test.YtoljkoifgnmbgaaGreatDoorKl
import Derived.Test.YtoljkoifgnmbgaaGreatDoorUa
import Derived.Test.YtoljkoifgnmbgaaGreatDoorUf
set_option linter.unusedSimpArgs false
set_option linter.unusedVariables false
section
open Go Go.RowKit Cs
end
section
set_option maxRecDepth 100000
set_option maxHeartbeats 4000000
open Go Go.RowKit Cs
namespace Go.Proofs.YtoljkoifgnmbgaaGreatDoor
def fewU (N : Nt) (l : Nat) : Bool := fewB N && (decide (N.n ≤ 20) || decide (128 < N.n)) && decide (l ≤ 15)
theorem fewU_any (w : World) (N : Nt) (A Ab : Option Addr) (c lb cb : Nat) (hlen : N.l.length ≤ 140737488355328) (hN : NtAt w w.heap.size A N.l) :
  Calls Tryz.prog 17 #[ntV N A c, .slice Ab lb cb] w fun e w' => e = .returned (.bool (fewU N lb)) ∧ Below w.heap.size w w' := by
 have hfw := fun W hN => few_any W N A c hlen hN;obtain ⟨F, hF⟩ : ∃ F, fewU N lb = F := ⟨_, rfl⟩;rw [hF];unfold fewU at hF;obtain ⟨B, hB⟩ : ∃ B, fewB N = B := ⟨_, rfl⟩;rw [hB] at hfw hF;have HFW := zqh hfw;have HF := zqh hF;clear hfw hB hF;obtain ⟨n, l⟩ := N;have q0 := (Bag.zero w).new #[.int .i64 n, .slice A l.length c] 24 w.heap.size 2 rfl rfl;simp only at HF;cases B
 ·go_enter Tryz.func17, Tryz.ntmps17
  go_wp2_with fail
  refine (HFW.out _ ((hN.below q0.bl).more q0.bl.size)).mono ?_;rintro e w1 ⟨rfl, hb1⟩;have q1 := q0.below hb1;have m1 := q1.is0 0 (by decide) (.int .i64 n) rfl;have m2 := q1.is0 1 (by decide) (.slice A l.length c) rfl;clear hN hlen HFW
  go_wp2_with fail
  go_ret
  have hh := HF.out;rw [Bool.false_and, Bool.false_and] at hh;obtain rfl := hh;exact ⟨rfl, q1.bl⟩
 ·rcases (show n ≤ 20 ∨ 20 < n by omega) with h1 | h1
  ·have d1 : decide (n ≤ 20) = true := decide_eq_true h1;rcases (show lb ≤ 15 ∨ 15 < lb by omega) with h2 | h2
   ·have d2 : decide ((lb : Int) ≤ 15) = true := decide_eq_true (by omega);have d4 : decide (lb ≤ 15) = true := decide_eq_true (by omega)
    go_enter Tryz.func17, Tryz.ntmps17
    go_wp2_with fail
    refine (HFW.out _ ((hN.below q0.bl).more q0.bl.size)).mono ?_;rintro e w1 ⟨rfl, hb1⟩;have q1 := q0.below hb1;have m1 := q1.is0 0 (by decide) (.int .i64 n) rfl;have m2 := q1.is0 1 (by decide) (.slice A l.length c) rfl;clear hN hlen HFW
    go_wp2_with fail
    go_ret
    have hh := HF.out;rw [d1, d4, Bool.true_or, Bool.true_and, Bool.true_and] at hh;obtain rfl := hh;exact ⟨rfl, q1.bl⟩
   ·have d2 : decide ((lb : Int) ≤ 15) = false := decide_eq_false (by omega);have d4 : decide (lb ≤ 15) = false := decide_eq_false (by omega)
    go_enter Tryz.func17, Tryz.ntmps17
    go_wp2_with fail
    refine (HFW.out _ ((hN.below q0.bl).more q0.bl.size)).mono ?_;rintro e w1 ⟨rfl, hb1⟩;have q1 := q0.below hb1;have m1 := q1.is0 0 (by decide) (.int .i64 n) rfl;have m2 := q1.is0 1 (by decide) (.slice A l.length c) rfl;clear hN hlen HFW
    go_wp2_with fail
    go_ret
    have hh := HF.out;rw [d1, d4, Bool.and_false] at hh;obtain rfl := hh;exact ⟨rfl, q1.bl⟩
  ·have d1 : decide (n ≤ 20) = false := decide_eq_false (by omega);rcases (show 128 < n ∨ n ≤ 128 by omega) with h3 | h3
   ·have d3 : decide (128 < n) = true := decide_eq_true h3;rcases (show lb ≤ 15 ∨ 15 < lb by omega) with h2 | h2
    ·have d2 : decide ((lb : Int) ≤ 15) = true := decide_eq_true (by omega);have d4 : decide (lb ≤ 15) = true := decide_eq_true (by omega)
     go_enter Tryz.func17, Tryz.ntmps17
     go_wp2_with fail
     refine (HFW.out _ ((hN.below q0.bl).more q0.bl.size)).mono ?_;rintro e w1 ⟨rfl, hb1⟩;have q1 := q0.below hb1;have m1 := q1.is0 0 (by decide) (.int .i64 n) rfl;have m2 := q1.is0 1 (by decide) (.slice A l.length c) rfl;clear hN hlen HFW
     go_wp2_with fail
     go_ret
     have hh := HF.out;rw [d1, d3, d4, Bool.or_true, Bool.true_and, Bool.true_and] at hh;obtain rfl := hh;exact ⟨rfl, q1.bl⟩
    ·have d2 : decide ((lb : Int) ≤ 15) = false := decide_eq_false (by omega);have d4 : decide (lb ≤ 15) = false := decide_eq_false (by omega)
     go_enter Tryz.func17, Tryz.ntmps17
     go_wp2_with fail
     refine (HFW.out _ ((hN.below q0.bl).more q0.bl.size)).mono ?_;rintro e w1 ⟨rfl, hb1⟩;have q1 := q0.below hb1;have m1 := q1.is0 0 (by decide) (.int .i64 n) rfl;have m2 := q1.is0 1 (by decide) (.slice A l.length c) rfl;clear hN hlen HFW
     go_wp2_with fail
     go_ret
     have hh := HF.out;rw [d1, d3, d4, Bool.and_false] at hh;obtain rfl := hh;exact ⟨rfl, q1.bl⟩
   ·have d3 : decide (128 < n) = false := decide_eq_false (by omega)
    go_enter Tryz.func17, Tryz.ntmps17
    go_wp2_with fail
    refine (HFW.out _ ((hN.below q0.bl).more q0.bl.size)).mono ?_;rintro e w1 ⟨rfl, hb1⟩;have q1 := q0.below hb1;have m1 := q1.is0 0 (by decide) (.int .i64 n) rfl;have m2 := q1.is0 1 (by decide) (.slice A l.length c) rfl;clear hN hlen HFW
    go_wp2_with fail
    go_ret
    have hh := HF.out;rw [d1, d3, Bool.or_false, Bool.and_false, Bool.false_and] at hh;obtain rfl := hh;exact ⟨rfl, q1.bl⟩
end Go.Proofs.YtoljkoifgnmbgaaGreatDoor
end
section
open Go Go.RowKit Cs
namespace Go.Proofs.YtoljkoifgnmbgaaGreatDoor
structure ActIn (N : Nt) (A : Option Addr) (lo hi : List ByteArray) (Al Ah AL : Option Addr) (L : List Int) (W : World) : Prop where
 nt : NtAt W W.heap.size A N.l
 tb : Tab W
 l1 : Rd W W.heap.size Al lo.length (strF lo)
 l2 : Rd W W.heap.size Ah hi.length (strF hi)
 al : Rd W W.heap.size AL L.length (intF L)
structure ActC (N : Nt) (lo hi : List ByteArray) (L : List Int) : Prop where
 hlen : N.l.length ≤ 140737488355328
 hl1 : lo.length ≤ 1000000000000
 hl2 : hi.length ≤ 1000000000000
 hs1 : ∀ i, (lo.getD i ⟨#[]⟩).size ≤ maxLen
 hs2 : ∀ i, (hi.getD i ⟨#[]⟩).size ≤ maxLen
 hLr : ∀ i, -9223372036854775808 ≤ L.getD i 0 ∧ L.getD i 0 ≤ 9223372036854775807
section
variable {N : Nt} {A Al Ah AL : Option Addr} {lo hi : List ByteArray} {L : List Int} {W W' w : World} {g : Sg} {E : Nat} {tv : Value} {k : Int}
theorem ActIn.below (h : ActIn N A lo hi Al Ah AL L W) (hb : Below W.heap.size W W') : ActIn N A lo hi Al Ah AL L W' :=
 ⟨(h.nt.below hb).more hb.size, h.tb.below hb, (h.l1.below hb).more hb.size, (h.l2.below hb).more hb.size, (h.al.below hb).more hb.size⟩
theorem ActIn.nil (h : ActIn N A lo hi Al Ah AL L W) : ActIn N A lo hi Al Ah none [] W := ⟨h.nt, h.tb, h.l1, h.l2, fun h => absurd h (by simp)⟩
theorem ActC.nil (h : ActC N lo hi L) : ActC N lo hi [] := ⟨h.hlen, h.hl1, h.hl2, h.hs1, h.hs2, fun i => by simp⟩
theorem fewU_ins {l : Nat} (hf : fewU N l = true) : ∀ k (hk : k < N.l.length), N.l[k].ins.length ≤ 1000000 := fun k hk => by
 have : fewB N = true := by
  unfold fewU at hf;rw [Bool.and_eq_true, Bool.and_eq_true] at hf;exact hf.1.1
 have := few_ins this k hk;omega
theorem fewU_len {l : Nat} (hf : fewU N l = true) : l ≤ 15 := by
 unfold fewU at hf;rw [Bool.and_eq_true, Bool.and_eq_true] at hf;exact of_decide_eq_true hf.2
theorem acted_in (c cl ch cL : Nat) (h : ActIn N A lo hi Al Ah AL L W) (hc : ActC N lo hi L) (hin : ∀ k (hk : k < N.l.length), N.l[k].ins.length ≤ 1000000) (hL : L.length ≤ 1000000) :
  Calls Tryz.prog 30 #[ntV N A c, .slice Al lo.length cl, .slice Ah hi.length ch, .slice AL L.length cL] W (ActR W N lo hi L) :=
 acted_any W N A c cl ch cL lo hi Al Ah AL L hc.hlen h.nt h.tb hin hc.hl1 hc.hl2 h.l1 h.l2 hc.hs1 hc.hs2 h.al hL hc.hLr
theorem ActR.yes {e : Ending} (h : ActR W N lo hi L e W') (hac : acOk N lo hi) : Below W.heap.size W W' ∧ ∃ g E tv k w0, e = .returned (.pointer (some ⟨g.b, 0, none⟩)) ∧ Below W.heap.size W w0 ∧ Lv w0 E g N N.n.toNat (prL lo) (prL hi) tv (actsT N.n L) k W' := by
 obtain ⟨hb, h⟩ := h;rcases h with ⟨_, g, E, tv, k, w0, he, hb0, hy⟩ | ⟨hn, _⟩
 ·exact ⟨hb, g, E, tv, k, w0, he, hb0, hy.lv⟩
 ·exact absurd hac hn
theorem ActR.no {e : Ending} (h : ActR W N lo hi L e W') (hac : ¬ acOk N lo hi) : Below W.heap.size W W' ∧ e = .returned (.pointer none) := by
 obtain ⟨hb, h⟩ := h;rcases h with ⟨hy, _⟩ | ⟨_, he⟩
 ·exact absurd hy hac
 ·exact ⟨hb, he⟩
theorem acOk_at (h : acOk N lo hi) {D : Nat} (hD : 1 < D) {T : List Int} (ht : TOk N.n.toNat T) : SesOk N N.n.toNat (prL lo) (prL hi) T D := by
 obtain ⟨n, hn, _, _, ok⟩ := acOk_ses h hD;rw [show N.n.toNat = n by omega] at ht ⊢;exact ok.at ht
theorem acOk_tk (h : acOk N lo hi) (L : List Int) : TOk N.n.toNat (actsT N.n L) := by
 obtain ⟨n, hn, _, _, ok⟩ := acOk_ses h (Nat.lt_succ_self _);rw [show N.n.toNat = n by omega];exact TOk.acts hn (vn_le ok.hv hn) _
theorem acOk_n (h : acOk N lo hi) : N.n = (N.n.toNat : Int) ∧ N.n.toNat ≤ 128 := by
 obtain ⟨n, hn, _, _, ok⟩ := acOk_ses h (Nat.lt_succ_self _);have := vn_le ok.hv hn;omega
end
end Go.Proofs.YtoljkoifgnmbgaaGreatDoor
end
section
set_option maxRecDepth 100000
set_option maxHeartbeats 8000000
open Go Go.RowKit Cs
namespace Go.Proofs.YtoljkoifgnmbgaaGreatDoor
theorem pushT_ok {m : Int} {T : List Int} {l : Int} (h : pushE m T l = 0) : pushT m T l = T ++ [l] := by
 unfold pushE at h;unfold pushT;split at h
 ·rename_i h1;rw [if_pos h1];split at h
  ·exact absurd h (by decide)
  ·rename_i h2;rw [if_neg h2]
 ·exact absurd h (by decide)
section
variable {N : Nt} {A Al Ah AL : Option Addr} {lo hi : List ByteArray} {L : List Int}
theorem uback_any (w : World) (c cl ch cL : Nat) (x : Int) (h : ActIn N A lo hi Al Ah AL L w) (hc : ActC N lo hi L) (hx1 : -9223372036854775808 ≤ x) (hx2 : x ≤ 9223372036854775807) :
  Calls Tryz.prog 8 #[ntV N A c, .slice Al lo.length cl, .slice Ah hi.length ch, .slice AL L.length cL, .int .i64 x] w fun e w' => e = .returned (.bool true) ∧ Below w.heap.size w w' := by
 have hfw := fun W hN => fewU_any W N A AL c L.length cL hc.hlen hN;have o0 := zqh (oneNew w N A c h.nt);obtain ⟨m1, m2⟩ := o0.out.cells;have HT := zqh h.tb;have HI := zqh (h.below o0.out.bl);obtain ⟨F, hF⟩ : ∃ F, fewU N L.length = F := ⟨_, rfl⟩;rw [hF] at hfw;have HFW := zqh hfw;cases F
 ·clear hfw hF h hc
  go_enter Tryz.func8, Tryz.ntmps8
  go_wp2_with (first
   | (go_at_call 17; (with_reducible refine (HFW.out _ o0.out.nt).mono ?_); rintro e w1 ⟨rfl, hb⟩; have o1 := zqh (o0.out.below hb); clear hb m1 m2 o0)
   | (go_at_call 13; (with_reducible refine (works_any _ (HT.out.below o1.out.bl)).mono ?_); rintro e w2 ⟨rfl, hb⟩; have o2 := zqh (o1.out.below hb); clear hb o1))
  all_goals
   go_ret
   exact ⟨rfl, o2.out.bl⟩
 ·have hin := fewU_ins hF;have hll := fewU_len hF;have hac := fun W (hi' : ActIn N A lo hi Al Ah AL L W) => acted_in c cl ch cL hi' hc hin (by omega);have HAC := zqh hac;by_cases hok : acOk N lo hi
  ·have hy := fun (e : Ending) (W W' : World) (hr : ActR W N lo hi L e W') => hr.yes hok;have HY := zqh hy;have hn := acOk_n hok;have htk := acOk_tk hok L;have hat : ∀ D, 1 < D → ∀ T, TOk N.n.toNat T → SesOk N N.n.toNat (prL lo) (prL hi) T D := fun D hD T ht => acOk_at hok hD ht;have htx : TOk N.n.toNat (pushT N.n (actsT N.n L) x) := htk.push hn.1 hn.2;have hR2 := fun hR => pushT_ok (m := N.n) (T := actsT N.n L) (l := x) hR;have hsv : vld N = true := (hat _ (Nat.lt_succ_self _) _ htk).hv;have hsc := sesC_small (hat _ (Nat.lt_succ_self _) _ htk);have hsw := sesW_small (hat _ (Nat.lt_succ_self _) _ htk);obtain ⟨R, hR⟩ : ∃ R, pushE N.n (actsT N.n L) x = R := ⟨_, rfl⟩;have hps := fun (v0 W : World) E g tv k P (hT : Tab v0) (hl : Lf v0 E g N N.n.toNat (prL lo) (prL hi) tv (actsT N.n L) k P W) => hl.push (hat _ hT.lt _ htk) hT x hx1 hx2;rw [hR] at hR2;simp only [hR] at hps
   generalize pushT N.n (actsT N.n L) x = TX at *
   generalize actsT N.n L = T at *
   have HPS := zqh hps;have HTK := zqh htk;have HTX := zqh htx;have HAT := zqh hat;have HSV := zqh hsv;have HSC := zqh hsc;have HSW := zqh hsw;have HX2 := zqh hR2;clear hfw hF h hc hin hll hac hok hy hn htk hat htx hR2 hsv hsc hsw hR hps
   go_enter Tryz.func8, Tryz.ntmps8
   go_upto_region 5 with (first
    | (go_at_call 17; (with_reducible refine (HFW.out _ o0.out.nt).mono ?_); rintro e w1 ⟨rfl, hb⟩; have o1 := zqh (o0.out.below hb); have i1 := zqh (HI.out.below hb); obtain ⟨n1, n2⟩ := o1.out.cells; clear hb m1 m2 o0 HI)
    | (go_at_call 30; (with_reducible refine (HAC.out _ i1.out).mono ?_); rintro e w2 hr; obtain ⟨hb, g, E, tv, k, v0, rfl, hv0, s2⟩ := HY.out _ _ _ hr; have S2 := zqh s2; have o2 := zqh (o1.out.below hb); have i2 := zqh (i1.out.below hb); have TB0 := zqh (i1.out.tb.below hv0); have HB0 := zqh (zqx o1.out.bl hv0 o1.out.bl.size); obtain ⟨p1, p2⟩ := o2.out.cells; clear hb hr n1 n2 o1 i1 hv0 s2)
    | (go_at_call 30; (with_reducible refine (HAC.out _ i2.out).mono ?_); rintro e w3 hr; obtain ⟨hb, g', E', tv', k', v1, rfl, hv1, t3⟩ := HY.out _ _ _ hr; have TB1 := zqh (i2.out.tb.below hv1); have F3 := zqh (Lf.mk (S2.out.below hb) (t3.off fun x hx => Nat.lt_of_lt_of_le (S2.out.allLt x hx) hv1.size)); clear hb hr p1 p2 o2 i2 hv1 t3 S2))
   have hp := HPS.out v0 w3 E g tv k _ TB0.out F3.out;have HP := zqh hp;clear hp HPS;by_cases h0 : R = 0
   ·subst h0;have hTX := HX2.out rfl;subst hTX;have hpo := fun W tv k (hl : Lf v0 E g N N.n.toNat (prL lo) (prL hi) tv (T ++ [x]) k (fun W' => SesAt W' v1.heap.size E' g' N N.n.toNat (prL lo) (prL hi) tv' T k') W) => hl.pop (HAT.out _ TB0.out.lt _ HTX.out) TB0.out
    have hpe : popE (T ++ [x]) = 0 := by unfold popE; rw [if_neg (by simp)]
    simp only [hpe, List.dropLast_concat] at hpo
    have heq := fun W tv k (hl : Lf v0 E g N N.n.toNat (prL lo) (prL hi) tv T k (fun W' => SesAt W' v1.heap.size E' g' N N.n.toNat (prL lo) (prL hi) tv' T k') W) =>
     equal_true W (.pointer (some ⟨g.b, 0, none⟩)) (.pointer (some ⟨g'.b, 0, none⟩)) (sesC N N.n.toNat T) (sesW N N.n.toNat (prL lo) (prL hi) T).1 (sesW N N.n.toNat (prL lo) (prL hi) T).2 HSC.out HSW.out.1 HSW.out.2
      (fun V hb => (hl.lv.below hb).count (HAT.out _ TB0.out.lt _ HTK.out) TB0.out)
      (fun V hb => count_at (hl.now.below hb) (HAT.out _ TB1.out.lt _ HTK.out) ((TB0.out.below hl.lv.bl).below hb))
      (fun V hb => (hl.lv.below hb).weight (HAT.out _ TB0.out.lt _ HTK.out) TB0.out)
      (fun V hb => weight_at (hl.now.below hb) (HAT.out _ TB1.out.lt _ HTK.out) ((TB0.out.below hl.lv.bl).below hb))
    have HPO := zqh hpo;have HEQ := zqh heq;have HTL := zqh (show T.length ≤ 1000000 from (HAT.out _ TB0.out.lt _ HTK.out).tl);clear hpo hpe heq HX2 HSC HSW F3 HFW HAC HY
    go_wp2_with (first
     | (go_at_call 22; (with_reducible refine HP.out.mono ?_); rintro e w4 ⟨rfl, tv4, k4, f4⟩; have F4 := zqh f4; clear f4 HP)
     | (go_at_call 20; (with_reducible refine (HPO.out _ _ _ F4.out).mono ?_); rintro e w5 ⟨rfl, tv5, k5, f5⟩; have F5 := zqh f5; clear f5 F4)
     | (go_at_call 31; (with_reducible refine (HEQ.out _ _ _ F5.out).mono ?_); rintro e w6 ⟨rfl, hb⟩; have F6 := zqh (F5.out.below hb); clear hb F5)
     | (go_at_call 26; (with_reducible refine (term_at F6.out.lv.ses HSV.out HTL.out).mono ?_); rintro e w7 ⟨A7, c7, rfl, _, hb⟩; have F7 := zqh (F6.out.below hb); clear hb F6)
     | (go_at_call 26; (with_reducible refine (term_at F7.out.now HSV.out HTL.out).mono ?_); rintro e w8 ⟨A8, c8, rfl, _, hb⟩; have F8 := zqh (F7.out.below hb); clear hb F7)
     | (go_at_call 13; (with_reducible refine (works_any _ (TB0.out.below F8.out.lv.bl)).mono ?_); rintro e w9 ⟨rfl, hb⟩; have F9 := zqh (F8.out.below hb); clear hb F8))
    all_goals
     go_ret
     exact ⟨rfl, zqx HB0.out F9.out.lv.bl HB0.out.size⟩
   ·have r1 : (R != 0) = true := bne_iff_ne.2 h0
    have r2 : (R == 0) = false := by simpa using h0
    clear HX2 HSC HSW F3 HFW HAC HY h0
    go_wp2_with (first
     | (go_at_call 22; (with_reducible refine HP.out.mono ?_); rintro e w4 ⟨rfl, tv4, k4, f4⟩; have F4 := zqh f4; clear f4 HP)
     | (go_at_call 13; (with_reducible refine (works_any _ (TB0.out.below F4.out.lv.bl)).mono ?_); rintro e w9 ⟨rfl, hb⟩; have F9 := zqh (F4.out.below hb); clear hb F4))
    all_goals
     go_ret
     exact ⟨rfl, zqx HB0.out F9.out.lv.bl HB0.out.size⟩
  ·have hy := fun (e : Ending) (W W' : World) (hr : ActR W N lo hi L e W') => hr.no hok;have HY := zqh hy;clear hfw hF h hc hin hll hac hok hy
   go_enter Tryz.func8, Tryz.ntmps8
   go_wp2_with (first
    | (go_at_call 17; (with_reducible refine (HFW.out _ o0.out.nt).mono ?_); rintro e w1 ⟨rfl, hb⟩; have o1 := zqh (o0.out.below hb); have i1 := zqh (HI.out.below hb); obtain ⟨n1, n2⟩ := o1.out.cells; clear hb m1 m2 o0 HI)
    | (go_at_call 30; (with_reducible refine (HAC.out _ i1.out).mono ?_); rintro e w2 hr; obtain ⟨hb, rfl⟩ := HY.out _ _ _ hr; have o2 := zqh (o1.out.below hb); have i2 := zqh (i1.out.below hb); obtain ⟨p1, p2⟩ := o2.out.cells; clear hb hr n1 n2 o1 i1)
    | (go_at_call 30; (with_reducible refine (HAC.out _ i2.out).mono ?_); rintro e w3 hr; obtain ⟨hb, rfl⟩ := HY.out _ _ _ hr; have o3 := zqh (o2.out.below hb); clear hb hr p1 p2 o2 i2)
    | (go_at_call 13; (with_reducible refine (works_any _ (HT.out.below o3.out.bl)).mono ?_); rintro e w4 ⟨rfl, hb⟩; have o4 := zqh (o3.out.below hb); clear hb o3))
   all_goals
    go_ret
    exact ⟨rfl, o4.out.bl⟩
end
end Go.Proofs.YtoljkoifgnmbgaaGreatDoor
end
