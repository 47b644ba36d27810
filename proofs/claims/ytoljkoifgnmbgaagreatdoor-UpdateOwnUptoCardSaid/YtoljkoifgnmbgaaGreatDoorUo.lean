import Derived.Test.YtoljkoifgnmbgaaGreatDoorUv
set_option linter.unusedSimpArgs false
set_option linter.unusedVariables false
set_option maxRecDepth 100000
set_option maxHeartbeats 8000000
open Go Go.RowKit Cs
namespace Go.Proofs.YtoljkoifgnmbgaaGreatDoor
section
variable {N : Nt} {A Al Ah AL : Option Addr} {lo hi : List ByteArray} {L : List Int}
theorem uown_any (w : World) (c cl ch cL : Nat) (h : ActIn N A lo hi Al Ah AL L w) (hc : ActC N lo hi L) :
  Calls Tryz.prog 9 #[ntV N A c, .slice Al lo.length cl, .slice Ah hi.length ch, .slice AL L.length cL] w fun e w' => e = .returned (.bool true) ∧ Below w.heap.size w w' := by
 obtain ⟨ti, hti, ht0, ht1, ht2⟩ := info_parts info_int';obtain ⟨ni, hni, hn0, hn1, hn2⟩ := info_parts info_node;have hfw := fun W hN => fewU_any W N A AL c L.length cL hc.hlen hN;have o0 := zqh (oneNew w N A c h.nt);obtain ⟨m1, m2⟩ := o0.out.cells;have HT := zqh h.tb;have HI := zqh (h.below o0.out.bl);obtain ⟨F, hF⟩ : ∃ F, fewU N L.length = F := ⟨_, rfl⟩;rw [hF] at hfw;have HFW := zqh hfw;cases F
 ·clear hfw hF h hc
  go_enter Tryz.func9, Tryz.ntmps9
  go_wp2_with (first
   | (go_at_call 17; (with_reducible refine (HFW.out _ o0.out.nt).mono ?_); rintro e w1 ⟨rfl, hb⟩; have o1 := zqh (o0.out.below hb); clear hb m1 m2 o0)
   | (go_at_call 13; (with_reducible refine (works_any _ (HT.out.below o1.out.bl)).mono ?_); rintro e w2 ⟨rfl, hb⟩; have o2 := zqh (o1.out.below hb); clear hb o1))
  all_goals
   go_ret
   exact ⟨rfl, o2.out.bl⟩
 ·have hin := fewU_ins hF;have hll := fewU_len hF;have hac := fun W (hi' : ActIn N A lo hi Al Ah AL L W) => acted_in c cl ch cL hi' hc hin (by omega);have HAC := zqh hac;by_cases hok : acOk N lo hi
  ·have hy := fun (e : Ending) (W W' : World) (hr : ActR W N lo hi L e W') => hr.yes hok;obtain ⟨n, hn, e1, e2, ok0⟩ := acOk_ses hok (Nat.lt_succ_self _)
   have htn : N.n.toNat = n := by omega
   have htk := fun k => acOk_tk hok (L.take k);have htl := acOk_tk hok L;simp only [htn] at hy htk htl;have hn128 := vn_le ok0.hv hn;have hwo := fun W (hI : ActIn N A lo hi Al Ah AL L W) => (weights_own W lo hi Al Ah cl ch hc.hl1 hc.hl2 hI.l1 hI.l2 hc.hs1 hc.hs2).mono fun e w' hr => WtsO.yes hr hok e1 e2
   have hat : ∀ D, 1 < D → ∀ T, TOk n T → SesOk N n (prL lo) (prL hi) T D := fun D hD T ht => by
    have := acOk_at hok hD (T := T) (by rw [htn]; exact ht);rw [htn] at this;exact this
   have hlen : N.l.length ≤ 65536 := (vld_bounds ok0.hv).2.2.2;have hl0 : 1 ≤ N.l.length := (vld_bounds ok0.hv).2.2.1;have hsu := fun k hk => actsT_succ N.n L k hk
   have hfull : actsT N.n (L.take L.length) = actsT N.n L := by rw [List.take_length]
   have hnw := fun W B cb cm ck Bl Bh hN hT h3 h4 h5 h6 => new_ok W N B cb n cm ck (prL lo) (prL hi) Bl Bh hN ok0.hv ok0.hd ok0.hs hn hT hin ok0.wt ok0.hb h3 h4 h5 h6;have hsc := sesC_small (hat _ (Nat.lt_succ_self _) _ htl);have hsw := sesW_small (hat _ (Nat.lt_succ_self _) _ htl);have hL := h.al;have HY := zqh hy;have HWO := zqh hwo;have HNX := zqh hnw;have HAT := zqh hat;have HTK := zqh htk;have HTL := zqh htl;have HSV := zqh ok0.hv;have HSU := zqh hsu;have HFU := zqh hfull;have HSC := zqh hsc;have HSW := zqh hsw;have HLR := zqh hc.hLr;have HIN := zqh hin;have HL := zqh hL;have HPL := zqh (And.intro ok0.wt.ll ok0.wt.lh);clear hfw hF h hc hin hac hok hy hwo hat htk htl hsu hfull hnw hsc hsw hL ok0 e1 e2 htn hn
   go_enter Tryz.func9, Tryz.ntmps9
   go_upto_region 8 with (first
    | (go_at_call 17; (with_reducible refine (HFW.out _ o0.out.nt).mono ?_); rintro e w1 ⟨rfl, hb⟩; have o1 := zqh (o0.out.below hb); have i1 := zqh (HI.out.below hb); clear hb m1 m2 o0 HI)
    | (go_at_call 14; (with_reducible refine (HWO.out _ i1.out).mono ?_); rintro e w2 ⟨hb, gl, gh, cm, ck, rfl, hg1, hg2, hl1, hl2, hne, hc1, hc2, r1, r2⟩; have hb2 := (Below.refl w2.heap.size w2).alloc (zqn _) (.cells #[.slice (some ⟨gl, 0, none⟩) (n + 1) cm, .slice (some ⟨gh, 0, none⟩) (n + 1) ck] 30); have o2 := zqh ((o1.out.below hb).below hb2); have i2 := zqh ((i1.out.below hb).below hb2); have P1 := zqh (r1.below hb2); have P2 := zqh (r2.below hb2); have BW := zqh (arrNew w2 #[.slice (some ⟨gl, 0, none⟩) (n + 1) cm, .slice (some ⟨gh, 0, none⟩) (n + 1) ck] 30 w2.heap.size 2 rfl rfl); have GL := zqh (And.intro (Nat.le_trans o1.out.bl.size hg1) (Nat.le_trans o1.out.bl.size hg2)); obtain ⟨p1, p2⟩ := o2.out.cells; clear hb hb2 r1 r2 o1 i1 hg1 hg2)
    | (go_at_call 30; (with_reducible refine (HAC.out _ i2.out).mono ?_); rintro e w3 hr; obtain ⟨hb, g', E', tv', k', v1, rfl, hv1, t3⟩ := HY.out _ _ _ hr; have T3 := zqh t3; have o3 := zqh (o2.out.below hb); have i3 := zqh (i2.out.below hb); have TB1 := zqh (i2.out.tb.below hv1); have P13 := zqh (P1.out.below hb); have P23 := zqh (P2.out.below hb); have BW3 := zqh (rowBelow BW.out hb); have HV1 := zqh (by have := hv1.size; rw [World.size_alloc] at this; exact this : w2.heap.size + 1 ≤ v1.heap.size); obtain ⟨q1, q2⟩ := o3.out.cells; clear hb hr p1 p2 o2 i2 hv1 t3 P1 P2 BW))
   have hv13 : v1.heap.size ≤ w3.heap.size := T3.out.bl.size;obtain ⟨gw, hgw⟩ : ∃ gw, w2.heap.size = gw := ⟨_, rfl⟩;rw [hgw] at BW3 hl1 hl2 HV1 ⊢;clear hgw HFW HAC HY HWO;have hq0 : Bag w3 w3 w3.heap.size [] (w3.alloc (.cells #[.int .i64 N.n, .slice none 0 0] 24)) := (Bag.zero w3).alloc _;have hob : (w3.alloc (.cells #[.int .i64 N.n, .slice none 0 0] 24)).rowIs w3.heap.size 24 2 (fun i => if i = 0 then .int .i64 N.n else .slice none 0 0) := pairNew _ _ _ _ _ rfl
   go_wp2_with fail
   go_loopw [13] (fun t wr => ∃ (k : Nat) (v : Value) (cs : List Value), k ≤ N.l.length ∧ t = .int .i64 (k : Int) ∧ CpS w3 N [] k v cs wr) (fun t _ => N.l.length - (intOf t).toNat)
   case atStart => exact ⟨0, .slice none 0 0, [], by omega, rfl, hob, World.ownsRow_nil _ _ _ _, ⟨rfl, fun i h => absurd h (by simp)⟩, hq0, fun r hr => by cases hr⟩
   case round =>
    clear hq0 hob q1 q2;obtain ⟨k, v, cs, hk, rfl, hcs⟩ := hrel;have hob := hcs.box;have hown := hcs.own;have q := hcs.bag;have oc := o3.out.below q.bl;obtain ⟨m1, m2⟩ := oc.cells;by_cases hlt : k < N.l.length
    ·obtain ⟨b, o, rfl, hbB, hcls⟩ := oc.nt (by omega);have hnd := hcls k hlt;clear hcls
     have hsx : N.l[k].ins.length ≤ 1000000000000 := by have := HIN.out k hlt; omega
     have htk : N.l.take (k + 1) = N.l.take k ++ [N.l[k]] := List.take_succ_eq_append_getElem hlt
     have i1 : (0 : Int) ≤ (k : Int) := by omega
     have i2 : (k : Int) < (N.l.length : Int) := by omega
     obtain ⟨x, hx⟩ : ∃ x, N.l[k] = x := ⟨_, rfl⟩;rw [hx] at hnd hsx htk;have HTK2 := zqh htk;clear hx htk;obtain ⟨hk1, hk2, ⟨A', c', hk3, hrd⟩, hr1, hr2, hr3, hr4⟩ := hnd;have HRD := zqh hrd;clear hrd;have hzo := hob.lt;have hvlt := fun g e => (hown.lt g e).2;have HV : Hid (∀ g, v.ownBlock = some g → g < wr.heap.size) := zqh hvlt;have hvlo := fun g e => (hown.lt g e).1;have HVL : Hid (∀ g, v.ownBlock = some g → w3.heap.size + 1 ≤ g) := zqh hvlo;have HO := zqh hown;clear hvlt hvlo hown oc
     have hn63 : k + 1 ≤ maxLen := by unfold maxLen; omega
     cases A' with
     | none =>
       have h0 : x.ins = [] := by
        rcases Nat.eq_zero_or_pos x.ins.length with h | h
        ·exact List.eq_nil_of_length_eq_zero h
        ·obtain ⟨_, _, e, _⟩ := HRD.out h; cases e
       obtain ⟨xk, xl, xi⟩ := x;subst h0;clear HRD;dsimp only [List.length_nil] at hk1 hk2 hk3 hr1 hr2;have b1 := hob.cell (i := 1) (by decide);have f1 := hob.frozen 1;simp at b1;have b5 : ((wr.alloc (.cells #[.int .i64 xk, .int .i64 xl, .slice (some ⟨wr.heap.size + 1, 0, none⟩) 0 0] 76)).alloc (.cells #[] 3)).cell? ⟨w3.heap.size, 1, none⟩ = some v := Lib.cell?_alloc_some _ (Lib.cell?_alloc_some _ b1);have HO1 : Hid (∀ o1 o2 o3, (((wr.alloc o1).alloc o2).alloc o3).ownsRow ((w3.heap.size + 1)) 76 3 v k cs) := zqh fun o1 o2 o3 => ((HO.out.alloc o1).alloc o2).alloc o3;have HC1 := zqh hcs;clear hcs HO
       go_wp2_with (at_builtin; refine wpList_append_own _ rfl _ _ 22 rfl ((w3.heap.size + 1)) 76 ni (.agg #[.int .i64 0, .int .i64 0, .slice none 0 0]) 3 40 Tryz.underlying22 hni hn0 hn1 hn2 rfl (by decide) v k cs rfl (HO1.out _ _ _) ⟨wr.heap.size + 1 + 1, 0, none⟩ 1 1 [.int .i64 xk, .int .i64 xl, .slice (some ⟨wr.heap.size + 1, 0, none⟩) 0 0] rfl rfl (newThree (by simp)) threeNd ?qd1 ?qd2 ?qd3 ?_)
       case qd2 => omega
       case qd3 => omega
       intro v4 w4 hown4 hgrow4 hnil4
       obtain ⟨g4, cap4, rfl⟩ : ∃ g cap, v4 = .slice (some ⟨g, 0, none⟩) (k + 1) cap := by
        rcases hown4.2 with ⟨_, e⟩ | ⟨g, cap, cur, e, _⟩
        ·omega
        ·exact ⟨g, cap, e⟩
       have hb4 := hob.of_block (w' := w4) ((hgrow4.block _ (by simp; omega) (by intro e; have := HVL.out _ e.symm; omega)).trans (((World.grownBy_alloc _ _ none).block _ (by simp; omega) (by simp)).trans (((World.grownBy_alloc _ _ none).block _ (by simp; omega) (by simp)).trans ((World.grownBy_alloc wr _ none).block _ hzo (by simp)))));have b4 := hb4.cell (i := 1) (by decide);have f4 := hb4.frozen 1;simp at b4;have hcs4 := CpS.step0 (x := ⟨xk, xl, []⟩) (A2 := some ⟨wr.heap.size + 1, 0, none⟩) (c2 := 0) HC1.out HTK2.out rfl hgrow4 hown4;have HC4 := zqh hcs4;clear hcs4 hb4 hown4 hgrow4 hnil4
       go_wp2
       go_roundw
       case rel => exact ⟨k + 1, _, _, by omega, by go_num, HC4.out⟩
       case measure => simp [intOf]; omega
     | some a =>
       go_wp2_with (at_builtin; refine wpList_append_own _ rfl _ _ 52 rfl (wr.heap.size + 1) 3 ti (.int .i64 0) 1 8 Tryz.underlying52 hti ht0 ht1 ht2 rfl (by decide) _ _ _ rfl (made2 wr _ _ _ (wr.heap.size + 1) (zqn _)) a x.ins.length c' (x.ins.map (Value.int .i64)) rfl ?qc1 ?qc2 ?qc3 ?qc4 ?qc5 ?qc6 ?_)
       case qc1 => simp
       case qc2 =>
        intro j u hj
        have hjn : j < x.ins.length := by
         have := (List.getElem?_eq_some_iff.1 hj).1
         simpa using this
        obtain ⟨b', o', e, hB, hc⟩ := HRD.out (by omega)
        obtain rfl : a = ⟨b', o', none⟩ := by injection e
        rw [Addr.add_lit];refine Lib.cell?_alloc_some _ (Lib.cell?_alloc_some _ ?_);rw [hc j hjn]
        have e : (x.ins.map (Value.int .i64))[j]? = some (intF x.ins j) := by simp [intF, List.getD, List.getElem?_eq_getElem hjn]
        rw [e] at hj;exact hj
       case qc3 => intro u hu; obtain ⟨y, _, rfl⟩ := List.mem_map.1 hu; rfl
       case qc4 => unfold maxLen; omega
       case qc5 => omega
       case qc6 => simp
       intro v' w1 hown1 hgrow1 hnil1;obtain ⟨A2, c2, rfl, hcp⟩ := cpI_mk (by simpa using hown1);clear hown1 hnil1
       have hg1 : ∀ g, (Value.slice (some ⟨wr.heap.size + 1, 0, none⟩) 0 0).ownBlock = some g → wr.heap.size + 1 ≤ g := by intro g e; injection e with e; exact Nat.le_of_eq e
       have hcs1 : CpS w3 N [] k v cs w1 := hcs.grown (row := (Value.slice (some ⟨wr.heap.size + 1, 0, none⟩) 0 0).ownBlock) (((World.grownBy_alloc wr _ _).trans (World.grownBy_alloc _ _ _)).trans hgrow1) (fun g e => by have := hg1 g e; omega)
       have hl1 : w1.heap.size ≥ wr.heap.size + 1 := by have := hgrow1.size; simp at this; omega
       have hnd1 : w1.rowIs wr.heap.size 76 3 _ := rowGrown ((row3 wr _ _ _ _ _ rfl).alloc _) hgrow1 (by simp [Value.ownBlock]);have hob1 := hcs1.box;have b1 := hob1.cell (i := 1) (by decide);have f1 := hob1.frozen 1;have d0 := hnd1.cell (i := 0) (by decide);have d1 := hnd1.cell (i := 1) (by decide);have d2 := hnd1.cell (i := 2) (by decide);have f2 := hnd1.frozen 2;simp only at b1 d0 d1 d2;have hown1 : ∀ (u : Value) (o : Obj), ((w1.setCell ⟨wr.heap.size, 2, none⟩ u).alloc o).ownsRow ((w3.heap.size + 1)) 76 3 v k cs := fun u o => ownSet (hcs1.own) (fun e => by have := HV.out _ e; omega) u o;have HO1 := zqh hown1;have HC1 := zqh hcs1;have HN1 := zqh hnd1;have HCP := zqh hcp;clear hown1 hcs1 hcp hcs HO hnd1 hgrow1 hg1
       go_wp2_with (at_builtin; refine wpList_append_own _ rfl _ _ 22 rfl ((w3.heap.size + 1)) 76 ni (.agg #[.int .i64 0, .int .i64 0, .slice none 0 0]) 3 40 Tryz.underlying22 hni hn0 hn1 hn2 rfl (by decide) v k cs rfl (HO1.out _ _) ⟨w1.heap.size, 0, none⟩ 1 1 [.int .i64 x.kind, .int .i64 x.lit, .slice A2 x.ins.length c2] rfl rfl (newThree (by simp)) threeNd ?qd1 ?qd2 ?qd3 ?_)
       case qd2 => omega
       case qd3 => simp; omega
       intro v4 w4 hown4 hgrow4 hnil4
       obtain ⟨g4, cap4, rfl⟩ : ∃ g cap, v4 = .slice (some ⟨g, 0, none⟩) (k + 1) cap := by
        rcases hown4.2 with ⟨_, e⟩ | ⟨g, cap, cur, e, _⟩
        ·omega
        ·exact ⟨g, cap, e⟩
       have hb4 := hob1.of_block (w' := w4) ((hgrow4.block _ (by simp; omega) (by intro e; have := HVL.out _ e.symm; omega)).trans (((World.grownBy_alloc _ _ none).block _ (by simp; omega) (by simp)).trans (Below.heap_setCell _ _ _ _ (by simp; omega))));have b4 := hb4.cell (i := 1) (by decide);have f4 := hb4.frozen 1;simp at b4;have hcs4 := HC1.out.step HTK2.out HN1.out (by omega) (HCP.out.mono (by omega)) _ hgrow4 hown4;have HC4 := zqh hcs4;clear hcs4 hb4 hown4 hgrow4 hnil4
       go_wp2
       go_roundw
       case rel => exact ⟨k + 1, _, _, by omega, by go_num, HC4.out⟩
       case measure => simp [intOf]; omega
    ·obtain rfl : k = N.l.length := by omega
     obtain ⟨w5, rfl⟩ : ∃ W0, W0 = wr := ⟨wr, rfl⟩;have hc := hcs.cells;rw [List.take_length] at hc;obtain ⟨B, cb, rfl, hcn⟩ := cpN_mk hown hc
     have xb : w5.rowIs w3.heap.size 24 2 (arrF #[.int .i64 N.n, .slice B N.l.length cb]) := hob.congr (fun i hi => by
      have : i = 0 ∨ i = 1 := by omega
      rcases this with rfl | rfl <;> rfl)
     have hnt5 := hcn.nt oc.nt;have wb5 := rowBelow BW3.out q.bl;have p15 := P13.out.below q.bl;have p25 := P23.out.below q.bl;have hsz5 := xb.lt;have m1 : w5.cell? ⟨w3.heap.size, 0, none⟩ = some (.int .i64 N.n) := xb.cell (i := 0) (by decide);have m2 : w5.cell? ⟨w3.heap.size, 1, none⟩ = some (.slice B N.l.length cb) := xb.cell (i := 1) (by decide);have m3 : w5.cell? ⟨gw, 0, none⟩ = some (.slice (some ⟨gl, 0, none⟩) (n + 1) cm) := wb5.cell (i := 0) (by decide);have m4 : w5.cell? ⟨gw, 1, none⟩ = some (.slice (some ⟨gh, 0, none⟩) (n + 1) ck) := wb5.cell (i := 1) (by decide);have hnw := HNX.out w5 B cb cm ck _ _ hnt5 (HT.out.below oc.bl) (p15.rd (by omega)) (p25.rd (by omega)) hc1 hc2;have HNW := zqh hnw;have hsp5 : SpN w5 (w3.heap.size + 1) w5.heap.size B N.l.length := hcn.spoil HIN.out (zqn _)
     have hmk : ∀ w6, Below w5.heap.size w5 w6 → OwS w w3 w5 w6 N B cb n gw gl gh cm ck v1.heap.size w6 ∧ SpN w6 (w3.heap.size + 1) w5.heap.size B N.l.length := fun w6 hb =>
      ⟨⟨rowBelow xb hb, rowBelow wb5 hb, ⟨_, HPL.out.1, p15.below hb⟩, ⟨_, HPL.out.2, p25.below hb⟩, fun _ _ _ => rfl, fun y a b => (hb.block y (by omega)).trans (q.bl.block y b), zqx oc.bl hb oc.bl.size, zqn _⟩, hsp5.agree fun b hb1 _ => hb.block b hb1⟩
     have HMK := zqh hmk;have HTW := zqh (HT.out.below oc.bl);have hP : OwP w w3 w5 gw gl gh v1.heap.size := ⟨GL.out.1, GL.out.2, by omega, by omega, hne, by have := HV1.out; omega, hv13, hsz5⟩;have hw5 : w.heap.size ≤ w5.heap.size := oc.bl.size;clear hc hcs hown hob q oc hcn xb hnt5 wb5 p15 p25 hnw hsp5 hmk P13 P23 BW3 o3
     go_wp2_with (go_at_call 15; (with_reducible refine HNW.out.mono ?_); rintro e w6 ⟨g, E, rfl, hs, hb⟩; obtain ⟨os6, sp6⟩ := HMK.out _ hb; have S6 := zqh (Lv.mk hs hb); have OS6 := zqh os6; have SP6 := zqh sp6; clear hs hb os6 sp6 HNW HMK m1 m2 m3 m4)
     go_loopw [17] (fun t wr => ∃ i : Nat, i ≤ N.l.length ∧ t = .int .i64 (i : Int) ∧ OwS w w3 w5 w6 N B cb n gw gl gh cm ck v1.heap.size wr ∧ SpN wr (w3.heap.size + 1) w5.heap.size B N.l.length) (fun t _ => N.l.length - (intOf t).toNat)
     case atStart => exact ⟨0, by omega, rfl, OS6.out, SP6.out⟩
     case round =>
      obtain ⟨i, hi0, rfl, hs, hsn⟩ := hrel;obtain ⟨m1, m3, m4⟩ := hs.cells;by_cases hlt : i < N.l.length
      ·obtain ⟨gn, cap, F, rfl, hsp⟩ := hsn (by omega);obtain ⟨A2, m, c2, hF, hm, hsa⟩ := hsp.ins i hlt;have k1 := hsp.row.cell (i := i * 3 + 2) (by have := hsp.le; omega);rw [hF] at k1
       have i1 : (0 : Int) ≤ (i : Int) := by omega
       have i2 : (i : Int) < (N.l.length : Int) := by omega
       have HSP := zqh hsp;have HF := zqh hF;have HS := zqh hs;clear hsa hs hF hsp hsn
       go_wp2_with fail
       obtain ⟨W0, rfl⟩ : ∃ W0, W0 = wr := ⟨wr, rfl⟩
       go_loopw [18] (fun t wr => ∃ j : Nat, j ≤ m ∧ t = .int .i64 (j : Int) ∧ OwS w w3 w5 w6 N (some ⟨gn, 0, none⟩) cb n gw gl gh cm ck v1.heap.size wr ∧ SpI wr (w3.heap.size + 1) w5.heap.size gn cap N.l.length F) (fun t _ => m - (intOf t).toNat)
       case atStart => exact ⟨0, by omega, rfl, HS.out, HSP.out⟩
       case round =>
        clear m1 m3 m4 k1;obtain ⟨j, hj, rfl, hs, hsp⟩ := hrel;obtain ⟨m1, m3, m4⟩ := hs.cells;have k1 := hsp.row.cell (i := i * 3 + 2) (by have := hsp.le; omega);rw [HF.out] at k1;by_cases hjm : j < m
        ·obtain ⟨gi, ci, fi, rfl, hlo, hhi, hri, hci⟩ : ∃ gi ci fi, A2 = some ⟨gi, 0, none⟩ ∧ w3.heap.size + 1 ≤ gi ∧ gi < w5.heap.size ∧ wr.rowIs gi 3 ci fi ∧ m ≤ ci := by
          obtain ⟨A3, m3, c3, e3, _, h3⟩ := hsp.ins i hlt;rw [HF.out] at e3;injection e3 with e1 e2 e4;subst e1 e2;exact h3 (by omega)
         have f1 := hri.cell (i := j) (by omega);have f2 := hri.frozen j
         have j1 : (0 : Int) ≤ (j : Int) := by omega
         have j2 : (j : Int) < (m : Int) := by omega
         have HS2 := zqh (And.intro (hs.copy hP hlo hhi j (.int .i64 0)) (hsp.input hri j (.int .i64 0)));clear hs hsp hri
         go_wp2_with fail
         go_roundw
         case rel => exact ⟨j + 1, by omega, by go_num, HS2.out⟩
         case measure => simp [intOf]; omega
        ·obtain rfl : j = m := by omega
         have k2 := hsp.row.cell (i := i * 3) (by have := hsp.le; omega);have y1 := hsp.row.frozen (i * 3);have HS2 := zqh (And.intro (hs.copy hP hsp.lo hsp.hi (i * 3) (.int .i64 1)) (hsp.kind i (.int .i64 1)));clear hs hsp
         go_wp2_with fail
         go_roundw
         case rel => exact ⟨i + 1, by omega, by go_num, HS2.out.1, fun _ => ⟨gn, cap, _, rfl, HS2.out.2⟩⟩
         case measure => simp [intOf]; omega
      ·obtain rfl : i = N.l.length := by omega
       have HS := zqh hs;clear hs hsn
       go_wp2_with fail
       go_loopw [19] (fun t wr => ∃ i : Nat, i ≤ n + 1 ∧ t = .int .i64 (i : Int) ∧ OwS w w3 w5 w6 N B cb n gw gl gh cm ck v1.heap.size wr) (fun t _ => n + 1 - (intOf t).toNat)
       case atStart => exact ⟨0, by omega, rfl, HS.out⟩
       case round =>
        clear m1 m3 m4;obtain ⟨i, hi0, rfl, hs⟩ := hrel;obtain ⟨m1, m3, m4⟩ := hs.cells;by_cases hlt : i < n + 1
        ·obtain ⟨L1, _, q1⟩ := hs.p1;obtain ⟨f1, f2, f3, f4⟩ := q1.cells (by omega) i hlt;have hs1 := hs.low hP i hlt;obtain ⟨L2, _, q2⟩ := hs1.p2;obtain ⟨f5, f6, f7, f8⟩ := q2.cells (by omega) i hlt;obtain ⟨_, _, m5⟩ := hs1.cells;have HS2 := zqh (hs1.high hP i hlt)
         have i1 : (0 : Int) ≤ (i : Int) := by omega
         have i2 : (i : Int) < (n : Int) + 1 := by omega
         clear hs hs1 q1 q2
         go_wp2_with fail
         go_roundw
         case rel => exact ⟨i + 1, by omega, by go_num, HS2.out⟩
         case measure => simp [intOf]; omega
        ·obtain ⟨w8, rfl⟩ : ∃ W0, W0 = wr := ⟨wr, rfl⟩;have hsz8 := Nat.le_trans S6.out.bl.size hs.sz;have hs8 : SesAt w8 w5.heap.size E g N n (prL lo) (prL hi) (.slice none 0 0) [] 0 := S6.out.ses.stay hs.sz hs.sg;have hlv := lv_trunc hs8 hsz8;have hts := trunc_size w8 w5.heap.size hsz8
         have hge : ∀ x ∈ g.all (.slice none 0 0), w5.heap.size ≤ x := fun x hx => by have := hlv.allGe x hx; omega
         have hms : Off (g.all (.slice none 0 0)) w8 (fun W => SesAt W v1.heap.size E' g' N n (prL lo) (prL hi) tv' (actsT N.n L) k') := fun W' h1 h2 =>
          T3.out.ses.stay (by have := hs.sz; have := S6.out.bl.size; omega) fun y a b => (h2 y (by have := hs.sz; have := S6.out.bl.size; omega) (fun hm => by have := hge y hm; omega)).trans (hs.mg y a b)
         have F8 := zqh (Lf.mk hlv hms);have hbo : Below w.heap.size w (trunc w8 w5.heap.size) := ⟨hs.bl.os, hs.bl.tape, hs.bl.output, by rw [hts]; omega, fun y hy => ((trunc_below w8 w5.heap.size hsz8).block y (by omega)).symm.trans (hs.bl.block y hy)⟩;have HBO := zqh hbo;have TB0 := zqh (HT.out.below hbo);obtain ⟨w0, hw0⟩ : ∃ w0, trunc w8 w5.heap.size = w0 := ⟨_, rfl⟩;rw [hw0] at F8 HBO TB0;have d0 : decide ((i : Int) < (n : Int) + 1) = false := decide_eq_false (by omega);clear hs hsz8 hs8 hlv hts hge hms hbo hw0 m1 m4 hP S6 OS6 SP6 HS
         go_wp2_with fail
         go_loopw [20] (fun t wr => ∃ i : Nat, i ≤ L.length ∧ t = .int .i64 (i : Int) ∧ ∃ tv kk, Lf w0 E g N n (prL lo) (prL hi) tv (actsT N.n (L.take i)) kk (fun W => SesAt W v1.heap.size E' g' N n (prL lo) (prL hi) tv' (actsT N.n L) k') wr) (fun t _ => L.length - (intOf t).toNat)
         case atStart => exact ⟨0, Nat.zero_le _, rfl, _, _, F8.out⟩
         case round =>
          obtain ⟨i, hi0, rfl, tv, kk, hf⟩ := hrel;have hbw := zqx HBO.out hf.lv.bl HBO.out.size;by_cases hlt : i < L.length
          ·obtain ⟨b, o, rfl, hbA, hcA⟩ := (HL.out.below hbw) (by omega);have cA0 := hcA i hlt
           have i1 : (0 : Int) ≤ (i : Int) := by omega
           have i2 : (i : Int) < (L.length : Int) := by omega
           have hsu := HSU.out i hlt;have hrx := HLR.out i;obtain ⟨x, hx⟩ : ∃ y, L.getD i 0 = y := ⟨_, rfl⟩;rw [hx] at hsu hrx
           have cA : wr.cell? ⟨b, o + i, none⟩ = some (.int .i64 x) := by rw [cA0]; unfold intF; rw [hx]
           have hok := HAT.out _ TB0.out.lt _ (HTK.out i);have hpo := hf.pop hok TB0.out;have hpu := hf.push hok TB0.out x hrx.1 hrx.2
           have hsp0 : x = 0 → actsT N.n (L.take (i + 1)) = (actsT N.n (L.take i)).dropLast := fun h0 => by rw [hsu]; unfold actT; rw [if_pos h0]
           have hsp1 : x ≠ 0 → actsT N.n (L.take (i + 1)) = pushT N.n (actsT N.n (L.take i)) x := fun h0 => by rw [hsu]; unfold actT; rw [if_neg h0]
           have HPO := zqh hpo;have HPU := zqh hpu;have HS0 := zqh hsp0;have HS1 := zqh hsp1;clear hpo hpu hsp0 hsp1 hok hsu hrx hx cA0 hcA hf;by_cases h0 : x = 0
           case' pos =>
            have hs2 := HS0.out h0;have HSS := zqh hs2;subst h0;clear HS0 HS1 hs2
            go_upto_region 36 with (go_at_call 20; (with_reducible refine HPO.out.mono ?_); rintro e w9 ⟨rfl, tv9, k9, hy'⟩)
            rw [← HSS.out] at hy'
           case' neg =>
            have hs2 := HS1.out h0;have HSS := zqh hs2
            have hx0 : (x == 0) = false := by simpa using h0
            clear HS0 HS1 hs2
            go_upto_region 36 with (go_at_call 22; (with_reducible refine HPU.out.mono ?_); rintro e w9 ⟨rfl, tv9, k9, hy'⟩)
            rw [← HSS.out] at hy'
           all_goals
            have F9 := zqh hy';have HTM := zqh (term_own hy'.lv.ses HSV.out (HAT.out _ TB0.out.lt _ (HTK.out (i + 1))).tl);have hlT := (HTK.out (i + 1)).len;clear HSS HPO HPU hy' cA
            generalize hTT : actsT N.n (L.take (i + 1)) = TT at *
            go_wp2_with (go_at_call 26; (with_reducible refine HTM.out.mono ?_); rintro e w10 ⟨⟨A9, c9, rfl, _, hb⟩, hj⟩; have HJ := zqh hj; have HB9 := zqh hb; clear hj hb HTM)
            have hrow : 0 < TT.length → ∃ g9 cap f, A9 = some ⟨g9, 0, none⟩ ∧ w9.heap.size ≤ g9 ∧ w10.rowIs g9 3 cap f ∧ TT.length ≤ cap := fun h => by
             obtain ⟨g9, cap, f, c', e, a, b, d⟩ := HJ.out h;injection e with e;injection e with e1 e2 e3;exact ⟨g9, cap, f, e1, a, b, d⟩
            clear HJ hbw
            go_loopw [22] (fun t wr => ∃ j : Nat, j ≤ TT.length ∧ t = .int .i64 (j : Int) ∧ Below w9.heap.size w9 wr ∧ (0 < TT.length → ∃ g9 cap f, A9 = some ⟨g9, 0, none⟩ ∧ w9.heap.size ≤ g9 ∧ wr.rowIs g9 3 cap f ∧ TT.length ≤ cap)) (fun t _ => TT.length - (intOf t).toNat)
            case atStart => exact ⟨0, Nat.zero_le _, rfl, HB9.out, hrow⟩
            case round =>
             clear hrow;obtain ⟨j, hj, rfl, hb9, hrow⟩ := hrel;by_cases hjl : j < TT.length
             ·obtain ⟨g9, cap, f, rfl, h1, hr9, h2⟩ := hrow (by omega);have f1 := hr9.cell (i := j) (by omega);have f2 := hr9.frozen j
              have j1 : (0 : Int) ≤ (j : Int) := by omega
              have j2 : (j : Int) < (TT.length : Int) := by omega
              have HB2 := zqh (hb9.setCell (p := ⟨g9, j, none⟩) h1 (.int .i64 99));have HR2 := zqh (hr9.set j (.int .i64 99));clear hb9 hrow hr9
              go_wp2_with fail
              go_roundw
              case rel => exact ⟨j + 1, by omega, by go_num, HB2.out, fun _ => ⟨g9, cap, _, rfl, h1, HR2.out, h2⟩⟩
              case measure => simp [intOf]; omega
             ·obtain rfl : j = TT.length := by omega
              have F10 := zqh (F9.out.below hb9);clear hb9 hrow F9
              go_wp2_with fail
              go_roundw
              case rel => exact ⟨i + 1, by omega, by go_num, tv9, k9, by rw [hTT]; exact F10.out⟩
              case measure => simp [intOf]; omega
          ·obtain rfl : i = L.length := by omega
           rw [HFU.out] at hf
           have heq := equal_true wr (.pointer (some ⟨g.b, 0, none⟩)) (.pointer (some ⟨g'.b, 0, none⟩)) (sesC N n (actsT N.n L)) (sesW N n (prL lo) (prL hi) (actsT N.n L)).1 (sesW N n (prL lo) (prL hi) (actsT N.n L)).2 HSC.out HSW.out.1 HSW.out.2
            (fun V hb => (hf.lv.below hb).count (HAT.out _ TB0.out.lt _ HTL.out) TB0.out)
            (fun V hb => count_at (hf.now.below hb) (HAT.out _ TB1.out.lt _ HTL.out) ((TB0.out.below hf.lv.bl).below hb))
            (fun V hb => (hf.lv.below hb).weight (HAT.out _ TB0.out.lt _ HTL.out) TB0.out)
            (fun V hb => weight_at (hf.now.below hb) (HAT.out _ TB1.out.lt _ HTL.out) ((TB0.out.below hf.lv.bl).below hb))
           have HEQ := zqh heq;have HBW := zqh hbw;clear heq hf hbw
           go_wp2_with (first
            | (go_at_call 31; (with_reducible refine HEQ.out.mono ?_); rintro e w9 ⟨rfl, hb⟩; have B9 := zqh (zqx HBW.out hb HBW.out.size); clear hb)
            | (go_at_call 13; (with_reducible refine (works_any _ (HT.out.below B9.out)).mono ?_); rintro e w10 ⟨rfl, hb⟩; have B10 := zqh (zqx B9.out hb B9.out.size); clear hb))
           all_goals
            go_ret
            exact ⟨rfl, B10.out⟩
  ·have hno := fun (e : Ending) (W W' : World) (hr : ActR W N lo hi L e W') => hr.no hok;have hwa := fun W (hI : ActIn N A lo hi Al Ah AL L W) => (weights_any W lo hi Al Ah cl ch hc.hl1 hc.hl2 hI.l1 hI.l2 hc.hs1 hc.hs2).mono fun e w' hr => hr.any;have HNO := zqh hno;have HWA := zqh hwa;clear hfw hF h hc hin hll hac hok hno hwa
   go_enter Tryz.func9, Tryz.ntmps9
   go_upto_region 5 with (first
    | (go_at_call 17; (with_reducible refine (HFW.out _ o0.out.nt).mono ?_); rintro e w1 ⟨rfl, hb⟩; have o1 := zqh (o0.out.below hb); have i1 := zqh (HI.out.below hb); clear hb m1 m2 o0 HI)
    | (go_at_call 14; (with_reducible refine (HWA.out _ i1.out).mono ?_); rintro e w2 ⟨hb, Bl, Bh, m, k, cm, ck, bb, rfl, _, _⟩; have hb2 := (Below.refl w2.heap.size w2).alloc (zqn _) (.cells #[.slice Bl m cm, .slice Bh k ck] 30); have o2 := zqh ((o1.out.below hb).below hb2); have i2 := zqh ((i1.out.below hb).below hb2); obtain ⟨p1, p2⟩ := o2.out.cells; clear hb hb2 o1 i1)
    | (go_at_call 30; (with_reducible refine (HAC.out _ i2.out).mono ?_); rintro e w3 hr; obtain ⟨hb, rfl⟩ := HNO.out _ _ _ hr; have o3 := zqh (o2.out.below hb); clear hb hr p1 p2 o2 i2))
   cases bb
   all_goals
    go_wp2_with (go_at_call 13; (with_reducible refine (works_any _ (HT.out.below o3.out.bl)).mono ?_); rintro e w4 ⟨rfl, hb⟩; have o4 := zqh (o3.out.below hb); clear hb o3)
    all_goals
     go_ret
     exact ⟨rfl, o4.out.bl⟩
end
end Go.Proofs.YtoljkoifgnmbgaaGreatDoor
