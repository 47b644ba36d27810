import Derived.Test.YtoljkoifgnmbgaaGreatDoorKm
set_option linter.unusedSimpArgs false
set_option linter.unusedVariables false
set_option maxRecDepth 100000
set_option maxHeartbeats 8000000
open Go Go.RowKit Cs
namespace Go.Proofs.YtoljkoifgnmbgaaGreatDoor
theorem unew_any (w : World) (N : Nt) (A : Option Addr) (c cl ch : Nat) (lo hi : List ByteArray) (Al Ah : Option Addr) (hlen : N.l.length ≤ 140737488355328) (hN : NtAt w w.heap.size A N.l) (hT : Tab w)
  (hin : ∀ k (hk : k < N.l.length), N.l[k].ins.length ≤ 1000000) (h1 : okL lo lo.length) (h2 : okL hi hi.length) (hb1 : lo.length ≤ 140) (hb2 : hi.length ≤ 140)
  (hlo : Rd w w.heap.size Al (lo.length * 2) (prsF (prL lo))) (hhi : Rd w w.heap.size Ah (hi.length * 2) (prsF (prL hi))) (hc1 : lo.length ≤ cl) (hc2 : hi.length ≤ ch) :
  Calls Tryz.prog 15 #[ntV N A c, wtsV Al Ah lo.length hi.length cl ch] w fun e w' => Below w.heap.size w w' ∧
   ((acOk N lo hi ∧ ∃ g E, e = .returned (.tuple #[.pointer (some ⟨g.b, 0, none⟩), .int .i64 0]) ∧ Ly w E g N N.n.toNat (prL lo) (prL hi) (.slice none 0 0) [] 0 [] w') ∨
    (¬ acOk N lo hi ∧ ∃ R : Int, R = wchk N (prL lo) (prL hi) ∧ R ≠ 0 ∧ e = .returned (.tuple #[.pointer none, .int .i64 R]))) := by
 have el : ∀ L : List ByteArray, (prL L).length = L.length := fun L => by unfold prL; rw [List.length_map]
 by_cases hac : acOk N lo hi
 ·obtain ⟨n, hn, e1, e2, ok⟩ := acOk_ses hac hT.lt
  have htn : N.n.toNat = n := by omega
  rw [htn];have := new_ok w N A c n cl ch (prL lo) (prL hi) Al Ah hN ok.hv ok.hd ok.hs hn hT hin ok.wt ok.hb (by rw [← e1]; exact hlo) (by rw [← e2]; exact hhi) (by omega) (by omega);rw [← e1] at this;refine (show Calls Tryz.prog 15 #[ntV N A c, wtsV Al Ah lo.length hi.length cl ch] w _ from by rw [show hi.length = lo.length by omega]; exact this).mono ?_;rintro e w' ⟨g, E, rfl, hs, hb⟩;exact ⟨hb, Or.inl ⟨hac, g, E, rfl, Ly.ofLv ⟨hs, hb⟩⟩⟩
 ·have hR : wchk N (prL lo) (prL hi) ≠ 0 := fun h => hac ⟨⟨h1, h2⟩, ⟨hb1, hb2⟩, h⟩
  have hck : ∀ W, Below w.heap.size w W → Calls Tryz.prog 40 #[ntV N A c, wtsV Al Ah lo.length hi.length cl ch] W fun e w' => e = .returned (.int .i64 (wchk N (prL lo) (prL hi))) ∧ Below W.heap.size W w' := fun W hb => by
   have hN' := (hN.below hb).more hb.size;unfold wchk;by_cases hc : vld N = true ∧ ((prL lo).length : Int) = N.n + 1 ∧ ((prL hi).length : Int) = N.n + 1
   ·rw [if_pos hc];obtain ⟨hv, e1, e2⟩ := hc;rw [el] at e1 e2;obtain ⟨hn0, hn1, hl0, hl1⟩ := vld_bounds hv;obtain ⟨n, hn⟩ : ∃ n : Nat, N.n = (n : Int) := ⟨N.n.toNat, by omega⟩
    have f1 : lo.length = n + 1 := by omega
    have f2 : hi.length = n + 1 := by omega
    rw [f1, f2, show N.n.toNat = n by omega];have hw := okL_in h1 h2 f1 f2;exact wcheck_fit W N A c cl ch n (prL lo) (prL hi) Al Ah hN' hv hn (hT.below hb) (by rw [← f1]; exact (hlo.below hb).more hb.size) (by rw [← f2]; exact (hhi.below hb).more hb.size) hw.sl hw.sh (by omega) (by omega) _ rfl
   ·rw [if_neg hc]
    have := wcheck_bad W N A c cl ch (prL lo) (prL hi) Al Ah hlen hN' (by
     cases hv : vld N
     ·exact Or.inl rfl
     ·by_cases e1 : ((prL lo).length : Int) = N.n + 1
      ·exact Or.inr (Or.inr ⟨rfl, e1, fun e2 => hc ⟨hv, e1, e2⟩⟩)
      ·exact Or.inr (Or.inl ⟨rfl, e1⟩))
    rw [el, el] at this;exact this
  refine (new_err w N A c lo.length hi.length cl ch Al Ah _ hR hck).mono ?_;rintro e w' ⟨rfl, hb⟩;exact ⟨hb, Or.inr ⟨hac, _, rfl, hR, rfl⟩⟩
def ActR (w : World) (N : Nt) (lo hi : List ByteArray) (L : List Int) (e : Ending) (w' : World) : Prop :=
 Below w.heap.size w w' ∧
 ((acOk N lo hi ∧ ∃ g E tv k w0, e = .returned (.pointer (some ⟨g.b, 0, none⟩)) ∧ Below w.heap.size w w0 ∧ Ly w0 E g N N.n.toNat (prL lo) (prL hi) tv (actsT N.n L) k [] w') ∨
  (¬ acOk N lo hi ∧ e = .returned (.pointer none)))
theorem WtsR.any {w : World} {lo hi : List ByteArray} {e : Ending} {w' : World} (h : WtsR w lo hi e w') : Below w.heap.size w w' ∧
  ∃ (Al Ah : Option Addr) (m k c d : Nat) (b : Bool), e = .returned (.tuple #[wtsV Al Ah m k c d, .bool b]) ∧ (b = true → (okL lo lo.length ∧ okL hi hi.length) ∧ (lo.length ≤ 140 ∧ hi.length ≤ 140) ∧ m = lo.length ∧ k = hi.length ∧ lo.length ≤ c ∧ hi.length ≤ d ∧
   Rd w' w'.heap.size Al (lo.length * 2) (prsF (prL lo)) ∧ Rd w' w'.heap.size Ah (hi.length * 2) (prsF (prL hi))) ∧ (b = false → ∀ N, ¬ acOk N lo hi) := by
 obtain ⟨hb, h⟩ := h;refine ⟨hb, ?_⟩;rcases h with ⟨hn, Al, Ah, m, k, c, d, rfl⟩ | ⟨hy, Al, Ah, cl, ch, rfl, h1, h2, h3, h4⟩
 ·exact ⟨Al, Ah, m, k, c, d, false, rfl, (fun h => by cases h), fun _ N h => hn h.1⟩
 ·refine ⟨Al, Ah, _, _, cl, ch, _, rfl, fun h => ?_, fun h N h5 => ?_⟩
  ·simp only [Bool.and_eq_true, decide_eq_true_eq] at h;exact ⟨hy, h, rfl, rfl, h1, h2, h3, h4⟩
  ·have := h5.2.1;rw [decide_eq_true this.1, decide_eq_true this.2] at h;cases h
theorem unew_two {w : World} {N : Nt} {lo hi : List ByteArray} {e : Ending} {w' : World} (h : Below w.heap.size w w' ∧
   ((acOk N lo hi ∧ ∃ g E, e = .returned (.tuple #[.pointer (some ⟨g.b, 0, none⟩), .int .i64 0]) ∧ Ly w E g N N.n.toNat (prL lo) (prL hi) (.slice none 0 0) [] 0 [] w') ∨
    (¬ acOk N lo hi ∧ ∃ R : Int, R = wchk N (prL lo) (prL hi) ∧ R ≠ 0 ∧ e = .returned (.tuple #[.pointer none, .int .i64 R])))) : Below w.heap.size w w' ∧ ∃ p R, e = .returned (.tuple #[p, .int .i64 R]) ∧
     ((acOk N lo hi ∧ R = 0 ∧ ∃ g E, p = .pointer (some ⟨g.b, 0, none⟩) ∧ Ly w E g N N.n.toNat (prL lo) (prL hi) (.slice none 0 0) [] 0 [] w') ∨ (¬ acOk N lo hi ∧ R ≠ 0 ∧ p = .pointer none)) := by
 obtain ⟨hb, h⟩ := h;refine ⟨hb, ?_⟩;rcases h with ⟨hac, g, E, rfl, hy⟩ | ⟨hac, R, _, hR, rfl⟩
 ·exact ⟨_, _, rfl, Or.inl ⟨hac, rfl, g, E, rfl, hy⟩⟩
 ·exact ⟨_, _, rfl, Or.inr ⟨hac, hR, rfl⟩⟩
theorem acted_any (w : World) (N : Nt) (A : Option Addr) (c cl ch cL : Nat) (lo hi : List ByteArray) (Al Ah AL : Option Addr) (L : List Int) (hlen : N.l.length ≤ 140737488355328) (hN : NtAt w w.heap.size A N.l) (hT : Tab w)
  (hin : ∀ k (hk : k < N.l.length), N.l[k].ins.length ≤ 1000000) (hl1 : lo.length ≤ 1000000000000) (hl2 : hi.length ≤ 1000000000000)
  (hA : Rd w w.heap.size Al lo.length (strF lo)) (hB : Rd w w.heap.size Ah hi.length (strF hi)) (hs1 : ∀ i, (lo.getD i ⟨#[]⟩).size ≤ maxLen) (hs2 : ∀ i, (hi.getD i ⟨#[]⟩).size ≤ maxLen)
  (hL : Rd w w.heap.size AL L.length (intF L)) (hLl : L.length ≤ 1000000) (hLr : ∀ i, -9223372036854775808 ≤ L.getD i 0 ∧ L.getD i 0 ≤ 9223372036854775807) :
  Calls Tryz.prog 30 #[ntV N A c, .slice Al lo.length cl, .slice Ah hi.length ch, .slice AL L.length cL] w (ActR w N lo hi L) := by
 have o0 := zqh (oneNew w N A c hN);have hb0 := o0.out.bl;have hws := weights_any _ lo hi Al Ah cl ch hl1 hl2 ((hA.below hb0).more hb0.size) ((hB.below hb0).more hb0.size) hs1 hs2
 have hnw := fun W c' cl' ch' Bl Bh (hb : Below w.heap.size w W) (hN : NtAt W W.heap.size A N.l) (h : okL lo lo.length ∧ okL hi hi.length) (h2 : lo.length ≤ 140 ∧ hi.length ≤ 140) h3 h4 h5 h6 =>
  (unew_any W N A c' cl' ch' lo hi Bl Bh hlen hN (hT.below hb) hin h.1 h.2 h2.1 h2.2 h3 h4 h5 h6).mono fun e w' h => unew_two h
 have hn0 : ∀ W, Tab W → acOk N lo hi → ∀ T, TOk N.n.toNat T → SesOk N N.n.toNat (prL lo) (prL hi) T W.heap.size := fun W hT h T ht => by
  obtain ⟨n, hn, _, _, ok⟩ := acOk_ses h hT.lt;rw [show N.n.toNat = n by omega] at ht ⊢;exact ok.at ht
 have htk : acOk N lo hi → ∀ k, TOk N.n.toNat (actsT N.n (L.take k)) := fun h k => by
  obtain ⟨n, hn, _, _, ok⟩ := acOk_ses h hT.lt;rw [show N.n.toNat = n by omega];exact TOk.acts hn (vn_le ok.hv hn) _
 have hsu := fun k hk => actsT_succ N.n L k hk
 have hfull : actsT N.n (L.take L.length) = actsT N.n L := by rw [List.take_length]
 have HWS := zqh hws;have HNW := zqh hnw;have HOK := zqh hn0;have HTK := zqh htk;have HSU := zqh hsu;have HFU := zqh hfull;have HT := zqh hT;have HL := zqh hL;have HLR := zqh hLr;obtain ⟨m1, m2⟩ := o0.out.cells;clear hb0 hws hnw hn0 htk hsu hfull hT hL hLr hN hA hB hs1 hs2 hl1 hl2 hin hlen;obtain ⟨ll, hll⟩ : ∃ n, lo.length = n := ⟨_, rfl⟩;obtain ⟨lh, hlh⟩ : ∃ n, hi.length = n := ⟨_, rfl⟩;rw [hll, hlh] at HWS ⊢
 go_enter Tryz.func30, Tryz.ntmps30
 go_upto_region 1 with (fail)
 go_cut [9, 10] from 14 to 20 (fun p x wx => ∃ (Bl Bh : Option Addr) (m k cm ck gw : Nat) (b : Bool), p = .pointer (some ⟨gw, 0, none⟩) ∧ x = .bool b ∧ OneAt w N A c w.heap.size wx ∧ wx.rowIs gw 30 2 (arrF #[.slice Bl m cm, .slice Bh k ck]) ∧
  (b = true → (okL lo lo.length ∧ okL hi hi.length) ∧ (lo.length ≤ 140 ∧ hi.length ≤ 140) ∧ m = lo.length ∧ k = hi.length ∧ lo.length ≤ cm ∧ hi.length ≤ ck ∧ Rd wx wx.heap.size Bl (lo.length * 2) (prsF (prL lo)) ∧ Rd wx wx.heap.size Bh (hi.length * 2) (prsF (prL hi))) ∧ (b = false → ∀ N, ¬ acOk N lo hi))
 case first =>
  go_wp2_with fail
  refine HWS.out.mono ?_;rintro e w1 hr;obtain ⟨hb, Bl, Bh, m, k, cm, ck, b, rfl, hbt, hbf⟩ := hr.any;have hb2 := (Below.refl w1.heap.size w1).alloc (zqn _) (.cells #[.slice Bl m cm, .slice Bh k ck] 30);have o1 := (o0.out.below hb).below hb2;have r1 := arrNew w1 #[.slice Bl m cm, .slice Bh k ck] 30 _ 2 rfl rfl
  have hbt2 : b = true → _ := fun h => by
   obtain ⟨a1, a2, a3, a4, a5, a6, a7, a8⟩ := hbt h;exact And.intro a1 (And.intro a2 (And.intro a3 (And.intro a4 (And.intro a5 (And.intro a6 (And.intro ((a7.below hb2).more hb2.size) ((a8.below hb2).more hb2.size)))))))
  clear hr hbt HWS hb
  go_wp2_with fail
  go_meet
  exact ⟨Bl, Bh, m, k, cm, ck, _, b, rfl, rfl, o1, r1, hbt2, hbf⟩
 case rest =>
 obtain ⟨Bl, Bh, m, k, cm, ck, gw, b, rfl, rfl, o1, r1, hbt, hbf⟩ := hcut;have hbt0 := o1.bl;cases b
 ·have hno := hbf rfl N;clear hbt hbf r1 HWS HNW HOK HTK HSU HFU HL HLR o1
  go_wp2_with fail
  go_ret
  exact ⟨hbt0, Or.inr ⟨hno, rfl⟩⟩
 ·obtain ⟨h1, h2, rfl, rfl, h3, h4, h5, h6⟩ := hbt rfl;have HN2 := zqh (HNW.out wc c cm ck Bl Bh o1.bl o1.nt h1 h2 h5 h6 h3 h4);obtain ⟨q1, q2⟩ := o1.cells;have q3 : wc.cell? ⟨gw, 0, none⟩ = some (.slice Bl lo.length cm) := r1.cell (i := 0) (by decide);have q4 : wc.cell? ⟨gw, 1, none⟩ = some (.slice Bh hi.length ck) := r1.cell (i := 1) (by decide);have HB0 := zqh hbt0;have HTW := zqh (HT.out.below hbt0);clear hbt hbf r1 HWS HNW o1 h1 h2 h3 h4 h5 h6 m1 m2 o0;obtain ⟨ll, hll⟩ : ∃ n, lo.length = n := ⟨_, rfl⟩;obtain ⟨lh, hlh⟩ : ∃ n, hi.length = n := ⟨_, rfl⟩;rw [hll] at q3 HN2;rw [hlh] at q4 HN2
  go_upto_region 5 with (go_at_call 15; (with_reducible refine HN2.out.mono ?_); rintro e w2 ⟨hb, p, R, rfl, hp⟩)
  clear HN2 q1 q2 q3 q4;rcases hp with ⟨hac, rfl, g, E, rfl, hy⟩ | ⟨hac, hR, rfl⟩
  ·have HAC := zqh hac;have HY0 := zqh hy;clear hy hb
   go_wp2_with fail
   go_loopw [13] (fun t wr => ∃ k : Nat, k ≤ L.length ∧ t = .int .i64 (k : Int) ∧ ∃ tv kk, Ly wc E g N N.n.toNat (prL lo) (prL hi) tv (actsT N.n (L.take k)) kk [] wr) (fun t _ => L.length - (intOf t).toNat)
   case atStart => exact ⟨0, Nat.zero_le _, rfl, _, _, HY0.out⟩
   case round =>
    obtain ⟨k, hk, rfl, tv, kk, hy⟩ := hrel;have hbw := zqx HB0.out hy.lv.bl HB0.out.size;have hok := HOK.out wc HTW.out HAC.out _ (HTK.out HAC.out k);by_cases hlt : k < L.length
    ·obtain ⟨b, o, rfl, hbA, hcA⟩ := (HL.out.below hbw) (by omega);have cA0 := hcA k hlt
     have i1 : (0 : Int) ≤ (k : Int) := by omega
     have i2 : (k : Int) < (L.length : Int) := by omega
     have hbA' : b < wr.heap.size := Nat.lt_of_lt_of_le hbA hbw.size;have hsu := HSU.out k hlt;have hrx := HLR.out k;obtain ⟨x, hx⟩ : ∃ y, L.getD k 0 = y := ⟨_, rfl⟩;rw [hx] at hsu hrx
     have cA : wr.cell? ⟨b, o + k, none⟩ = some (.int .i64 x) := by rw [cA0]; unfold intF; rw [hx]
     by_cases h0 : x = 0
     ·have hpo := hy.pop_any hok HTW.out;have HP := zqh hpo
      have hs2 : actsT N.n (L.take (k + 1)) = (actsT N.n (L.take k)).dropLast := by rw [hsu]; unfold actT; rw [if_pos h0]
      have HS2 := zqh hs2;subst h0;clear hpo hs2 hsu hrx hx cA0 hcA hok hy
      go_wp2_with (go_at_call 20; (with_reducible refine HP.out.mono ?_); rintro e w9 ⟨rfl, tv', k', hy'⟩)
      go_roundw
      case rel => exact ⟨k + 1, by omega, by go_num, tv', k', by rw [HS2.out]; exact hy'⟩
      case measure => simp [intOf]; omega
     ·have hpo := hy.push_any hok HTW.out x hrx.1 hrx.2;have HP := zqh hpo
      have hs2 : actsT N.n (L.take (k + 1)) = pushT N.n (actsT N.n (L.take k)) x := by rw [hsu]; unfold actT; rw [if_neg h0]
      have HS2 := zqh hs2
      have hx0 : (x == 0) = false := by simpa using h0
      clear hpo hs2 hsu hrx hx cA0 hcA hok hy
      go_wp2_with (go_at_call 22; (with_reducible refine HP.out.mono ?_); rintro e w9 ⟨rfl, tv', k', hy'⟩)
      go_roundw
      case rel => exact ⟨k + 1, by omega, by go_num, tv', k', by rw [HS2.out]; exact hy'⟩
      case measure => simp [intOf]; omega
    ·obtain rfl : k = L.length := by omega
     have hy2 := hy;rw [HFU.out] at hy2;clear hy hok
     go_wp2_with fail
     go_ret
     exact ⟨hbw, Or.inl ⟨HAC.out, g, E, tv, kk, wc, rfl, HB0.out, hy2⟩⟩
  ·have hR1 : (R != 0) = true := bne_iff_ne.2 hR
   have hR2 : (R == 0) = false := by simpa using hR
   go_wp2_with fail
   go_ret
   exact ⟨zqx HB0.out hb HB0.out.size, Or.inr ⟨hac, rfl⟩⟩
end Go.Proofs.YtoljkoifgnmbgaaGreatDoor
