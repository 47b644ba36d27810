import Derived.Test.YtgnobohfnhpkdaaGreatDoorYh
import Derived.Test.YtgnobohfnhpkdaaGreatDoorDw
import Derived.Test.YtgnobohfnhpkdaaGreatDoorHp
import Derived.Test.YtgnobohfnhpkdaaGreatDoorYl
import Derived.Test.YtgnobohfnhpkdaaGreatDoorTe
set_option linter.unusedSimpArgs false
set_option linter.unusedVariables false
set_option maxRecDepth 100000
set_option maxHeartbeats 8000000
section
open Go Go.RowKit Cs
namespace Cs
def wLcm (p q : Pr) : Nat := qd p.2 * qd q.2 / Nat.gcd (qd p.2) (qd q.2)
def wMul (p : Pr) (a : Nat) : Pr := pq (qp p * (a : Rat))
def wSt (L H : List Pr) : Nat → List Pr × List Pr
 | 0 => (L, H)
 | k + 1 => ((wSt L H k).1.set k (wMul ((wSt L H k).1.getD k (0, 0)) (wLcm ((wSt L H k).1.getD k (0, 0)) ((wSt L H k).2.getD k (0, 0)))),
    (wSt L H k).2.set k (wMul ((wSt L H k).2.getD k (0, 0)) (wLcm ((wSt L H k).1.getD k (0, 0)) ((wSt L H k).2.getD k (0, 0)))))
theorem getD_set (L : List Pr) (k i : Nat) (p : Pr) (hk : k < L.length) : (L.set k p).getD i (0, 0) = if i = k then p else L.getD i (0, 0) := by
 rw [List.getD_eq_getElem?_getD, List.getD_eq_getElem?_getD, List.getElem?_set];by_cases h : k = i
 ·subst h; rw [if_pos rfl, if_pos hk, if_pos rfl]; rfl
 ·rw [if_neg h, if_neg (fun e => h e.symm)]
theorem wSt_len (L H : List Pr) : ∀ k, (wSt L H k).1.length = L.length ∧ (wSt L H k).2.length = H.length
 | 0 => ⟨rfl, rfl⟩
 | k + 1 => by
   obtain ⟨h1, h2⟩ := wSt_len L H k;exact ⟨by show (List.set _ _ _).length = _; rw [List.length_set, h1], by show (List.set _ _ _).length = _; rw [List.length_set, h2]⟩
theorem wSt_get (L H : List Pr) (m : Nat) (hL : L.length = m) (hH : H.length = m) : ∀ k, k ≤ m → ∀ i,
  (wSt L H k).1.getD i (0, 0) = (if i < k then wMul (L.getD i (0, 0)) (wLcm (L.getD i (0, 0)) (H.getD i (0, 0))) else L.getD i (0, 0)) ∧
  (wSt L H k).2.getD i (0, 0) = (if i < k then wMul (H.getD i (0, 0)) (wLcm (L.getD i (0, 0)) (H.getD i (0, 0))) else H.getD i (0, 0))
 | 0, _, i => by rw [if_neg (by omega), if_neg (by omega)]; exact ⟨rfl, rfl⟩
 | k + 1, hk, i => by
   obtain ⟨l1, l2⟩ := wSt_len L H k;have e := wSt_get L H m hL hH k (by omega);obtain ⟨a1, a2⟩ := e k;rw [if_neg (by omega)] at a1 a2;show (List.set _ _ _).getD i (0, 0) = _ ∧ (List.set _ _ _).getD i (0, 0) = _;rw [getD_set _ _ _ _ (by omega), getD_set _ _ _ _ (by omega), a1, a2];by_cases h : i = k
   ·subst h; rw [if_pos rfl, if_pos rfl, if_pos (by omega), if_pos (by omega)]; exact ⟨rfl, rfl⟩
   ·rw [if_neg h, if_neg h, (e i).1, (e i).2];by_cases h2 : i < k
    ·rw [if_pos h2, if_pos h2, if_pos (by omega), if_pos (by omega)]; exact ⟨rfl, rfl⟩
    ·rw [if_neg h2, if_neg h2, if_neg (by omega), if_neg (by omega)]; exact ⟨rfl, rfl⟩
def Tiny (p : Pr) : Prop := n8 p.1 ≤ 1000 ∧ n8 p.2 ≤ 1000
theorem n8_qdT (d : Nat) (h : n8 d ≤ 1000) : n8 (qd d) ≤ 1000 := by
 unfold qd;split
 ·exact Nat.le_trans ((n8_le 1 _).2 (by decide)) (by omega)
 ·exact h
theorem n8_lcm {p q : Pr} (hp : Tiny p) (hq : Tiny q) : n8 (qd p.2 * qd q.2) ≤ 2000 ∧ n8 (wLcm p q) ≤ 2000 := by
 have h1 := n8_mul (qd p.2) (qd q.2);have h2 := n8_qdT _ hp.2;have h3 := n8_qdT _ hq.2;have h4 : n8 (wLcm p q) ≤ n8 (qd p.2 * qd q.2) := n8_mono (Nat.div_le_self _ _);omega
structure WhAt (w wr : World) (tW tP : TypeId) (n gl cgl gh cgh : Nat) (L H : List Pr) : Prop where
 wts : wr.rowIs w.heap.size tW 2 (arrF #[.slice (some ⟨gl, 0, none⟩) (n + 1) cgl, .slice (some ⟨gh, 0, none⟩) (n + 1) cgh])
 res : wr.rowIs (w.heap.size + 1) tW 2 (arrF #[.slice none 0 0, .slice none 0 0])
 low : PrR wr gl tP (cgl * 2) (n + 1) L
 high : PrR wr gh tP (cgh * 2) (n + 1) H
 og : w.heap.size + 1 < gl
 oh : gl < gh
 cl : n + 1 ≤ cgl
 ch : n + 1 ≤ cgh
 bl : Below w.heap.size w wr
theorem WhAt.below {w wr w' : World} {tW tP : TypeId} {n gl cgl gh cgh : Nat} {L H : List Pr} (h : WhAt w wr tW tP n gl cgl gh cgh L H) (hb : Below wr.heap.size wr w') : WhAt w w' tW tP n gl cgl gh cgh L H :=
 ⟨rowBelow h.wts hb, rowBelow h.res hb, h.low.below hb, h.high.below hb, h.og, h.oh, h.cl, h.ch, h.bl.trans (hb.mono h.bl.size)⟩
theorem arrNew2 (w : World) (o : Obj) (a : Array Value) (t : TypeId) (n : Nat) (hn : a.size = n) : ((w.alloc o).alloc (.cells a t)).rowIs (w.heap.size + 1) t n (arrF a) := arrNew _ a t _ n (by simp) hn
end Cs
end
section
open Go Go.RowKit Cs
namespace Go.Proofs.YtgnobohfnhpkdaaGreatDoor
theorem whole_any (w : World) (cl ch n : Nat) (lo hi : List Pr) (Al Ah : Option Addr) (hn2 : n ≤ 1000) (hll : lo.length = n + 1) (hlh : hi.length = n + 1) (htl : ∀ k, Tiny (lo.getD k (0, 0))) (hth : ∀ k, Tiny (hi.getD k (0, 0)))
  (hlo : Rd w w.heap.size Al ((n + 1) * 2) (prsF lo)) (hhi : Rd w w.heap.size Ah ((n + 1) * 2) (prsF hi)) :
  Calls Tryz.prog 41 #[wtsV Al Ah (n + 1) (n + 1) cl ch] w fun e w' => ∃ gl gh cgl cgh, e = .returned (wtsV (some ⟨gl, 0, none⟩) (some ⟨gh, 0, none⟩) (n + 1) (n + 1) cgl cgh) ∧ n + 1 ≤ cgl ∧ n + 1 ≤ cgh ∧
   Rd w' w'.heap.size (some ⟨gl, 0, none⟩) ((n + 1) * 2) (prsF (wSt lo hi (n + 1)).1) ∧ Rd w' w'.heap.size (some ⟨gh, 0, none⟩) ((n + 1) * 2) (prsF (wSt lo hi (n + 1)).2) ∧ Below w.heap.size w w' := by
 have h1 : ∀ (L : List Pr) i, i < (n + 1) * 2 → (prsF L i).oneCell' = true := fun L i _ => rfl;have hc1 := fun W (hb : Below w.heap.size w W) => cloneRats_any W Al cl (n + 1) (prsF lo) (by omega) (h1 lo) ((hlo.below hb).more hb.size);have hc2 := fun W (hb : Below w.heap.size w W) => cloneRats_any W Ah ch (n + 1) (prsF hi) (by omega) (h1 hi) ((hhi.below hb).more hb.size);have HC1 := zqh hc1;have HC2 := zqh hc2;clear hc1 hc2 h1 hlo hhi;have q0 := ((Bag.zero w).new #[.slice Al (n + 1) cl, .slice Ah (n + 1) ch] 46 w.heap.size 2 rfl rfl).new #[.slice none 0 0, .slice none 0 0] 46 (w.heap.size + 1) 2 (by simp) rfl
 go_enter Tryz.func41, Tryz.ntmps41
 go_wp2_with fail
 obtain ⟨W, hW'⟩ : ∃ W, (w.alloc (.cells #[.slice Al (n + 1) cl, .slice Ah (n + 1) ch] 46)).alloc (.cells #[.slice none 0 0, .slice none 0 0] 46) = W := ⟨_, rfl⟩;rw [hW'] at q0 ⊢;clear hW';have q6 := q0.drew;have m1 := q6.is (w.heap.size) 2 46 #[.slice Al (n + 1) cl, .slice Ah (n + 1) ch] (by simp) 0 (by decide) (.slice Al (n + 1) cl) rfl;have m2 := q6.is (w.heap.size) 2 46 #[.slice Al (n + 1) cl, .slice Ah (n + 1) ch] (by simp) 1 (by decide) (.slice Ah (n + 1) ch) rfl;have y1 := (q6.rows (w.heap.size, 46, 2, #[.slice Al (n + 1) cl, .slice Ah (n + 1) ch]) (by simp)).frozen 0;have y2 := (q6.rows (w.heap.size, 46, 2, #[.slice Al (n + 1) cl, .slice Ah (n + 1) ch]) (by simp)).frozen 1;refine wp_region_heldE (fun w' => w'.cell? ⟨w.heap.size, 0, none⟩ = some (.slice Al (n + 1) cl) ∧ w'.cell? ⟨w.heap.size, 1, none⟩ = some (.slice Ah (n + 1) ch)) 7 (by kernel_rfl) ⟨m1, m2⟩ (fun hS => ?_);refine zqt 0 (v := ?_) hS rfl (Or.inl ⟨by rfl, ?_⟩) ?_;rotate_left
 ·(intro w hSw; go_simp; try with_reducible rfl)
 try simp only [Act.put, zqa, zqb, zqc, zqd, zqe, zqf]
 refine zqt 1 (v := ?_) hS rfl (Or.inl ⟨by rfl, ?_⟩) ?_;rotate_left
 ·(intro w hSw; go_simp; try with_reducible rfl)
 try simp only [Act.put, zqa, zqb, zqc, zqd, zqe, zqf]
 refine zqt 3 (v := ?_) hS rfl (Or.inl ⟨by rfl, ?_⟩) ?_;rotate_left
 ·(intro w hSw; go_simp; try with_reducible rfl)
 try simp only [Act.put, zqa, zqb, zqc, zqd, zqe, zqf]
 refine zqt 4 (v := ?_) hS rfl (Or.inl ⟨by rfl, ?_⟩) ?_;rotate_left
 ·(intro w hSw; go_simp; try with_reducible rfl)
 try simp only [Act.put, zqa, zqb, zqc, zqd, zqe, zqf]
 refine wpAnyE_one 2 (by kernel_rfl) rfl (fun K hK => ?_)
 go_simp
 go_at_call 77
 (with_reducible refine (HC1.out _ q6.bl).mono ?_)
 rintro e w8 ⟨Gl, cgl, rfl, hgl, hb9⟩;have hglb := q6.bl.size;replace q6 := q6.below hb9;have m1 := q6.is (w.heap.size) 2 46 #[.slice Al (n + 1) cl, .slice Ah (n + 1) ch] (by simp) 0 (by decide) (.slice Al (n + 1) cl) rfl;have m2 := q6.is (w.heap.size) 2 46 #[.slice Al (n + 1) cl, .slice Ah (n + 1) ch] (by simp) 1 (by decide) (.slice Ah (n + 1) ch) rfl;have y1 := (q6.rows (w.heap.size, 46, 2, #[.slice Al (n + 1) cl, .slice Ah (n + 1) ch]) (by simp)).frozen 0;have y2 := (q6.rows (w.heap.size, 46, 2, #[.slice Al (n + 1) cl, .slice Ah (n + 1) ch]) (by simp)).frozen 1;refine hK.out _ _ (fun _ => ⟨m1, m2⟩) (fun hS => ?_);replace hS := hS (by decide);clear hK K
 try simp only [Act.put, zqa, zqb, zqc, zqd, zqe, zqf]
 refine wpAnyE_one 5 (by kernel_rfl) rfl (fun K hK => ?_)
 go_simp
 go_at_call 77
 (with_reducible refine (HC2.out _ q6.bl).mono ?_)
 rintro e w9 ⟨Gh, cgh, rfl, hgh, hb9⟩;have hghb := q6.bl.size;have hb8 := hb9;replace q6 := q6.below hb9;have m1 := q6.is (w.heap.size) 2 46 #[.slice Al (n + 1) cl, .slice Ah (n + 1) ch] (by simp) 0 (by decide) (.slice Al (n + 1) cl) rfl;have m2 := q6.is (w.heap.size) 2 46 #[.slice Al (n + 1) cl, .slice Ah (n + 1) ch] (by simp) 1 (by decide) (.slice Ah (n + 1) ch) rfl;have y1 := (q6.rows (w.heap.size, 46, 2, #[.slice Al (n + 1) cl, .slice Ah (n + 1) ch]) (by simp)).frozen 0;have y2 := (q6.rows (w.heap.size, 46, 2, #[.slice Al (n + 1) cl, .slice Ah (n + 1) ch]) (by simp)).frozen 1;refine hK.out _ _ (fun _ => ⟨m1, m2⟩) (fun hS => ?_);replace hS := hS (by decide);clear hK K
 try simp only [Act.put, zqa, zqb, zqc, zqd, zqe, zqf]
 refine zqt 6 (v := ?_) hS rfl (Or.inl ⟨by rfl, ?_⟩) ?_;rotate_left
 ·(intro w hSw; go_simp; try with_reducible rfl)
 try simp only [Act.put, zqa, zqb, zqc, zqd, zqe, zqf]
 refine wpAnyE_one 7 (by kernel_rfl) rfl (fun K hK => ?_)
 go_simp
 refine hK.out _ _ (fun h => absurd rfl h) (fun _ => ?_);clear hK K;refine wpAnyE_done (by kernel_rfl) ?_ _;obtain ⟨gl, Fl, rfl, ogl, ccl, rl, fl⟩ := hgl (by omega);obtain ⟨gh, Fh, rfl, ogh, cch, rh, fh⟩ := hgh (by omega);have lgl := rl.lt;have hWs : w.heap.size + 1 < W.drew.heap.size := (q0.drew.rows (w.heap.size + 1, 46, 2, #[.slice none 0 0, .slice none 0 0]) (by simp)).lt;replace rl := rowBelow rl hb9;have i2 := q6.rows (w.heap.size, 46, 2, #[.slice Al (n + 1) cl, .slice Ah (n + 1) ch]) (by simp);have i4 := q6.rows (w.heap.size + 1, 46, 2, #[.slice none 0 0, .slice none 0 0]) (by simp)
 have d0 : WhAt w ((w9.setCell ⟨w.heap.size, 0, none⟩ (.slice (some ⟨gl, 0, none⟩) (n + 1) cgl)).setCell ⟨w.heap.size, 1, none⟩ (.slice (some ⟨gh, 0, none⟩) (n + 1) cgh)) 46 74 n gl cgl gh cgh lo hi := by
  refine ⟨pairRow i2 _ _, (i4.setOther ?_ _).setOther ?_ _, ⟨Fl, (rl.setOther ?_ _).setOther ?_ _, fl⟩, ⟨Fh, (rh.setOther ?_ _).setOther ?_ _, fh⟩, by omega, by omega, ccl, cch, (q6.bl.setCell (zqn _) _).setCell (zqn _) _⟩
  all_goals (simp only []; omega)
 clear i2 i4 rl rh fl fh lgl hWs hgl hgh hb8 hb9 q6 q0 HC1 HC2;generalize (w9.setCell ⟨w.heap.size, 0, none⟩ (.slice (some ⟨gl, 0, none⟩) (n + 1) cgl)).setCell ⟨w.heap.size, 1, none⟩ (.slice (some ⟨gh, 0, none⟩) (n + 1) cgh) = W9 at d0 ⊢;have n0 : W9.cell? ⟨w.heap.size, 0, none⟩ = some (.slice (some ⟨gl, 0, none⟩) (n + 1) cgl) := d0.wts.cell (i := 0) (by omega)
 go_wp2
 go_loopw [21] (fun t wr => ∃ v : Nat, v ≤ n + 1 ∧ t = .int .i64 v ∧ WhAt w wr 46 74 n gl cgl gh cgh (wSt lo hi v).1 (wSt lo hi v).2) (fun t _ => n + 1 - (intOf t).toNat)
 case atStart => exact ⟨0, by omega, rfl, d0⟩
 case round =>
  clear d0 n0;obtain ⟨v, hv1, rfl, d1⟩ := hrel;rcases Nat.lt_or_ge n v with hvn | hvn
  ·obtain rfl : v = n + 1 := by omega
   have b1 : decide (((n + 1 : Nat) : Int) < ((n + 1 : Nat) : Int)) = false := decide_eq_false (by omega);have a0 : wr.cell? ⟨w.heap.size, 0, none⟩ = some (.slice (some ⟨gl, 0, none⟩) (n + 1) cgl) := d1.wts.cell (i := 0) (by omega);have a1 : wr.cell? ⟨w.heap.size, 1, none⟩ = some (.slice (some ⟨gh, 0, none⟩) (n + 1) cgh) := d1.wts.cell (i := 1) (by omega);have e0 : wr.cell? ⟨w.heap.size + 1, 0, none⟩ = some (.slice none 0 0) := d1.res.cell (i := 0) (by omega);have e1 : wr.cell? ⟨w.heap.size + 1, 1, none⟩ = some (.slice none 0 0) := d1.res.cell (i := 1) (by omega);have g0 := d1.res.frozen 0;have g1 := d1.res.frozen 1
   go_wp2
   have lg := d1.og;have lh := d1.oh
   exact ret_row rfl (w.heap.size + 1) 46 2 _ rfl (pairRow d1.res _ _) _ Tryz.underlying46 rfl size_wts rfl ⟨gl, gh, cgl, cgh, rfl, d1.cl, d1.ch,
    ((d1.low.setOther (by simp; omega) _).setOther (by simp; omega) _).rd (by have := d1.cl; omega), ((d1.high.setOther (by simp; omega) _).setOther (by simp; omega) _).rd (by have := d1.ch; omega), (d1.bl.setCell (by simp) _).setCell (by simp) _⟩
  ·have b1 : decide ((v : Int) < ((n + 1 : Nat) : Int)) = true := decide_eq_true (by omega);have b1' : decide ((v : Int) < (n : Int) + 1) = true := decide_eq_true (by omega);have hst := fun k => wSt_get lo hi (n + 1) hll hlh v (by omega) k;obtain ⟨hlen1, hlen2⟩ := wSt_len lo hi v;rw [hll] at hlen1;rw [hlh] at hlen2
   have hnext : wSt lo hi (v + 1) = ((wSt lo hi v).1.set v (wMul ((wSt lo hi v).1.getD v (0, 0)) (wLcm ((wSt lo hi v).1.getD v (0, 0)) ((wSt lo hi v).2.getD v (0, 0)))),
    (wSt lo hi v).2.set v (wMul ((wSt lo hi v).2.getD v (0, 0)) (wLcm ((wSt lo hi v).1.getD v (0, 0)) ((wSt lo hi v).2.getD v (0, 0))))) := rfl
   obtain ⟨L, hL⟩ : ∃ L, (wSt lo hi v).1 = L := ⟨_, rfl⟩;obtain ⟨H, hH⟩ : ∃ H, (wSt lo hi v).2 = H := ⟨_, rfl⟩;rw [hL] at hnext hlen1 d1;rw [hH] at hnext hlen2 d1;have hpv := (hst v).1;have hqv := (hst v).2;rw [if_neg (by omega), hL] at hpv;rw [if_neg (by omega), hH] at hqv;have ht1 := htl v;have ht2 := hth v;rw [← hpv] at ht1;rw [← hqv] at ht2;have c1 := d1.low.cells (by have := d1.cl; omega) v (by omega);have c2 := d1.high.cells (by have := d1.ch; omega) v (by omega);clear hst hL hH hpv hqv;obtain ⟨p, hp⟩ : ∃ p, L.getD v (0, 0) = p := ⟨_, rfl⟩;obtain ⟨q, hq⟩ : ∃ q, H.getD v (0, 0) = q := ⟨_, rfl⟩;rw [hp] at ht1 hnext c1;rw [hq] at ht2 hnext c2;have HNX := zqh hnext;have HT1 := zqh ht1;have HT2 := zqh ht2;have HL1 := zqh hlen1;have HL2 := zqh hlen2;have HPL := zqh hp;have HQL := zqh hq;clear hnext ht1 ht2 hp hq hlen1 hlen2;obtain ⟨pn, pd⟩ := p;obtain ⟨qn', qd'⟩ := q;simp only at c1 c2;obtain ⟨s3, s4, f3, f4⟩ := c1;obtain ⟨s5, s6, f5, f6⟩ := c2;have s1 : wr.cell? ⟨w.heap.size, 0, none⟩ = some (.slice (some ⟨gl, 0, none⟩) (n + 1) cgl) := d1.wts.cell (i := 0) (by omega);have s2 : wr.cell? ⟨w.heap.size, 1, none⟩ = some (.slice (some ⟨gh, 0, none⟩) (n + 1) cgh) := d1.wts.cell (i := 1) (by omega)
   have i1 : (0 : Int) ≤ (v : Int) := by omega
   have i2 : (v : Int) < (n : Int) + 1 := by omega
   have i3 : (v : Int) < ((n + 1 : Nat) : Int) := by omega
   have i4 : v < n + 1 := by omega
   have lg := d1.low.lt;have lh := d1.high.lt;have og := d1.og
   have l0 : w.heap.size < wr.heap.size := by omega
   have l1 : w.heap.size + 1 < wr.heap.size := by omega
   have hd1 := fun W => den_any W pn pd (by have := HT1.out.2; simp only at this; omega);have hd2 := fun W => den_any W qn' qd' (by have := HT2.out.2; simp only at this; omega);have HD1 := zqh hd1;have HD2 := zqh hd2;clear hd1 hd2
   go_wp2_with fail
   have hlc := n8_lcm HT1.out HT2.out;unfold wLcm at hlc;simp only at hlc;have hD0 := qd_pos pd;have hE0 := qd_pos qd';have hD8 := n8_qdT pd HT1.out.2;have hE8 := n8_qdT qd' HT2.out.2;have hLc : wLcm (pn, pd) (qn', qd') = qd pd * qd qd' / Nat.gcd (qd pd) (qd qd') := rfl;rw [hLc] at HNX;clear hLc;have HS : Hid (∀ W, Below wr.heap.size wr W → W.cell? ⟨w.heap.size, 0, none⟩ = some (.slice (some ⟨gl, 0, none⟩) (n + 1) cgl) ∧ W.cell? ⟨w.heap.size, 1, none⟩ = some (.slice (some ⟨gh, 0, none⟩) (n + 1) cgh) ∧ W.cell? ⟨gl, v * 2, none⟩ = some (.string (natB pn)) ∧ W.cell? ⟨gl, v * 2 + 1, none⟩ = some (.string (natB pd)) ∧ W.cell? ⟨gh, v * 2, none⟩ = some (.string (natB qn')) ∧ W.cell? ⟨gh, v * 2 + 1, none⟩ = some (.string (natB qd'))) := zqh fun W hb => ⟨(hb.cell (p := ⟨w.heap.size, 0, none⟩) l0).trans s1, (hb.cell (p := ⟨w.heap.size, 1, none⟩) l0).trans s2, (hb.cell (p := ⟨gl, v * 2, none⟩) lg).trans s3, (hb.cell (p := ⟨gl, v * 2 + 1, none⟩) lg).trans s4, (hb.cell (p := ⟨gh, v * 2, none⟩) lh).trans s5, (hb.cell (p := ⟨gh, v * 2 + 1, none⟩) lh).trans s6⟩
   refine wp_region_props (n := _) (PX := [fun xl xv xw => xv = .pointer (some ⟨w.heap.size, 0, none⟩),
      fun xl xv xw => xv = .slice (some ⟨gl, 0, none⟩) (n + 1) cgl,
      fun xl xv xw => xv = .int .i64 (v : Int),
      fun xl xv xw => xv = .pointer (some ⟨gl, v * 2, none⟩),
      fun xl xv xw => xv = .agg #[.string (natB pn), .string (natB pd)],
      fun xl xv xw => xv = natV (qd pd),
      fun xl xv xw => xv = .pointer (some ⟨w.heap.size, 1, none⟩),
      fun xl xv xw => xv = .slice (some ⟨gh, 0, none⟩) (n + 1) cgh,
      fun xl xv xw => xv = .int .i64 (v : Int),
      fun xl xv xw => xv = .pointer (some ⟨gh, v * 2, none⟩),
      fun xl xv xw => xv = .agg #[.string (natB qn'), .string (natB qd')],
      fun xl xv xw => xv = natV (qd qd'),
      fun xl xv xw => ∃ X, xv = .pointer (some ⟨X, 0, none⟩) ∧ wr.heap.size ≤ X ∧ World.rowIs xw X 59 1 (arrF #[.string ⟨#[]⟩]),
      fun xl xv xw => ∃ X, xv = .pointer (some ⟨X, 0, none⟩) ∧ wr.heap.size ≤ X ∧ World.rowIs xw X 59 1 (arrF #[.string ⟨#[]⟩])])
     (AL := [12, 13]) (DP := [[], [0], [], [1, 2], [3], [4], [], [6], [], [7, 8], [9], [10], [], []]) (L1 := [0, 1, 2, 3, 4, 5, 6, 7, 8, 9, 10, 11, 12, 13]) (ex := []) (by kernel_rfl) rfl (by kernel_rfl) ?_ ?_ (fin0 ?_)
   ·refine List.forall_mem_cons.2 ⟨?_, List.forall_mem_cons.2 ⟨?_, List.forall_mem_cons.2 ⟨?_, List.forall_mem_cons.2 ⟨?_, List.forall_mem_cons.2 ⟨?_, List.forall_mem_cons.2 ⟨?_, List.forall_mem_cons.2 ⟨?_, List.forall_mem_cons.2 ⟨?_, List.forall_mem_cons.2 ⟨?_, List.forall_mem_cons.2 ⟨?_, List.forall_mem_cons.2 ⟨?_, List.forall_mem_cons.2 ⟨?_, List.forall_mem_cons.2 ⟨?_, List.forall_mem_cons.2 ⟨?_, List.forall_mem_nil _⟩⟩⟩⟩⟩⟩⟩⟩⟩⟩⟩⟩⟩⟩
    ·exact fun _ _ _ _ h _ => h
    ·exact fun _ _ _ _ h _ => h
    ·exact fun _ _ _ _ h _ => h
    ·exact fun _ _ _ _ h _ => h
    ·exact fun _ _ _ _ h _ => h
    ·exact fun _ _ _ _ h _ => h
    ·exact fun _ _ _ _ h _ => h
    ·exact fun _ _ _ _ h _ => h
    ·exact fun _ _ _ _ h _ => h
    ·exact fun _ _ _ _ h _ => h
    ·exact fun _ _ _ _ h _ => h
    ·exact fun _ _ _ _ h _ => h
    ·exact fun l v w w2 h hb => by obtain ⟨X, h1, h2, h3⟩ := h; exact ⟨X, h1, h2, rowBelow h3 hb⟩
    ·exact fun l v w w2 h hb => by obtain ⟨X, h1, h2, h3⟩ := h; exact ⟨X, h1, h2, rowBelow h3 hb⟩
   ·refine List.forall_mem_cons.2 ⟨?_, List.forall_mem_cons.2 ⟨?_, List.forall_mem_cons.2 ⟨?_, List.forall_mem_cons.2 ⟨?_, List.forall_mem_cons.2 ⟨?_, List.forall_mem_cons.2 ⟨?_, List.forall_mem_cons.2 ⟨?_, List.forall_mem_cons.2 ⟨?_, List.forall_mem_cons.2 ⟨?_, List.forall_mem_cons.2 ⟨?_, List.forall_mem_cons.2 ⟨?_, List.forall_mem_cons.2 ⟨?_, List.forall_mem_cons.2 ⟨?_, List.forall_mem_cons.2 ⟨?_, List.forall_mem_nil _⟩⟩⟩⟩⟩⟩⟩⟩⟩⟩⟩⟩⟩⟩
    ·refine StepOk.intro rfl [] (by kernel_rfl) ?_;intro vs W hW0 hd K hK;have hW : Below wr.heap.size wr W := zqx (belowDrewN (zqr _ _) 1) hW0 (zqn _);clear hd
     try simp only [putsD, Act.put, zqa, zqb, zqc, zqd, zqe, zqf] at hK ⊢
     obtain ⟨m1, m2, m3, m4, m5, m6⟩ := HS.out W hW
     go_simp
     exact hK.out _ _ rfl (zqr _ _) (fun h => absurd h (by decide))
    ·refine StepOk.intro rfl [(0, some 24)] (by kernel_rfl) ?_;intro vs W hW0 hd K hK;have hW : Below wr.heap.size wr W := zqx (belowDrewN (zqr _ _) 1) hW0 (zqn _);have d0 : vs 0 = .pointer (some ⟨w.heap.size, 0, none⟩) := hd 0 (by decide);clear hd
     try simp only [d0, putsD, Act.put, zqa, zqb, zqc, zqd, zqe, zqf] at hK ⊢
     obtain ⟨m1, m2, m3, m4, m5, m6⟩ := HS.out W hW
     go_simp
     exact hK.out _ _ rfl (zqr _ _) (fun h => absurd h (by decide))
    ·refine StepOk.intro rfl [] (by kernel_rfl) ?_;intro vs W hW0 hd K hK;have hW : Below wr.heap.size wr W := zqx (belowDrewN (zqr _ _) 1) hW0 (zqn _);clear hd
     try simp only [putsD, Act.put, zqa, zqb, zqc, zqd, zqe, zqf] at hK ⊢
     go_simp
     exact hK.out _ _ rfl (zqr _ _) (fun h => absurd h (by decide))
    ·refine StepOk.intro rfl [(1, some 25), (2, some 26)] (by kernel_rfl) ?_;intro vs W hW0 hd K hK;have hW : Below wr.heap.size wr W := zqx (belowDrewN (zqr _ _) 1) hW0 (zqn _);have d1 : vs 1 = .slice (some ⟨gl, 0, none⟩) (n + 1) cgl := hd 1 (by decide);have d2 : vs 2 = .int .i64 (v : Int) := hd 2 (by decide);clear hd
     try simp only [d1, d2, putsD, Act.put, zqa, zqb, zqc, zqd, zqe, zqf] at hK ⊢
     obtain ⟨m1, m2, m3, m4, m5, m6⟩ := HS.out W hW
     go_simp
     exact hK.out _ _ rfl (zqr _ _) (fun h => absurd h (by decide))
    ·refine StepOk.intro rfl [(3, some 27)] (by kernel_rfl) ?_;intro vs W hW0 hd K hK;have hW : Below wr.heap.size wr W := zqx (belowDrewN (zqr _ _) 1) hW0 (zqn _);have d3 : vs 3 = .pointer (some ⟨gl, v * 2, none⟩) := hd 3 (by decide);clear hd
     try simp only [d3, putsD, Act.put, zqa, zqb, zqc, zqd, zqe, zqf] at hK ⊢
     obtain ⟨m1, m2, m3, m4, m5, m6⟩ := HS.out W hW
     go_simp
     exact hK.out _ _ rfl (zqr _ _) (fun h => absurd h (by decide))
    ·refine StepOk.intro rfl [(4, some 28)] (by kernel_rfl) ?_;intro vs W hW0 hd K hK;have hW : Below wr.heap.size wr W := zqx (belowDrewN (zqr _ _) 1) hW0 (zqn _);have d4 : vs 4 = .agg #[.string (natB pn), .string (natB pd)] := hd 4 (by decide);clear hd
     try simp only [d4, putsD, Act.put, zqa, zqb, zqc, zqd, zqe, zqf] at hK ⊢
     go_simp
     go_at_call 78
     (with_reducible first | refine (HD1.out _).mono ?_)
     rintro e w9 ⟨rfl, hb9⟩;exact hK.out _ _ (rfl) hb9 (fun h => absurd h (by decide))
    ·refine StepOk.intro rfl [] (by kernel_rfl) ?_;intro vs W hW0 hd K hK;have hW : Below wr.heap.size wr W := zqx (belowDrewN (zqr _ _) 1) hW0 (zqn _);clear hd
     try simp only [putsD, Act.put, zqa, zqb, zqc, zqd, zqe, zqf] at hK ⊢
     obtain ⟨m1, m2, m3, m4, m5, m6⟩ := HS.out W hW
     go_simp
     exact hK.out _ _ rfl (zqr _ _) (fun h => absurd h (by decide))
    ·refine StepOk.intro rfl [(6, some 30)] (by kernel_rfl) ?_;intro vs W hW0 hd K hK;have hW : Below wr.heap.size wr W := zqx (belowDrewN (zqr _ _) 1) hW0 (zqn _);have d6 : vs 6 = .pointer (some ⟨w.heap.size, 1, none⟩) := hd 6 (by decide);clear hd
     try simp only [d6, putsD, Act.put, zqa, zqb, zqc, zqd, zqe, zqf] at hK ⊢
     obtain ⟨m1, m2, m3, m4, m5, m6⟩ := HS.out W hW
     go_simp
     exact hK.out _ _ rfl (zqr _ _) (fun h => absurd h (by decide))
    ·refine StepOk.intro rfl [] (by kernel_rfl) ?_;intro vs W hW0 hd K hK;have hW : Below wr.heap.size wr W := zqx (belowDrewN (zqr _ _) 1) hW0 (zqn _);clear hd
     try simp only [putsD, Act.put, zqa, zqb, zqc, zqd, zqe, zqf] at hK ⊢
     go_simp
     exact hK.out _ _ rfl (zqr _ _) (fun h => absurd h (by decide))
    ·refine StepOk.intro rfl [(7, some 31), (8, some 32)] (by kernel_rfl) ?_;intro vs W hW0 hd K hK;have hW : Below wr.heap.size wr W := zqx (belowDrewN (zqr _ _) 1) hW0 (zqn _);have d7 : vs 7 = .slice (some ⟨gh, 0, none⟩) (n + 1) cgh := hd 7 (by decide);have d8 : vs 8 = .int .i64 (v : Int) := hd 8 (by decide);clear hd
     try simp only [d7, d8, putsD, Act.put, zqa, zqb, zqc, zqd, zqe, zqf] at hK ⊢
     obtain ⟨m1, m2, m3, m4, m5, m6⟩ := HS.out W hW
     go_simp
     exact hK.out _ _ rfl (zqr _ _) (fun h => absurd h (by decide))
    ·refine StepOk.intro rfl [(9, some 33)] (by kernel_rfl) ?_;intro vs W hW0 hd K hK;have hW : Below wr.heap.size wr W := zqx (belowDrewN (zqr _ _) 1) hW0 (zqn _);have d9 : vs 9 = .pointer (some ⟨gh, v * 2, none⟩) := hd 9 (by decide);clear hd
     try simp only [d9, putsD, Act.put, zqa, zqb, zqc, zqd, zqe, zqf] at hK ⊢
     obtain ⟨m1, m2, m3, m4, m5, m6⟩ := HS.out W hW
     go_simp
     exact hK.out _ _ rfl (zqr _ _) (fun h => absurd h (by decide))
    ·refine StepOk.intro rfl [(10, some 34)] (by kernel_rfl) ?_;intro vs W hW0 hd K hK;have hW : Below wr.heap.size wr W := zqx (belowDrewN (zqr _ _) 1) hW0 (zqn _);have d10 : vs 10 = .agg #[.string (natB qn'), .string (natB qd')] := hd 10 (by decide);clear hd
     try simp only [d10, putsD, Act.put, zqa, zqb, zqc, zqd, zqe, zqf] at hK ⊢
     go_simp
     go_at_call 78
     (with_reducible first | refine (HD2.out _).mono ?_)
     rintro e w9 ⟨rfl, hb9⟩;exact hK.out _ _ (rfl) hb9 (fun h => absurd h (by decide))
    ·refine StepOk.intro rfl [] (by kernel_rfl) ?_;intro vs W hW0 hd K hK;have hW : Below wr.heap.size wr W := zqx (belowDrewN (zqr _ _) 1) hW0 (zqn _);clear hd
     try simp only [putsD, Act.put, zqa, zqb, zqc, zqd, zqe, zqf] at hK ⊢
     go_simp
     exact hK.out _ _ ⟨W.heap.size, rfl, hW.size, arrNew _ _ _ _ _ rfl rfl⟩ ((zqr _ _).alloc (zqn _) _) (fun _ b hb => by simp [blkOf] at hb; subst hb; exact ⟨zqn _, by simp⟩)
    ·refine StepOk.intro rfl [] (by kernel_rfl) ?_;intro vs W hW0 hd K hK;have hW : Below wr.heap.size wr W := zqx (belowDrewN (zqr _ _) 1) hW0 (zqn _);clear hd
     try simp only [putsD, Act.put, zqa, zqb, zqc, zqd, zqe, zqf] at hK ⊢
     go_simp
     exact hK.out _ _ ⟨W.heap.size, rfl, hW.size, arrNew _ _ _ _ _ rfl rfl⟩ ((zqr _ _).alloc (zqn _) _) (fun _ b hb => by simp [blkOf] at hb; subst hb; exact ⟨zqn _, by simp⟩)
   refine FinOk.intro [(0, some 24), (1, some 25), (2, some 26), (3, some 27), (4, some 28), (5, some 29), (6, some 30), (7, some 31), (8, some 32), (9, some 33), (10, some 34), (11, some 35), (12, some 4), (13, some 5)] #[true, true, true, true, true, true, true, true, true, true, true, true, true, true, false, false] 2 (by kernel_rfl) (by kernel_rfl) (by kernel_rfl) ?_;intro vs Wf hW0 hd hbk hdis kf;have hW : Below wr.heap.size wr Wf := zqx (belowDrewN (zqr _ _) 1) hW0 (zqn _);have d0 : vs 0 = .pointer (some ⟨w.heap.size, 0, none⟩) := hd 0 (by decide);have d1 : vs 1 = .slice (some ⟨gl, 0, none⟩) (n + 1) cgl := hd 1 (by decide);have d2 : vs 2 = .int .i64 (v : Int) := hd 2 (by decide);have d3 : vs 3 = .pointer (some ⟨gl, v * 2, none⟩) := hd 3 (by decide);have d4 : vs 4 = .agg #[.string (natB pn), .string (natB pd)] := hd 4 (by decide);have d5 : vs 5 = natV (qd pd) := hd 5 (by decide);have d6 : vs 6 = .pointer (some ⟨w.heap.size, 1, none⟩) := hd 6 (by decide);have d7 : vs 7 = .slice (some ⟨gh, 0, none⟩) (n + 1) cgh := hd 7 (by decide);have d8 : vs 8 = .int .i64 (v : Int) := hd 8 (by decide);have d9 : vs 9 = .pointer (some ⟨gh, v * 2, none⟩) := hd 9 (by decide);have d10 : vs 10 = .agg #[.string (natB qn'), .string (natB qd')] := hd 10 (by decide);have d11 : vs 11 = natV (qd qd') := hd 11 (by decide);obtain ⟨X4, d12, b4, r4⟩ : ∃ X, vs 12 = .pointer (some ⟨X, 0, none⟩) ∧ wr.heap.size ≤ X ∧ World.rowIs Wf X 59 1 (arrF #[.string ⟨#[]⟩]) := hd 12 (by decide);obtain ⟨X5, d13, b5, r5⟩ : ∃ X, vs 13 = .pointer (some ⟨X, 0, none⟩) ∧ wr.heap.size ≤ X ∧ World.rowIs Wf X 59 1 (arrF #[.string ⟨#[]⟩]) := hd 13 (by decide);have n4_5 : X4 ≠ X5 := fun h => hdis 12 (by decide) 13 (by decide) (by decide) rfl rfl X4 (by rw [d12]; rfl) (by rw [d13, h]; rfl);have n5_4 := Ne.symm n4_5;clear hd hbk hdis hW0
   try simp only [d0, d1, d2, d3, d4, d5, d6, d7, d8, d9, d10, d11, d12, d13, putsD, Act.put, zqa, zqb, zqc, zqd, zqe, zqf]
   clear d0 d1 d2 d3 d4 d5 d6 d7 d8 d9 d10 d11 d12 d13 vs;clear HS;have l4 := r4.lt;have y4_0 := r4.frozen 0;have k4_0 := r4.cell (i := 0) (by decide);have l5 := r5.lt;have y5_0 := r5.frozen 0;have k5_0 := r5.cell (i := 0) (by decide);refine wpAny_one1 14 (by kernel_rfl) rfl (fun K hK => ?_)
   go_simp
   refine hK.out _ _ ?_;clear hK K
   try simp only [putsD, Act.put, zqa, zqb, zqc, zqd, zqe, zqf]
   refine wpAny_one1 15 (by kernel_rfl) rfl (fun K hK => ?_)
   go_simp
   refine hK.out _ _ ?_;clear hK K
   try simp only [putsD, Act.put, zqa, zqb, zqc, zqd, zqe, zqf]
   refine wpAny_end (by kernel_rfl) ?_ _;have R4 := (oneRow r4 (.string (natB (qd pd)))).setOther (a := ⟨X5, 0, none⟩) n4_5 (.string (natB (qd qd')));have R5 := oneRow (r5.setOther (a := ⟨X4, 0, none⟩) n5_4 (.string (natB (qd pd)))) (.string (natB (qd qd')));have hb5 := (hW.setCell (p := ⟨X4, 0, none⟩) b4 (.string (natB (qd pd)))).setCell (p := ⟨X5, 0, none⟩) b5 (.string (natB (qd qd')));obtain ⟨W5, hW5⟩ : ∃ W5, (Wf.setCell ⟨X4, 0, none⟩ (.string (natB (qd pd)))).setCell ⟨X5, 0, none⟩ (.string (natB (qd qd'))) = W5 := ⟨_, rfl⟩;rw [hW5] at R4 R5 hb5 ⊢;clear hW5 hW r4 r5 y4_0 y5_0 k4_0 k5_0 l4 l5
   ·have r4 := R4;have r5 := R5;clear R4 R5;obtain ⟨D, hD⟩ : ∃ D, qd pd = D := ⟨_, rfl⟩;obtain ⟨E, hE⟩ : ∃ E, qd qd' = E := ⟨_, rfl⟩;rw [hD] at HNX hlc hD0 hD8 r4;rw [hE] at HNX hlc hE0 hE8 r5;clear hD hE HD1 HD2 s1 s2 s3 s4 s5 s6 f3 f4 f5 f6;have hg0 : 0 < Nat.gcd D E := Nat.gcd_pos_of_pos_left _ hD0;have hg8 : n8 (Nat.gcd D E) ≤ 1000 := Nat.le_trans (n8_mono (Nat.gcd_le_left _ hD0)) hD8;have hmu := fun W => mul_any W D E (by omega) (by omega);have hgc := fun W => gcd_any W D E (by omega) (by omega);have hdi := fun W => div_any W (D * E) (Nat.gcd D E) (by omega) (by omega) hg0;obtain ⟨Q, hQ⟩ : ∃ Q, D * E / Nat.gcd D E = Q := ⟨_, rfl⟩;rw [hQ] at HNX hlc;simp only [hQ] at hdi;clear hQ;generalize D * E % Nat.gcd D E = R at hdi
    generalize D * E = M at *
    generalize Nat.gcd D E = G at *
    have HMU := zqh hmu;have HGC := zqh hgc;have HDI := zqh hdi;clear hmu hgc hdi;have l4 := r4.lt;have l5 := r5.lt;have s1 : W5.cell? ⟨X4, 0, none⟩ = some (.string (natB D)) := r4.cell (i := 0) (by omega);have s2 : W5.cell? ⟨X5, 0, none⟩ = some (.string (natB E)) := r5.cell (i := 0) (by omega)
    go_wp2_with fail
    have HS : Hid (∀ W, Below W5.heap.size W5 W → W.cell? ⟨X4, 0, none⟩ = some (.string (natB D)) ∧ W.cell? ⟨X5, 0, none⟩ = some (.string (natB E))) := zqh fun W hb => ⟨(hb.cell (p := ⟨X4, 0, none⟩) l4).trans s1, (hb.cell (p := ⟨X5, 0, none⟩) l5).trans s2⟩
    refine wp_region_props_late (n := _) (PX := [fun xl xv xw => xv = .agg #[.string (natB D)],
       fun xl xv xw => xv = .agg #[.string (natB E)],
       fun xl xv xw => xv = natV M,
       fun xl xv xw => xv = .agg #[.string (natB D)],
       fun xl xv xw => xv = .agg #[.string (natB E)],
       fun xl xv xw => xv = natV G,
       fun xl xv xw => xv = .tuple #[natV Q, natV R, .bool true],
       fun xl xv xw => xv = .tuple #[natV Q, natV R, .bool true],
       fun xl xv xw => xv = natV Q,
       fun xl xv xw => xv = natV R,
       fun xl xv xw => xv = .bool true,
       fun xl xv xw => ∃ X, xv = .pointer (some ⟨X, 0, none⟩) ∧ W5.heap.size ≤ X ∧ World.rowIs xw X 59 1 (arrF #[.string ⟨#[]⟩]),
       fun xl xv xw => ∃ X, xv = .pointer (some ⟨X, 0, none⟩) ∧ W5.heap.size ≤ X ∧ World.rowIs xw X 59 1 (arrF #[.string ⟨#[]⟩])])
      (AL := [11, 12]) (DP := [[], [], [0, 1], [], [], [3, 4], [2, 5], [6], [7], [7], [7], [], []]) (L1 := [0, 1, 2, 3, 4, 5, 6, 7, 8, 11, 12]) (ex := [9, 10]) (by kernel_rfl) rfl (by kernel_rfl) (by kernel_rfl) (fun _ _ _ _ _ h => h) ?_ ?_ ?_ ?_
    ·refine List.forall_mem_cons.2 ⟨?_, List.forall_mem_cons.2 ⟨?_, List.forall_mem_cons.2 ⟨?_, List.forall_mem_cons.2 ⟨?_, List.forall_mem_cons.2 ⟨?_, List.forall_mem_cons.2 ⟨?_, List.forall_mem_cons.2 ⟨?_, List.forall_mem_cons.2 ⟨?_, List.forall_mem_cons.2 ⟨?_, List.forall_mem_cons.2 ⟨?_, List.forall_mem_cons.2 ⟨?_, List.forall_mem_cons.2 ⟨?_, List.forall_mem_cons.2 ⟨?_, List.forall_mem_nil _⟩⟩⟩⟩⟩⟩⟩⟩⟩⟩⟩⟩⟩
     ·exact fun _ _ _ _ h _ => h
     ·exact fun _ _ _ _ h _ => h
     ·exact fun _ _ _ _ h _ => h
     ·exact fun _ _ _ _ h _ => h
     ·exact fun _ _ _ _ h _ => h
     ·exact fun _ _ _ _ h _ => h
     ·exact fun _ _ _ _ h _ => h
     ·exact fun _ _ _ _ h _ => h
     ·exact fun _ _ _ _ h _ => h
     ·exact fun _ _ _ _ h _ => h
     ·exact fun _ _ _ _ h _ => h
     ·exact fun l v w w2 h hb => by obtain ⟨X, h1, h2, h3⟩ := h; exact ⟨X, h1, h2, rowBelow h3 hb⟩
     ·exact fun l v w w2 h hb => by obtain ⟨X, h1, h2, h3⟩ := h; exact ⟨X, h1, h2, rowBelow h3 hb⟩
    ·refine List.forall_mem_cons.2 ⟨?_, List.forall_mem_cons.2 ⟨?_, List.forall_mem_cons.2 ⟨?_, List.forall_mem_cons.2 ⟨?_, List.forall_mem_cons.2 ⟨?_, List.forall_mem_cons.2 ⟨?_, List.forall_mem_cons.2 ⟨?_, List.forall_mem_cons.2 ⟨?_, List.forall_mem_cons.2 ⟨?_, List.forall_mem_cons.2 ⟨?_, List.forall_mem_cons.2 ⟨?_, List.forall_mem_nil _⟩⟩⟩⟩⟩⟩⟩⟩⟩⟩⟩
     ·refine StepOk.intro rfl [] (by kernel_rfl) ?_;intro vs W hW0 hd K hK;have hW : Below W5.heap.size W5 W := zqx (belowDrewN (zqr _ _) 1) hW0 (zqn _);clear hd
      try simp only [putsD, Act.put, zqa, zqb, zqc, zqd, zqe, zqf] at hK ⊢
      obtain ⟨m1, m2⟩ := HS.out W hW
      go_simp
      exact hK.out _ _ rfl (zqr _ _) (fun h => absurd h (by decide))
     ·refine StepOk.intro rfl [] (by kernel_rfl) ?_;intro vs W hW0 hd K hK;have hW : Below W5.heap.size W5 W := zqx (belowDrewN (zqr _ _) 1) hW0 (zqn _);clear hd
      try simp only [putsD, Act.put, zqa, zqb, zqc, zqd, zqe, zqf] at hK ⊢
      obtain ⟨m1, m2⟩ := HS.out W hW
      go_simp
      exact hK.out _ _ rfl (zqr _ _) (fun h => absurd h (by decide))
     ·refine StepOk.intro rfl [(0, some 37), (1, some 38)] (by kernel_rfl) ?_;intro vs W hW0 hd K hK;have hW : Below W5.heap.size W5 W := zqx (belowDrewN (zqr _ _) 1) hW0 (zqn _);have d0 : vs 0 = .agg #[.string (natB D)] := hd 0 (by decide);have d1 : vs 1 = .agg #[.string (natB E)] := hd 1 (by decide);clear hd
      try simp only [d0, d1, putsD, Act.put, zqa, zqb, zqc, zqd, zqe, zqf] at hK ⊢
      go_simp
      go_at_call 80
      (with_reducible first | refine (HMU.out _).mono ?_)
      rintro e w9 ⟨rfl, hb9⟩;exact hK.out _ _ (rfl) hb9 (fun h => absurd h (by decide))
     ·refine StepOk.intro rfl [] (by kernel_rfl) ?_;intro vs W hW0 hd K hK;have hW : Below W5.heap.size W5 W := zqx (belowDrewN (zqr _ _) 1) hW0 (zqn _);clear hd
      try simp only [putsD, Act.put, zqa, zqb, zqc, zqd, zqe, zqf] at hK ⊢
      obtain ⟨m1, m2⟩ := HS.out W hW
      go_simp
      exact hK.out _ _ rfl (zqr _ _) (fun h => absurd h (by decide))
     ·refine StepOk.intro rfl [] (by kernel_rfl) ?_;intro vs W hW0 hd K hK;have hW : Below W5.heap.size W5 W := zqx (belowDrewN (zqr _ _) 1) hW0 (zqn _);clear hd
      try simp only [putsD, Act.put, zqa, zqb, zqc, zqd, zqe, zqf] at hK ⊢
      obtain ⟨m1, m2⟩ := HS.out W hW
      go_simp
      exact hK.out _ _ rfl (zqr _ _) (fun h => absurd h (by decide))
     ·refine StepOk.intro rfl [(3, some 40), (4, some 41)] (by kernel_rfl) ?_;intro vs W hW0 hd K hK;have hW : Below W5.heap.size W5 W := zqx (belowDrewN (zqr _ _) 1) hW0 (zqn _);have d3 : vs 3 = .agg #[.string (natB D)] := hd 3 (by decide);have d4 : vs 4 = .agg #[.string (natB E)] := hd 4 (by decide);clear hd
      try simp only [d3, d4, putsD, Act.put, zqa, zqb, zqc, zqd, zqe, zqf] at hK ⊢
      go_simp
      go_at_call 81
      (with_reducible first | refine (HGC.out _).mono ?_)
      rintro e w9 ⟨rfl, hb9⟩;exact hK.out _ _ (rfl) hb9 (fun h => absurd h (by decide))
     ·refine StepOk.intro rfl [(2, some 39), (5, some 42)] (by kernel_rfl) ?_;intro vs W hW0 hd K hK;have hW : Below W5.heap.size W5 W := zqx (belowDrewN (zqr _ _) 1) hW0 (zqn _);have d2 : vs 2 = natV M := hd 2 (by decide);have d5 : vs 5 = natV G := hd 5 (by decide);clear hd
      try simp only [d2, d5, putsD, Act.put, zqa, zqb, zqc, zqd, zqe, zqf] at hK ⊢
      go_simp
      go_at_call 79
      (with_reducible first | refine (HDI.out _).mono ?_)
      rintro e w9 ⟨rfl, hb9⟩;exact hK.out _ _ (rfl) hb9 (fun h => absurd h (by decide))
     ·refine StepOk.intro rfl [(6, some 43)] (by kernel_rfl) ?_;intro vs W hW0 hd K hK;have hW : Below W5.heap.size W5 W := zqx (belowDrewN (zqr _ _) 1) hW0 (zqn _);have d6 : vs 6 = .tuple #[natV Q, natV R, .bool true] := hd 6 (by decide);clear hd
      try simp only [d6, putsD, Act.put, zqa, zqb, zqc, zqd, zqe, zqf] at hK ⊢
      go_simp
      exact hK.out _ _ rfl (zqr _ _) (fun h => absurd h (by decide))
     ·refine StepOk.intro rfl [(7, some 36)] (by kernel_rfl) ?_;intro vs W hW0 hd K hK;have hW : Below W5.heap.size W5 W := zqx (belowDrewN (zqr _ _) 1) hW0 (zqn _);have d7 : vs 7 = .tuple #[natV Q, natV R, .bool true] := hd 7 (by decide);clear hd
      try simp only [d7, putsD, Act.put, zqa, zqb, zqc, zqd, zqe, zqf] at hK ⊢
      go_simp
      exact hK.out _ _ rfl (zqr _ _) (fun h => absurd h (by decide))
     ·refine StepOk.intro rfl [] (by kernel_rfl) ?_;intro vs W hW0 hd K hK;have hW : Below W5.heap.size W5 W := zqx (belowDrewN (zqr _ _) 1) hW0 (zqn _);clear hd
      try simp only [putsD, Act.put, zqa, zqb, zqc, zqd, zqe, zqf] at hK ⊢
      go_simp
      exact hK.out _ _ ⟨W.heap.size, rfl, hW.size, arrNew _ _ _ _ _ rfl rfl⟩ ((zqr _ _).alloc (zqn _) _) (fun _ b hb => by simp [blkOf] at hb; subst hb; exact ⟨zqn _, by simp⟩)
     ·refine StepOk.intro rfl [] (by kernel_rfl) ?_;intro vs W hW0 hd K hK;have hW : Below W5.heap.size W5 W := zqx (belowDrewN (zqr _ _) 1) hW0 (zqn _);clear hd
      try simp only [putsD, Act.put, zqa, zqb, zqc, zqd, zqe, zqf] at hK ⊢
      go_simp
      exact hK.out _ _ ⟨W.heap.size, rfl, hW.size, arrNew _ _ _ _ _ rfl rfl⟩ ((zqr _ _).alloc (zqn _) _) (fun _ b hb => by simp [blkOf] at hb; subst hb; exact ⟨zqn _, by simp⟩)
    ·refine List.forall_mem_cons.2 ⟨?_, List.forall_mem_cons.2 ⟨?_, List.forall_mem_nil _⟩⟩
     ·refine YieldOk.intro rfl [(7, some 36)] (by kernel_rfl) (fun _ => natV R) rfl ?_;intro vs W hd;have d7 : vs 7 = .tuple #[natV Q, natV R, .bool true] := hd 7 (by decide);clear hd;refine ⟨rfl, fun w2 => ?_⟩
      try simp only [d7, putsD, Act.put, zqa, zqb, zqc, zqd, zqe, zqf]
      go_simp
     ·refine YieldOk.intro rfl [(7, some 36)] (by kernel_rfl) (fun _ => .bool true) rfl ?_;intro vs W hd;have d7 : vs 7 = .tuple #[natV Q, natV R, .bool true] := hd 7 (by decide);clear hd;refine ⟨rfl, fun w2 => ?_⟩
      try simp only [d7, putsD, Act.put, zqa, zqb, zqc, zqd, zqe, zqf]
      go_simp
    refine FinOk.intro [(0, some 37), (1, some 38), (2, some 39), (3, some 40), (4, some 41), (5, some 42), (6, some 43), (7, some 36), (8, some 44), (11, some 6), (12, some 7), (9, some 45), (10, some 46)] #[true, true, true, true, true, true, true, true, true, true, true, true, true, false, false, false] 3 (by kernel_rfl) (by kernel_rfl) (by kernel_rfl) ?_;intro vs Wf hW0 hd hbk hdis kf;have hW : Below W5.heap.size W5 Wf := zqx (belowDrewN (zqr _ _) 1) hW0 (zqn _);have d0 : vs 0 = .agg #[.string (natB D)] := hd 0 (by decide);have d1 : vs 1 = .agg #[.string (natB E)] := hd 1 (by decide);have d2 : vs 2 = natV M := hd 2 (by decide);have d3 : vs 3 = .agg #[.string (natB D)] := hd 3 (by decide);have d4 : vs 4 = .agg #[.string (natB E)] := hd 4 (by decide);have d5 : vs 5 = natV G := hd 5 (by decide);have d6 : vs 6 = .tuple #[natV Q, natV R, .bool true] := hd 6 (by decide);have d7 : vs 7 = .tuple #[natV Q, natV R, .bool true] := hd 7 (by decide);have d8 : vs 8 = natV Q := hd 8 (by decide);obtain ⟨X6, d11, b6, r6⟩ : ∃ X, vs 11 = .pointer (some ⟨X, 0, none⟩) ∧ W5.heap.size ≤ X ∧ World.rowIs Wf X 59 1 (arrF #[.string ⟨#[]⟩]) := hd 11 (by decide);obtain ⟨X7, d12, b7, r7⟩ : ∃ X, vs 12 = .pointer (some ⟨X, 0, none⟩) ∧ W5.heap.size ≤ X ∧ World.rowIs Wf X 59 1 (arrF #[.string ⟨#[]⟩]) := hd 12 (by decide);have d9 : vs 9 = natV R := hd 9 (by decide);have d10 : vs 10 = .bool true := hd 10 (by decide);have n6_7 : X6 ≠ X7 := fun h => hdis 11 (by decide) 12 (by decide) (by decide) rfl rfl X6 (by rw [d11]; rfl) (by rw [d12, h]; rfl);have n7_6 := Ne.symm n6_7;clear hd hbk hdis hW0
    try simp only [d0, d1, d2, d3, d4, d5, d6, d7, d8, d11, d12, d9, d10, putsD, Act.put, zqa, zqb, zqc, zqd, zqe, zqf]
    clear d0 d1 d2 d3 d4 d5 d6 d7 d8 d11 d12 d9 d10 vs;clear HS;have l6 := r6.lt;have y6_0 := r6.frozen 0;have k6_0 := r6.cell (i := 0) (by decide);have l7 := r7.lt;have y7_0 := r7.frozen 0;have k7_0 := r7.cell (i := 0) (by decide);refine wpAny_one1 13 (by kernel_rfl) rfl (fun K hK => ?_)
    go_simp
    refine hK.out _ _ ?_;clear hK K
    try simp only [putsD, Act.put, zqa, zqb, zqc, zqd, zqe, zqf]
    refine wpAny_one1 14 (by kernel_rfl) rfl (fun K hK => ?_)
    go_simp
    refine hK.out _ _ ?_;clear hK K
    try simp only [putsD, Act.put, zqa, zqb, zqc, zqd, zqe, zqf]
    refine wpAny_one1 15 (by kernel_rfl) rfl (fun K hK => ?_)
    go_simp
    refine hK.out _ _ ?_;clear hK K
    try simp only [putsD, Act.put, zqa, zqb, zqc, zqd, zqe, zqf]
    refine wpAny_end (by kernel_rfl) ?_ _;have R6 := (oneRow r6 (.string (natB Q))).setOther (a := ⟨X7, 0, none⟩) n6_7 (.string (natB R));have hb6 := (hW.setCell (p := ⟨X6, 0, none⟩) b6 (.string (natB Q))).setCell (p := ⟨X7, 0, none⟩) b7 (.string (natB R));obtain ⟨W6, hW6⟩ : ∃ W6, (Wf.setCell ⟨X6, 0, none⟩ (.string (natB Q))).setCell ⟨X7, 0, none⟩ (.string (natB R)) = W6 := ⟨_, rfl⟩;rw [hW6] at R6 hb6 ⊢;clear hW6 hW r6 r7 y6_0 y7_0 k6_0 k7_0 l6 l7
    ·have r6 := R6;clear R6;have l6 := r6.lt;have s1 : W6.cell? ⟨X6, 0, none⟩ = some (.string (natB Q)) := r6.cell (i := 0) (by omega);clear s2;have ho1 : ∀ W, Calls Tryz.prog 55 #[.int .u64 1] W fun e w' => e = .returned (natV 1) ∧ Below W.heap.size W w' := fun W => of_any W 1 (by decide);have hq8 := hlc.2;have hone : n8 1 ≤ 1 := (n8_le _ _).2 (by decide);have hnw := fun W => qnew_any W Q 1 (by omega) (by omega) (by decide);have hde : ((Q : Rat)).den = 1 := rfl;rw [qq_one, qn_of_nat, hde] at hnw;have HO1 := zqh ho1;have HNW := zqh hnw;clear ho1 hnw hde
     go_wp2_with fail
     have HS : Hid (∀ W, Below W6.heap.size W6 W → W.cell? ⟨X6, 0, none⟩ = some (.string (natB Q))) := zqh fun W hb => (hb.cell (p := ⟨X6, 0, none⟩) l6).trans s1
     refine wp_region_props_late (n := _) (PX := [fun xl xv xw => xv = .agg #[.string (natB Q)],
        fun xl xv xw => xv = natV 1,
        fun xl xv xw => xv = .tuple #[ratV Q 1, .bool true],
        fun xl xv xw => xv = .tuple #[ratV Q 1, .bool true],
        fun xl xv xw => xv = ratV Q 1,
        fun xl xv xw => xv = .bool true,
        fun xl xv xw => ∃ X, xv = .pointer (some ⟨X, 0, none⟩) ∧ W6.heap.size ≤ X ∧ World.rowIs xw X 74 2 (arrF #[.string ⟨#[]⟩, .string ⟨#[]⟩])])
       (AL := [6]) (DP := [[], [], [0, 1], [2], [3], [3], []]) (L1 := [0, 1, 2, 3, 4, 6]) (ex := [5]) (by kernel_rfl) rfl (by kernel_rfl) (by kernel_rfl) (fun _ _ _ _ _ h => h) ?_ ?_ ?_ ?_
     ·refine List.forall_mem_cons.2 ⟨?_, List.forall_mem_cons.2 ⟨?_, List.forall_mem_cons.2 ⟨?_, List.forall_mem_cons.2 ⟨?_, List.forall_mem_cons.2 ⟨?_, List.forall_mem_cons.2 ⟨?_, List.forall_mem_cons.2 ⟨?_, List.forall_mem_nil _⟩⟩⟩⟩⟩⟩⟩
      ·exact fun _ _ _ _ h _ => h
      ·exact fun _ _ _ _ h _ => h
      ·exact fun _ _ _ _ h _ => h
      ·exact fun _ _ _ _ h _ => h
      ·exact fun _ _ _ _ h _ => h
      ·exact fun _ _ _ _ h _ => h
      ·exact fun l v w w2 h hb => by obtain ⟨X, h1, h2, h3⟩ := h; exact ⟨X, h1, h2, rowBelow h3 hb⟩
     ·refine List.forall_mem_cons.2 ⟨?_, List.forall_mem_cons.2 ⟨?_, List.forall_mem_cons.2 ⟨?_, List.forall_mem_cons.2 ⟨?_, List.forall_mem_cons.2 ⟨?_, List.forall_mem_cons.2 ⟨?_, List.forall_mem_nil _⟩⟩⟩⟩⟩⟩
      ·refine StepOk.intro rfl [] (by kernel_rfl) ?_;intro vs W hW0 hd K hK;have hW : Below W6.heap.size W6 W := zqx (belowDrewN (zqr _ _) 1) hW0 (zqn _);clear hd
       try simp only [putsD, Act.put, zqa, zqb, zqc, zqd, zqe, zqf] at hK ⊢
       obtain m1 := HS.out W hW
       go_simp
       exact hK.out _ _ rfl (zqr _ _) (fun h => absurd h (by decide))
      ·refine StepOk.intro rfl [] (by kernel_rfl) ?_;intro vs W hW0 hd K hK;have hW : Below W6.heap.size W6 W := zqx (belowDrewN (zqr _ _) 1) hW0 (zqn _);clear hd
       try simp only [putsD, Act.put, zqa, zqb, zqc, zqd, zqe, zqf] at hK ⊢
       go_simp
       go_at_call 55
       (with_reducible first | refine (HO1.out _).mono ?_)
       rintro e w9 ⟨rfl, hb9⟩;exact hK.out _ _ (rfl) hb9 (fun h => absurd h (by decide))
      ·refine StepOk.intro rfl [(0, some 48), (1, some 49)] (by kernel_rfl) ?_;intro vs W hW0 hd K hK;have hW : Below W6.heap.size W6 W := zqx (belowDrewN (zqr _ _) 1) hW0 (zqn _);have d0 : vs 0 = .agg #[.string (natB Q)] := hd 0 (by decide);have d1 : vs 1 = natV 1 := hd 1 (by decide);clear hd
       try simp only [d0, d1, putsD, Act.put, zqa, zqb, zqc, zqd, zqe, zqf] at hK ⊢
       go_simp
       go_at_call 72
       (with_reducible first | refine (HNW.out _).mono ?_)
       rintro e w9 ⟨rfl, hb9⟩;exact hK.out _ _ (rfl) hb9 (fun h => absurd h (by decide))
      ·refine StepOk.intro rfl [(2, some 50)] (by kernel_rfl) ?_;intro vs W hW0 hd K hK;have hW : Below W6.heap.size W6 W := zqx (belowDrewN (zqr _ _) 1) hW0 (zqn _);have d2 : vs 2 = .tuple #[ratV Q 1, .bool true] := hd 2 (by decide);clear hd
       try simp only [d2, putsD, Act.put, zqa, zqb, zqc, zqd, zqe, zqf] at hK ⊢
       go_simp
       exact hK.out _ _ rfl (zqr _ _) (fun h => absurd h (by decide))
      ·refine StepOk.intro rfl [(3, some 47)] (by kernel_rfl) ?_;intro vs W hW0 hd K hK;have hW : Below W6.heap.size W6 W := zqx (belowDrewN (zqr _ _) 1) hW0 (zqn _);have d3 : vs 3 = .tuple #[ratV Q 1, .bool true] := hd 3 (by decide);clear hd
       try simp only [d3, putsD, Act.put, zqa, zqb, zqc, zqd, zqe, zqf] at hK ⊢
       go_simp
       exact hK.out _ _ rfl (zqr _ _) (fun h => absurd h (by decide))
      ·refine StepOk.intro rfl [] (by kernel_rfl) ?_;intro vs W hW0 hd K hK;have hW : Below W6.heap.size W6 W := zqx (belowDrewN (zqr _ _) 1) hW0 (zqn _);clear hd
       try simp only [putsD, Act.put, zqa, zqb, zqc, zqd, zqe, zqf] at hK ⊢
       go_simp
       exact hK.out _ _ ⟨W.heap.size, rfl, hW.size, arrNew _ _ _ _ _ rfl rfl⟩ ((zqr _ _).alloc (zqn _) _) (fun _ b hb => by simp [blkOf] at hb; subst hb; exact ⟨zqn _, by simp⟩)
     ·refine List.forall_mem_cons.2 ⟨?_, List.forall_mem_nil _⟩
      ·refine YieldOk.intro rfl [(3, some 47)] (by kernel_rfl) (fun _ => .bool true) rfl ?_;intro vs W hd;have d3 : vs 3 = .tuple #[ratV Q 1, .bool true] := hd 3 (by decide);clear hd;refine ⟨rfl, fun w2 => ?_⟩
       try simp only [d3, putsD, Act.put, zqa, zqb, zqc, zqd, zqe, zqf]
       go_simp
     refine FinOk.intro [(0, some 48), (1, some 49), (2, some 50), (3, some 47), (4, some 51), (6, some 9), (5, some 52)] #[true, true, true, true, true, true, true, false, false] 2 (by kernel_rfl) (by kernel_rfl) (by kernel_rfl) ?_;intro vs Wf hW0 hd hbk hdis kf;have hW : Below W6.heap.size W6 Wf := zqx (belowDrewN (zqr _ _) 1) hW0 (zqn _);have d0 : vs 0 = .agg #[.string (natB Q)] := hd 0 (by decide);have d1 : vs 1 = natV 1 := hd 1 (by decide);have d2 : vs 2 = .tuple #[ratV Q 1, .bool true] := hd 2 (by decide);have d3 : vs 3 = .tuple #[ratV Q 1, .bool true] := hd 3 (by decide);have d4 : vs 4 = ratV Q 1 := hd 4 (by decide);obtain ⟨X9, d6, b9, r9⟩ : ∃ X, vs 6 = .pointer (some ⟨X, 0, none⟩) ∧ W6.heap.size ≤ X ∧ World.rowIs Wf X 74 2 (arrF #[.string ⟨#[]⟩, .string ⟨#[]⟩]) := hd 6 (by decide);have d5 : vs 5 = .bool true := hd 5 (by decide);clear hd hbk hdis hW0
     try simp only [d0, d1, d2, d3, d4, d6, d5, putsD, Act.put, zqa, zqb, zqc, zqd, zqe, zqf]
     clear d0 d1 d2 d3 d4 d6 d5 vs;clear HS;have l9 := r9.lt;have y9_0 := r9.frozen 0;have k9_0 := r9.cell (i := 0) (by decide);have y9_1 := r9.frozen 1;have k9_1 := r9.cell (i := 1) (by decide);refine wpAny_one1 7 (by kernel_rfl) rfl (fun K hK => ?_)
     go_simp
     refine hK.out _ _ ?_;clear hK K
     try simp only [putsD, Act.put, zqa, zqb, zqc, zqd, zqe, zqf]
     refine wpAny_one1 8 (by kernel_rfl) rfl (fun K hK => ?_)
     go_simp
     refine hK.out _ _ ?_;clear hK K
     try simp only [putsD, Act.put, zqa, zqb, zqc, zqd, zqe, zqf]
     refine wpAny_end (by kernel_rfl) ?_ _;have R9 := pairRow r9 (.string (natB Q)) (.string (natB 1));have hb7 := (hW.setCell (p := ⟨X9, 0, none⟩) b9 (.string (natB Q))).setCell (p := ⟨X9, 1, none⟩) b9 (.string (natB 1));obtain ⟨W7, hW7⟩ : ∃ W7, (Wf.setCell ⟨X9, 0, none⟩ (.string (natB Q))).setCell ⟨X9, 1, none⟩ (.string (natB 1)) = W7 := ⟨_, rfl⟩;rw [hW7] at R9 hb7 ⊢;clear hW7 hW r9 y9_0 y9_1 k9_0 k9_1 l9
     ·have r9 := R9;clear R9;have d7 := ((d1.below hb5).below hb6).below hb7;have l9 := r9.lt;clear d1 r4 r5 r6 hb5 hb6 hb7 l4 l5 l6 s1 n4_5 n5_4 n6_7 n7_6 HMU HGC HDI HO1 HNW hg0 hg8 hD0 hE0 hD8 hE8 hone lg lh l0 l1;have hm1 := fun W => qmul_any W pn pd Q 1 (by have := HT1.out.1; simp only at this; omega) (by have := HT1.out.2; simp only at this; omega) (by omega) (by have : n8 1 ≤ 1 := (n8_le _ _).2 (by decide); omega);have hm2 := fun W => qmul_any W qn' qd' Q 1 (by have := HT2.out.1; simp only at this; omega) (by have := HT2.out.2; simp only at this; omega) (by omega) (by have : n8 1 ≤ 1 := (n8_le _ _).2 (by decide); omega);rw [qq_one] at hm1 hm2;have hx : wMul (pn, pd) Q = (qn (qq pn pd * (Q : Rat)), (qq pn pd * (Q : Rat)).den) := rfl;have hy : wMul (qn', qd') Q = (qn (qq qn' qd' * (Q : Rat)), (qq qn' qd' * (Q : Rat)).den) := rfl;rw [hx, hy] at HNX;clear hx hy
      generalize qn (qq pn pd * (Q : Rat)) = xn at *
      generalize (qq pn pd * (Q : Rat)).den = xd at *
      generalize qn (qq qn' qd' * (Q : Rat)) = yn at *
      generalize (qq qn' qd' * (Q : Rat)).den = yd at *
      have HM1 := zqh hm1;have HM2 := zqh hm2;clear hm1 hm2 HT1 HT2 hlc hq8
      have hS8 : ∀ W, Below W7.heap.size W7 W → W.cell? ⟨w.heap.size, 0, none⟩ = some (.slice (some ⟨gl, 0, none⟩) (n + 1) cgl) ∧ W.cell? ⟨w.heap.size, 1, none⟩ = some (.slice (some ⟨gh, 0, none⟩) (n + 1) cgh) ∧ W.cell? ⟨gl, v * 2, none⟩ = some (.string (natB pn)) ∧ W.cell? ⟨gl, v * 2 + 1, none⟩ = some (.string (natB pd)) ∧ W.cell? ⟨gh, v * 2, none⟩ = some (.string (natB qn')) ∧ W.cell? ⟨gh, v * 2 + 1, none⟩ = some (.string (natB qd')) ∧ W.cell? ⟨X9, 0, none⟩ = some (.string (natB Q)) ∧ W.cell? ⟨X9, 1, none⟩ = some (.string (natB 1)) := fun W hb => by
       have d := d7.below hb;have r := rowBelow r9 hb;have c1 := d.low.cells (by have := d.cl; omega) v (by omega);have c2 := d.high.cells (by have := d.ch; omega) v (by omega);rw [HPL.out] at c1;rw [HQL.out] at c2;exact ⟨d.wts.cell (i := 0) (by omega), d.wts.cell (i := 1) (by omega), c1.1, c1.2.1, c2.1, c2.2.1, r.cell (i := 0) (by omega), r.cell (i := 1) (by omega)⟩
      have HS8 := zqh hS8;clear hS8;have q6 : Below W7.heap.size W7 W7.drew := belowDrewN (zqr _ _) 1
      have hgh : gl ≠ gh := by have := d7.oh; omega
      have hhg : gh ≠ gl := Ne.symm hgh
      have ngl : gl ≠ w.heap.size := by have := d7.og; omega
      have ngh : gh ≠ w.heap.size := by have := d7.og; have := d7.oh; omega
      obtain ⟨m1, m2, m3, m4, m5, m6, m7, m8⟩ := HS8.out _ q6
      go_wp2_with fail
      refine wp_region_heldG (fun (w' : World) => w'.cell? ⟨w.heap.size, 0, none⟩ = some (.slice (some ⟨gl, 0, none⟩) (n + 1) cgl) ∧ w'.cell? ⟨w.heap.size, 1, none⟩ = some (.slice (some ⟨gh, 0, none⟩) (n + 1) cgh) ∧ w'.cell? ⟨gl, v * 2, none⟩ = some (.string (natB pn)) ∧ w'.cell? ⟨gl, v * 2 + 1, none⟩ = some (.string (natB pd)) ∧ w'.cell? ⟨gh, v * 2, none⟩ = some (.string (natB qn')) ∧ w'.cell? ⟨gh, v * 2 + 1, none⟩ = some (.string (natB qd')) ∧ w'.cell? ⟨X9, 0, none⟩ = some (.string (natB Q)) ∧ w'.cell? ⟨X9, 1, none⟩ = some (.string (natB 1))) (fun (w' : World) => w'.cell? ⟨w.heap.size, 1, none⟩ = some (.slice (some ⟨gh, 0, none⟩) (n + 1) cgh)) 21 (by kernel_rfl) ⟨⟨m1, m2, m3, m4, m5, m6, m7, m8⟩, m2⟩ (fun hS => ?_);refine wpAnyG_take (i := 0) (v := ?_) hS (by kernel_rfl) rfl (by kernel_rfl) (by kernel_rfl) (fun _ _ _ h => h) (Or.inl ⟨by rfl, ?_⟩) ?_;rotate_left
      ·(intro w hSw; go_simp; try with_reducible rfl)
      try simp only [Act.put, zqa, zqb, zqc, zqd, zqe, zqf]
      refine wpAnyG_take (i := 1) (v := ?_) hS (by kernel_rfl) rfl (by kernel_rfl) (by kernel_rfl) (fun _ _ _ h => h) (Or.inl ⟨by rfl, ?_⟩) ?_;rotate_left
      ·(intro w hSw; go_simp; try with_reducible rfl)
      try simp only [Act.put, zqa, zqb, zqc, zqd, zqe, zqf]
      refine wpAnyG_take (i := 2) (v := ?_) hS (by kernel_rfl) rfl (by kernel_rfl) (by kernel_rfl) (fun _ _ _ h => h) (Or.inl ⟨by rfl, ?_⟩) ?_;rotate_left
      ·(intro w hSw; go_simp; try with_reducible rfl)
      try simp only [Act.put, zqa, zqb, zqc, zqd, zqe, zqf]
      refine wpAnyG_take0 (i := 3) (v := ?_) hS (by kernel_rfl) rfl (by kernel_rfl) (by kernel_rfl) (fun _ _ _ h => h) (Or.inl ⟨by rfl, ?_⟩) ?_;rotate_left
      ·(intro w hSw; go_simp; try with_reducible rfl)
      try simp only [Act.put, zqa, zqb, zqc, zqd, zqe, zqf]
      refine wpAnyG_take0 (i := 4) (v := ?_) hS (by kernel_rfl) rfl (by kernel_rfl) (by kernel_rfl) (fun _ _ _ h => h) (Or.inl ⟨by rfl, ?_⟩) ?_;rotate_left
      ·(intro w hSw; go_simp; try with_reducible rfl)
      try simp only [Act.put, zqa, zqb, zqc, zqd, zqe, zqf]
      refine wpAnyG_take0 (i := 5) (v := ?_) hS (by kernel_rfl) rfl (by kernel_rfl) (by kernel_rfl) (fun _ _ _ h => h) (Or.inl ⟨by rfl, ?_⟩) ?_;rotate_left
      ·(intro w hSw; go_simp; try with_reducible rfl)
      try simp only [Act.put, zqa, zqb, zqc, zqd, zqe, zqf]
      refine wpAnyG_take (i := 6) (v := ?_) hS (by kernel_rfl) rfl (by kernel_rfl) (by kernel_rfl) (fun _ _ _ h => h) (Or.inl ⟨by rfl, ?_⟩) ?_;rotate_left
      ·(intro w hSw; go_simp; try with_reducible rfl)
      try simp only [Act.put, zqa, zqb, zqc, zqd, zqe, zqf]
      refine wpAnyG_take (i := 7) (v := ?_) hS (by kernel_rfl) rfl (by kernel_rfl) (by kernel_rfl) (fun _ _ _ h => h) (Or.inl ⟨by rfl, ?_⟩) ?_;rotate_left
      ·(intro w hSw; go_simp; try with_reducible rfl)
      try simp only [Act.put, zqa, zqb, zqc, zqd, zqe, zqf]
      refine wpAnyG_take (i := 8) (v := ?_) hS (by kernel_rfl) rfl (by kernel_rfl) (by kernel_rfl) (fun _ _ _ h => h) (Or.inl ⟨by rfl, ?_⟩) ?_;rotate_left
      ·(intro w hSw; go_simp; try with_reducible rfl)
      try simp only [Act.put, zqa, zqb, zqc, zqd, zqe, zqf]
      refine wpAnyG_take (i := 9) (v := ?_) hS (by kernel_rfl) rfl (by kernel_rfl) (by kernel_rfl) (fun _ _ _ h => h) (Or.inl ⟨by rfl, ?_⟩) ?_;rotate_left
      ·(intro w hSw; go_simp; try with_reducible rfl)
      try simp only [Act.put, zqa, zqb, zqc, zqd, zqe, zqf]
      refine wpAnyG_take (i := 10) (v := ?_) hS (by kernel_rfl) rfl (by kernel_rfl) (by kernel_rfl) (fun _ _ _ h => h) (Or.inl ⟨by rfl, ?_⟩) ?_;rotate_left
      ·(intro w hSw; go_simp; try with_reducible rfl)
      try simp only [Act.put, zqa, zqb, zqc, zqd, zqe, zqf]
      refine wpAnyG_take (i := 11) (v := ?_) hS (by kernel_rfl) rfl (by kernel_rfl) (by kernel_rfl) (fun _ _ _ h => h) (Or.inl ⟨by rfl, ?_⟩) ?_;rotate_left
      ·(intro w hSw; go_simp; try with_reducible rfl)
      try simp only [Act.put, zqa, zqb, zqc, zqd, zqe, zqf]
      refine wpAnyG_take (i := 13) (v := ?_) hS (by kernel_rfl) rfl (by kernel_rfl) (by kernel_rfl) (fun _ _ _ h => h) (Or.inl ⟨by rfl, ?_⟩) ?_;rotate_left
      ·(intro w hSw; go_simp; try with_reducible rfl)
      try simp only [Act.put, zqa, zqb, zqc, zqd, zqe, zqf]
      refine wpAnyG_take (i := 14) (v := ?_) hS (by kernel_rfl) rfl (by kernel_rfl) (by kernel_rfl) (fun _ _ _ h => h) (Or.inl ⟨by rfl, ?_⟩) ?_;rotate_left
      ·(intro w hSw; go_simp; try with_reducible rfl)
      try simp only [Act.put, zqa, zqb, zqc, zqd, zqe, zqf]
      refine wpAnyG_take (i := 15) (v := ?_) hS (by kernel_rfl) rfl (by kernel_rfl) (by kernel_rfl) (fun _ _ _ h => h) (Or.inl ⟨by rfl, ?_⟩) ?_;rotate_left
      ·(intro w hSw; go_simp; try with_reducible rfl)
      try simp only [Act.put, zqa, zqb, zqc, zqd, zqe, zqf]
      refine wpAnyG_take (i := 16) (v := ?_) hS (by kernel_rfl) rfl (by kernel_rfl) (by kernel_rfl) (fun _ _ _ h => h) (Or.inl ⟨by rfl, ?_⟩) ?_;rotate_left
      ·(intro w hSw; go_simp; try with_reducible rfl)
      try simp only [Act.put, zqa, zqb, zqc, zqd, zqe, zqf]
      refine wpAnyG_take (i := 17) (v := ?_) hS (by kernel_rfl) rfl (by kernel_rfl) (by kernel_rfl) (fun _ _ _ h => h) (Or.inl ⟨by rfl, ?_⟩) ?_;rotate_left
      ·(intro w hSw; go_simp; try with_reducible rfl)
      try simp only [Act.put, zqa, zqb, zqc, zqd, zqe, zqf]
      refine wpAnyG_take (i := 18) (v := ?_) hS (by kernel_rfl) rfl (by kernel_rfl) (by kernel_rfl) (fun _ _ _ h => h) (Or.inl ⟨by rfl, ?_⟩) ?_;rotate_left
      ·(intro w hSw; go_simp; try with_reducible rfl)
      try simp only [Act.put, zqa, zqb, zqc, zqd, zqe, zqf]
      refine wpAnyG_one 12 (by kernel_rfl) rfl (fun K hK => ?_)
      go_simp
      go_at_call 82
      (with_reducible refine (HM1.out _).mono ?_)
      rintro e w8 ⟨rfl, hb8⟩;replace q6 := zqx q6 hb8 q6.size;clear hb8;obtain ⟨m1, m2, m3, m4, m5, m6, m7, m8⟩ := HS8.out _ q6;refine hK.out _ _ ⟨fun _ => ⟨m1, m2, m3, m4, m5, m6, m7, m8⟩, m2⟩ ?_;replace hS : (fun (w' : World) => w'.cell? ⟨w.heap.size, 0, none⟩ = some (.slice (some ⟨gl, 0, none⟩) (n + 1) cgl) ∧ w'.cell? ⟨w.heap.size, 1, none⟩ = some (.slice (some ⟨gh, 0, none⟩) (n + 1) cgh) ∧ w'.cell? ⟨gl, v * 2, none⟩ = some (.string (natB pn)) ∧ w'.cell? ⟨gl, v * 2 + 1, none⟩ = some (.string (natB pd)) ∧ w'.cell? ⟨gh, v * 2, none⟩ = some (.string (natB qn')) ∧ w'.cell? ⟨gh, v * 2 + 1, none⟩ = some (.string (natB qd')) ∧ w'.cell? ⟨X9, 0, none⟩ = some (.string (natB Q)) ∧ w'.cell? ⟨X9, 1, none⟩ = some (.string (natB 1))) _ ∧ (fun (w' : World) => w'.cell? ⟨w.heap.size, 1, none⟩ = some (.slice (some ⟨gh, 0, none⟩) (n + 1) cgh)) _ := ⟨⟨m1, m2, m3, m4, m5, m6, m7, m8⟩, m2⟩;clear hK K
      try simp only [Act.put, zqa, zqb, zqc, zqd, zqe, zqf]
      refine wpAnyG_one 19 (by kernel_rfl) rfl (fun K hK => ?_)
      go_simp
      go_at_call 82
      (with_reducible refine (HM2.out _).mono ?_)
      rintro e w9 ⟨rfl, hb8⟩;replace q6 := zqx q6 hb8 q6.size;clear hb8;obtain ⟨m1, m2, m3, m4, m5, m6, m7, m8⟩ := HS8.out _ q6;have d9 := d7.below q6;have c1 := d9.low.cells (by have := d9.cl; omega) v (by omega);have c2 := d9.high.cells (by have := d9.ch; omega) v (by omega);obtain ⟨_, _, y1, y2⟩ := c1;obtain ⟨_, _, y3, y4⟩ := c2;refine hK.out _ _ ⟨fun _ => ⟨m1, m2, m3, m4, m5, m6, m7, m8⟩, m2⟩ ?_;replace hS : (fun (w' : World) => w'.cell? ⟨w.heap.size, 0, none⟩ = some (.slice (some ⟨gl, 0, none⟩) (n + 1) cgl) ∧ w'.cell? ⟨w.heap.size, 1, none⟩ = some (.slice (some ⟨gh, 0, none⟩) (n + 1) cgh) ∧ w'.cell? ⟨gl, v * 2, none⟩ = some (.string (natB pn)) ∧ w'.cell? ⟨gl, v * 2 + 1, none⟩ = some (.string (natB pd)) ∧ w'.cell? ⟨gh, v * 2, none⟩ = some (.string (natB qn')) ∧ w'.cell? ⟨gh, v * 2 + 1, none⟩ = some (.string (natB qd')) ∧ w'.cell? ⟨X9, 0, none⟩ = some (.string (natB Q)) ∧ w'.cell? ⟨X9, 1, none⟩ = some (.string (natB 1))) _ ∧ (fun (w' : World) => w'.cell? ⟨w.heap.size, 1, none⟩ = some (.slice (some ⟨gh, 0, none⟩) (n + 1) cgh)) _ := ⟨⟨m1, m2, m3, m4, m5, m6, m7, m8⟩, m2⟩;clear hK K
      try simp only [Act.put, zqa, zqb, zqc, zqd, zqe, zqf]
      refine wpAnyG_take (i := 20) (v := ?_) hS (by kernel_rfl) rfl (by kernel_rfl) (by kernel_rfl) (fun _ _ _ h => h) (Or.inl ⟨by rfl, ?_⟩) ?_;rotate_left
      ·(intro w hSw; go_simp; try with_reducible rfl)
      try simp only [Act.put, zqa, zqb, zqc, zqd, zqe, zqf]
      refine wpAnyG_one 21 (by kernel_rfl) rfl (fun K hK => ?_)
      go_simp
      refine hK.out _ _ ⟨fun h => absurd h (by decide +kernel), (World.cell?_setCell_far _ _ _ _ ngl).trans ((World.cell?_setCell_far _ _ _ _ ngl).trans (m2))⟩ ?_;clear hK K
      try simp only [Act.put, zqa, zqb, zqc, zqd, zqe, zqf]
      refine wpAnyG_one 22 (by kernel_rfl) rfl (fun K hK => ?_)
      go_simp
      refine hK.out _ _ ⟨fun h => absurd h (by decide +kernel), (World.cell?_setCell_far _ _ _ _ ngl).trans ((World.cell?_setCell_far _ _ _ _ ngl).trans (m2))⟩ ?_;clear hK K
      try simp only [Act.put, zqa, zqb, zqc, zqd, zqe, zqf]
      refine wpAnyG_one 23 (by kernel_rfl) rfl (fun K hK => ?_)
      go_simp
      refine hK.out _ _ ⟨fun h => absurd h (by decide +kernel), (World.cell?_setCell_far _ _ _ _ ngh).trans ((World.cell?_setCell_far _ _ _ _ ngh).trans ((World.cell?_setCell_far _ _ _ _ ngl).trans ((World.cell?_setCell_far _ _ _ _ ngl).trans (m2))))⟩ ?_;clear hK K
      try simp only [Act.put, zqa, zqb, zqc, zqd, zqe, zqf]
      refine wpAnyG_done (by kernel_rfl) ?_ _;have e1 := ((d9.low.set (xn, xd) v (by omega) HL1.out).setOther (a := ⟨gh, v * 2, none⟩) hgh (.string (natB yn))).setOther (a := ⟨gh, v * 2 + 1, none⟩) hgh (.string (natB yd));have e2 := ((d9.high.setOther (a := ⟨gl, v * 2, none⟩) hhg (.string (natB xn))).setOther (a := ⟨gl, v * 2 + 1, none⟩) hhg (.string (natB xd))).set (yn, yd) v (by omega) HL2.out;have og9 := d9.og;have oh9 := d9.oh
      have ngl1 : w.heap.size + 1 ≠ gl := by omega
      have ngh1 : w.heap.size + 1 ≠ gh := by omega
      have e3 := (((d9.wts.setOther (a := ⟨gl, v * 2, none⟩) (Ne.symm ngl) (.string (natB xn))).setOther (a := ⟨gl, v * 2 + 1, none⟩) (Ne.symm ngl) (.string (natB xd))).setOther (a := ⟨gh, v * 2, none⟩) (Ne.symm ngh) (.string (natB yn))).setOther (a := ⟨gh, v * 2 + 1, none⟩) (Ne.symm ngh) (.string (natB yd));have e4 := (((d9.res.setOther (a := ⟨gl, v * 2, none⟩) ngl1 (.string (natB xn))).setOther (a := ⟨gl, v * 2 + 1, none⟩) ngl1 (.string (natB xd))).setOther (a := ⟨gh, v * 2, none⟩) ngh1 (.string (natB yn))).setOther (a := ⟨gh, v * 2 + 1, none⟩) ngh1 (.string (natB yd));have e5 := (((d9.bl.setCell (p := ⟨gl, v * 2, none⟩) (by simp; omega) (.string (natB xn))).setCell (p := ⟨gl, v * 2 + 1, none⟩) (by simp; omega) (.string (natB xd))).setCell (p := ⟨gh, v * 2, none⟩) (by simp; omega) (.string (natB yn))).setCell (p := ⟨gh, v * 2 + 1, none⟩) (by simp; omega) (.string (natB yd));have ecl := d9.cl;have ech := d9.ch
      go_wp2_with fail
      refine ⟨⟨v + 1, by omega, by go_num, ?_⟩, by simp [intOf]; omega⟩;rw [HNX.out];exact ⟨e3, e4, e1, e2, og9, oh9, ecl, ech, e5⟩
end Go.Proofs.YtgnobohfnhpkdaaGreatDoor
end
section
open Go Go.RowKit Cs
namespace Cs
def WgOk (L : List Pr) : Prop := ∀ k, Lp (L.getD k (0, 0)) ∧ Tiny (L.getD k (0, 0))
theorem Tiny.s0 {p : Pr} (h : Tiny p) : S0 p := ⟨Nat.le_trans h.1 (by omega), Nat.le_trans h.2 (by omega)⟩
theorem WgOk.wtIn {n : Nat} {lo hi : List Pr} (h1 : WgOk lo) (h2 : WgOk hi) (hl : lo.length = n + 1) (hh : hi.length = n + 1) : WtIn n lo hi :=
 ⟨hl, hh, fun k => (h1 k).1, fun k => (h2 k).1, (h1 0).2.s0, (h2 0).2.s0, fun k => (h1 k).2.s0.sp, fun k => (h2 k).2.s0.sp⟩
theorem wMul_s0 {p : Pr} (hp : Tiny p) (a : Nat) (ha : n8 a ≤ 2000) : S0 (wMul p a) := by
 have e : qp p * ((a : Nat) : Rat) = qq (p.1 * a) (qd p.2 * qd 1) := by
  rw [qq_mul, qq_one]; rfl
 have h1 := n8_mul p.1 a;have h2 := n8_qdT _ hp.2
 have h3 : qd p.2 * qd 1 = qd p.2 := by show qd p.2 * 1 = qd p.2; omega
 unfold S0 wMul pq;rw [e, h3]
 constructor
 ·show n8 (qn _) ≤ _;exact Nat.le_trans (n8_mono (Go.Proofs.YtgnobohfnhpkdaaGreatDoor.qn_qq_le _ _)) (by have := hp.1; omega)
 ·show n8 (Rat.den _) ≤ _;exact Nat.le_trans (n8_mono (Go.Proofs.YtgnobohfnhpkdaaGreatDoor.den_qq_le _ _ (qd_pos _))) (by omega)
theorem wMul_lp (p : Pr) (a : Nat) : Lp (wMul p a) := Lp.pq (Rat.mul_nonneg (qp_nonneg p) (by exact_mod_cast Nat.zero_le a))
theorem wSt_in {n : Nat} {lo hi : List Pr} (h1 : WgOk lo) (h2 : WgOk hi) (hl : lo.length = n + 1) (hh : hi.length = n + 1) : WtIn n (wSt lo hi (n + 1)).1 (wSt lo hi (n + 1)).2 := by
 have g := wSt_get lo hi (n + 1) hl hh (n + 1) (zqn _);have hlc := fun i => (n8_lcm (h1 i).2 (h2 i).2).2
 have a1 : ∀ i, Lp ((wSt lo hi (n + 1)).1.getD i (0, 0)) ∧ S0 ((wSt lo hi (n + 1)).1.getD i (0, 0)) := fun i => by
  rw [(g i).1];split
  ·exact ⟨wMul_lp _ _, wMul_s0 (h1 i).2 _ (hlc i)⟩
  ·exact ⟨(h1 i).1, (h1 i).2.s0⟩
 have a2 : ∀ i, Lp ((wSt lo hi (n + 1)).2.getD i (0, 0)) ∧ S0 ((wSt lo hi (n + 1)).2.getD i (0, 0)) := fun i => by
  rw [(g i).2];split
  ·exact ⟨wMul_lp _ _, wMul_s0 (h2 i).2 _ (hlc i)⟩
  ·exact ⟨(h2 i).1, (h2 i).2.s0⟩
 obtain ⟨l1, l2⟩ := wSt_len lo hi (n + 1);exact ⟨by omega, by omega, fun k => (a1 k).1, fun k => (a2 k).1, (a1 0).2, (a2 0).2, fun k => (a1 k).2.sp, fun k => (a2 k).2.sp⟩
def wgR (N : Nt) (lo hi : List Pr) (bs : List Nat) : Tk :=
 if wchk N lo hi = 0 then tkR N N.n.toNat (wSt lo hi (N.n.toNat + 1)).1 (wSt lo hi (N.n.toNat + 1)).2 bs else Tk.no (wchk N lo hi)
end Cs
namespace Go.Proofs.YtgnobohfnhpkdaaGreatDoor
theorem total_bad (w : World) (N : Nt) (A : Option Addr) (c cl ch : Nat) (lo hi : List Pr) (Al Ah : Option Addr) (hlen : N.l.length ≤ 140737488355328) (hN : NtAt w w.heap.size A N.l)
  (hbad : vld N = false ∨ (vld N = true ∧ ¬ (lo.length : Int) = N.n + 1) ∨ (vld N = true ∧ (lo.length : Int) = N.n + 1 ∧ ¬ (hi.length : Int) = N.n + 1)) :
  Calls Tryz.prog 40 #[ntV N A c, wtsV Al Ah lo.length hi.length cl ch] w fun e w' => e = .returned (.tuple #[ratV 0 0, .int .i64 1]) ∧ Below w.heap.size w w' := by
 have hck := fun W hN => wcheck_bad W N A c cl ch lo hi Al Ah hlen hN hbad;have HCK := zqh hck;have hbl : Below w.heap.size w _ := (((zqr _ _).alloc (zqn _) (.cells #[.int .i64 N.n, .slice A N.l.length c] 24)).alloc (by simp) (.cells #[.slice Al lo.length cl, .slice Ah hi.length ch] 46)).alloc (by simp; omega) (.cells #[.string ⟨#[]⟩, .string ⟨#[]⟩] 74);have hres := ratZero ((w.alloc (.cells #[.int .i64 N.n, .slice A N.l.length c] 24)).alloc (.cells #[.slice Al lo.length cl, .slice Ah hi.length ch] 46)) 74 (w.heap.size + 1 + 1) (by simp);clear hck hbad
 generalize lo.length = ml at *
 generalize hi.length = mh at *
 have hz : natB 0 = ⟨#[]⟩ := natB_zero;have HZ := zqh hz;clear hz;obtain ⟨Nn, l⟩ := N
 go_enter Tryz.func40, Tryz.ntmps40
 go_wp2_with (
  go_at_call 74
  (with_reducible refine (HCK.out _ ((hN.below hbl).more hbl.size)).mono ?_)
  rintro e w5 ⟨rfl, hb5⟩;replace hres := rowBelow hres hb5;obtain ⟨c0, c1⟩ := ratCells hres;have f0 := hres.frozen 0;have f1 := hres.frozen 1
  replace hbl := zqx hbl hb5 hbl.size)
 have hs := ratSet hres 0 0;rw [HZ.out] at hs;exact ret_rat_slot rfl 0 0 rfl rfl hs rfl ⟨rfl, (hbl.setCell (by simp; omega) _).setCell (by simp; omega) _⟩
theorem weighted_no (w : World) (Nn : Int) (ln : Nat) (A : Option Addr) (c cl ch ml mh lb cb : Nat) (Al Ah Ab : Option Addr) (E : Int) (h0 : E ≠ 0)
  (htot : ∀ W, Below w.heap.size w W → Calls Tryz.prog 40 #[.agg #[.int .i64 Nn, .slice A ln c], wtsV Al Ah ml mh cl ch] W fun e w' => e = .returned (.tuple #[ratV 0 0, .int .i64 E]) ∧ Below W.heap.size W w') :
  Calls Tryz.prog 21 #[.agg #[.int .i64 Nn, .slice A ln c], wtsV Al Ah ml mh cl ch, .slice Ab lb cb] w fun e w' => e = .returned (tkV (Tk.no E)) ∧ Below w.heap.size w w' := by
 have HT := zqh htot;have q0 := (((Bag.zero w).new #[.int .i64 Nn, .slice A ln c] 24 w.heap.size 2 rfl rfl).new #[.slice Al ml cl, .slice Ah mh ch] 46 (w.heap.size + 1) 2 (by simp) rfl).new #[.int .u64 0, .int .u64 0] 30 (w.heap.size + 1 + 1) 2 (by simp) rfl;have hb0 : (E == 0) = false := beq_eq_false_iff_ne.2 h0
 have hb1 : (E != 0) = true := by simp [bne, hb0]
 clear htot h0
 go_enter Tryz.func21, Tryz.ntmps21
 go_wp2_with (
  go_at_call 40
  (with_reducible refine (HT.out _ q0.bl).mono ?_)
  rintro e w5 ⟨rfl, hb5⟩;have q1 := q0.below hb5;have s2 := (q1.rows (w.heap.size + 1 + 1, 30, 2, #[.int .u64 0, .int .u64 0]) (by simp)).lt;have m20 := q1.is (w.heap.size + 1 + 1) 2 30 #[.int .u64 0, .int .u64 0] (by simp) 0 (by decide) (.int .u64 0) rfl;have f20 := (q1.rows (w.heap.size + 1 + 1, 30, 2, #[.int .u64 0, .int .u64 0]) (by simp)).frozen 0;have m21 := q1.is (w.heap.size + 1 + 1) 2 30 #[.int .u64 0, .int .u64 0] (by simp) 1 (by decide) (.int .u64 0) rfl;have f21 := (q1.rows (w.heap.size + 1 + 1, 30, 2, #[.int .u64 0, .int .u64 0]) (by simp)).frozen 1;simp only at s2
  clear hb5)
 exact ret_take rfl (Tk.no E) rfl rfl rfl rfl ((pairRow (q1.rows (w.heap.size + 1 + 1, 30, 2, #[.int .u64 0, .int .u64 0]) (by simp)) _ _).alloc _) (no_lo _ _) (no_hi _ _) rfl ⟨rfl, ((q1.bl.setCell (by simp <;> omega) _).setCell (by simp <;> omega) _).alloc (by rw [size_setCell, size_setCell]; exact q1.bl.size) _⟩
theorem weighted_go (w : World) (n ln : Nat) (A : Option Addr) (c cl ch lb cb Sn Sd : Nat) (Al Ah Ab : Option Addr) (T : Tk) (P1 P2 : Nat → Value) (WH : World → Nat → Nat → Prop)
  (htot : ∀ W, Below w.heap.size w W → Calls Tryz.prog 40 #[.agg #[.int .i64 (n : Int), .slice A ln c], wtsV Al Ah (n + 1) (n + 1) cl ch] W fun e w' => e = .returned (.tuple #[ratV Sn Sd, .int .i64 0]) ∧ Below W.heap.size W w')
  (hwh : ∀ W, Below w.heap.size w W → Calls Tryz.prog 41 #[wtsV Al Ah (n + 1) (n + 1) cl ch] W fun e w' => ∃ gl gh cgl cgh, e = .returned (wtsV (some ⟨gl, 0, none⟩) (some ⟨gh, 0, none⟩) (n + 1) (n + 1) cgl cgh) ∧ n + 1 ≤ cgl ∧ n + 1 ≤ cgh ∧
    Rd w' w'.heap.size (some ⟨gl, 0, none⟩) ((n + 1) * 2) P1 ∧ Rd w' w'.heap.size (some ⟨gh, 0, none⟩) ((n + 1) * 2) P2 ∧ Below W.heap.size W w')
  (htk : ∀ W gl gh cgl cgh, Below w.heap.size w W → n + 1 ≤ cgl → n + 1 ≤ cgh → Rd W W.heap.size (some ⟨gl, 0, none⟩) ((n + 1) * 2) P1 → Rd W W.heap.size (some ⟨gh, 0, none⟩) ((n + 1) * 2) P2 →
    Calls Tryz.prog 28 #[.agg #[.int .i64 (n : Int), .slice A ln c], wtsV (some ⟨gl, 0, none⟩) (some ⟨gh, 0, none⟩) (n + 1) (n + 1) cgl cgh, .slice Ab lb cb] W fun e w' => e = .returned (tkV T) ∧ Below W.heap.size W w') :
  Calls Tryz.prog 21 #[.agg #[.int .i64 (n : Int), .slice A ln c], wtsV Al Ah (n + 1) (n + 1) cl ch, .slice Ab lb cb] w fun e w' => e = .returned (tkV T) ∧ Below w.heap.size w w' := by
 obtain ⟨Ra, Ru, Ro, Re⟩ := T;have HTV := zqh (show tkV ⟨Ra, Ru, Ro, Re⟩ = .tuple #[setV Ra, .int .i64 (Ru : Int), .bool Ro, .int .i64 Re] from rfl);rw [HTV.out] at htk;have HT := zqh htot;have HW := zqh hwh;have HK := zqh htk;have q0 := (((Bag.zero w).new #[.int .i64 (n : Int), .slice A ln c] 24 w.heap.size 2 rfl rfl).new #[.slice Al (n + 1) cl, .slice Ah (n + 1) ch] 46 (w.heap.size + 1) 2 (by simp) rfl).new #[.int .u64 0, .int .u64 0] 30 (w.heap.size + 1 + 1) 2 (by simp) rfl;clear htot hwh htk
 go_enter Tryz.func21, Tryz.ntmps21
 go_wp2_with (
  go_at_call 40
  (with_reducible refine (HT.out _ q0.bl).mono ?_)
  rintro e w5 ⟨rfl, hb5⟩;have q1 := q0.below hb5;have s0 := (q1.rows (w.heap.size, 24, 2, #[.int .i64 (n : Int), .slice A ln c]) (by simp)).lt;have m00 := q1.is (w.heap.size) 2 24 #[.int .i64 (n : Int), .slice A ln c] (by simp) 0 (by decide) (.int .i64 (n : Int)) rfl;have m01 := q1.is (w.heap.size) 2 24 #[.int .i64 (n : Int), .slice A ln c] (by simp) 1 (by decide) (.slice A ln c) rfl;simp only at s0;have s1 := (q1.rows (w.heap.size + 1, 46, 2, #[.slice Al (n + 1) cl, .slice Ah (n + 1) ch]) (by simp)).lt;have m10 := q1.is (w.heap.size + 1) 2 46 #[.slice Al (n + 1) cl, .slice Ah (n + 1) ch] (by simp) 0 (by decide) (.slice Al (n + 1) cl) rfl;have m11 := q1.is (w.heap.size + 1) 2 46 #[.slice Al (n + 1) cl, .slice Ah (n + 1) ch] (by simp) 1 (by decide) (.slice Ah (n + 1) ch) rfl;simp only at s1;have s2 := (q1.rows (w.heap.size + 1 + 1, 30, 2, #[.int .u64 0, .int .u64 0]) (by simp)).lt;have m20 := q1.is (w.heap.size + 1 + 1) 2 30 #[.int .u64 0, .int .u64 0] (by simp) 0 (by decide) (.int .u64 0) rfl;have f20 := (q1.rows (w.heap.size + 1 + 1, 30, 2, #[.int .u64 0, .int .u64 0]) (by simp)).frozen 0;have m21 := q1.is (w.heap.size + 1 + 1) 2 30 #[.int .u64 0, .int .u64 0] (by simp) 1 (by decide) (.int .u64 0) rfl;have f21 := (q1.rows (w.heap.size + 1 + 1, 30, 2, #[.int .u64 0, .int .u64 0]) (by simp)).frozen 1;simp only at s2
  clear hb5)
 have q2 := (q1.new #[.string (natB Sn), .string (natB Sd)] 74 _ 2 rfl rfl).drew;have s0 := (q2.rows (w.heap.size, 24, 2, #[.int .i64 (n : Int), .slice A ln c]) (by simp)).lt;have m00 := q2.is (w.heap.size) 2 24 #[.int .i64 (n : Int), .slice A ln c] (by simp) 0 (by decide) (.int .i64 (n : Int)) rfl;have m01 := q2.is (w.heap.size) 2 24 #[.int .i64 (n : Int), .slice A ln c] (by simp) 1 (by decide) (.slice A ln c) rfl;simp only at s0;have s1 := (q2.rows (w.heap.size + 1, 46, 2, #[.slice Al (n + 1) cl, .slice Ah (n + 1) ch]) (by simp)).lt;have m10 := q2.is (w.heap.size + 1) 2 46 #[.slice Al (n + 1) cl, .slice Ah (n + 1) ch] (by simp) 0 (by decide) (.slice Al (n + 1) cl) rfl;have m11 := q2.is (w.heap.size + 1) 2 46 #[.slice Al (n + 1) cl, .slice Ah (n + 1) ch] (by simp) 1 (by decide) (.slice Ah (n + 1) ch) rfl;simp only at s1;have s2 := (q2.rows (w.heap.size + 1 + 1, 30, 2, #[.int .u64 0, .int .u64 0]) (by simp)).lt;have m20 := q2.is (w.heap.size + 1 + 1) 2 30 #[.int .u64 0, .int .u64 0] (by simp) 0 (by decide) (.int .u64 0) rfl;have f20 := (q2.rows (w.heap.size + 1 + 1, 30, 2, #[.int .u64 0, .int .u64 0]) (by simp)).frozen 0;have m21 := q2.is (w.heap.size + 1 + 1) 2 30 #[.int .u64 0, .int .u64 0] (by simp) 1 (by decide) (.int .u64 0) rfl;have f21 := (q2.rows (w.heap.size + 1 + 1, 30, 2, #[.int .u64 0, .int .u64 0]) (by simp)).frozen 1;simp only at s2;have N1 : Hid (w.heap.size + 1 + 1 ≠ w.heap.size) := zqh (by omega);have N2 : Hid (w.heap.size + 1 + 1 ≠ w.heap.size + 1) := zqh (by omega)
 go_region_held3 (fun w' => w'.cell? ⟨w.heap.size, 0, none⟩ = some (.int .i64 (n : Int)) ∧ w'.cell? ⟨w.heap.size, 1, none⟩ = some (.slice A ln c) ∧ w'.cell? ⟨w.heap.size + 1, 0, none⟩ = some (.slice Al (n + 1) cl) ∧ w'.cell? ⟨w.heap.size + 1, 1, none⟩ = some (.slice Ah (n + 1) ch))
  (first | exact ⟨m00, m01, m10, m11⟩ | exact ⟨putFar N1.out m00, putFar N1.out m01, putFar N2.out m10, putFar N2.out m11⟩ | go_keep)
  (first
    | (go_simp
       go_at_call 41
       (with_reducible refine (HW.out _ q2.bl).mono ?_)
       rintro e w9 ⟨gl, gh, cgl, cgh, rfl, hcl, hch, hrl, hrh, hb9⟩;replace q2 := q2.below hb9;clear hb9;have s0 := (q2.rows (w.heap.size, 24, 2, #[.int .i64 (n : Int), .slice A ln c]) (by simp)).lt;have m00 := q2.is (w.heap.size) 2 24 #[.int .i64 (n : Int), .slice A ln c] (by simp) 0 (by decide) (.int .i64 (n : Int)) rfl;have m01 := q2.is (w.heap.size) 2 24 #[.int .i64 (n : Int), .slice A ln c] (by simp) 1 (by decide) (.slice A ln c) rfl;simp only at s0;have s1 := (q2.rows (w.heap.size + 1, 46, 2, #[.slice Al (n + 1) cl, .slice Ah (n + 1) ch]) (by simp)).lt;have m10 := q2.is (w.heap.size + 1) 2 46 #[.slice Al (n + 1) cl, .slice Ah (n + 1) ch] (by simp) 0 (by decide) (.slice Al (n + 1) cl) rfl;have m11 := q2.is (w.heap.size + 1) 2 46 #[.slice Al (n + 1) cl, .slice Ah (n + 1) ch] (by simp) 1 (by decide) (.slice Ah (n + 1) ch) rfl;simp only at s1;have s2 := (q2.rows (w.heap.size + 1 + 1, 30, 2, #[.int .u64 0, .int .u64 0]) (by simp)).lt;have m20 := q2.is (w.heap.size + 1 + 1) 2 30 #[.int .u64 0, .int .u64 0] (by simp) 0 (by decide) (.int .u64 0) rfl;have f20 := (q2.rows (w.heap.size + 1 + 1, 30, 2, #[.int .u64 0, .int .u64 0]) (by simp)).frozen 0;have m21 := q2.is (w.heap.size + 1 + 1) 2 30 #[.int .u64 0, .int .u64 0] (by simp) 1 (by decide) (.int .u64 0) rfl;have f21 := (q2.rows (w.heap.size + 1 + 1, 30, 2, #[.int .u64 0, .int .u64 0]) (by simp)).frozen 1
       simp only at s2)
    | (go_simp
       go_at_call 28
       (with_reducible refine (HK.out _ gl gh cgl cgh q2.bl hcl hch hrl hrh).mono ?_)
       rintro e w9 ⟨rfl, hb9⟩;replace q2 := q2.below hb9;clear hb9;have s0 := (q2.rows (w.heap.size, 24, 2, #[.int .i64 (n : Int), .slice A ln c]) (by simp)).lt;have m00 := q2.is (w.heap.size) 2 24 #[.int .i64 (n : Int), .slice A ln c] (by simp) 0 (by decide) (.int .i64 (n : Int)) rfl;have m01 := q2.is (w.heap.size) 2 24 #[.int .i64 (n : Int), .slice A ln c] (by simp) 1 (by decide) (.slice A ln c) rfl;simp only at s0;have s1 := (q2.rows (w.heap.size + 1, 46, 2, #[.slice Al (n + 1) cl, .slice Ah (n + 1) ch]) (by simp)).lt;have m10 := q2.is (w.heap.size + 1) 2 46 #[.slice Al (n + 1) cl, .slice Ah (n + 1) ch] (by simp) 0 (by decide) (.slice Al (n + 1) cl) rfl;have m11 := q2.is (w.heap.size + 1) 2 46 #[.slice Al (n + 1) cl, .slice Ah (n + 1) ch] (by simp) 1 (by decide) (.slice Ah (n + 1) ch) rfl;simp only at s1;have s2 := (q2.rows (w.heap.size + 1 + 1, 30, 2, #[.int .u64 0, .int .u64 0]) (by simp)).lt;have m20 := q2.is (w.heap.size + 1 + 1) 2 30 #[.int .u64 0, .int .u64 0] (by simp) 0 (by decide) (.int .u64 0) rfl;have f20 := (q2.rows (w.heap.size + 1 + 1, 30, 2, #[.int .u64 0, .int .u64 0]) (by simp)).frozen 0;have m21 := q2.is (w.heap.size + 1 + 1) 2 30 #[.int .u64 0, .int .u64 0] (by simp) 1 (by decide) (.int .u64 0) rfl;have f21 := (q2.rows (w.heap.size + 1 + 1, 30, 2, #[.int .u64 0, .int .u64 0]) (by simp)).frozen 1
       simp only at s2))
 all_goals
  try go_wp2
  exact ret_take rfl (⟨Ra, Ru, Ro, Re⟩) rfl rfl rfl rfl (pairRow (q2.rows (w.heap.size + 1 + 1, 30, 2, #[.int .u64 0, .int .u64 0]) (by simp)) _ _) rfl rfl rfl ⟨rfl, (q2.bl.setCell (by simp <;> omega) _).setCell (by simp <;> omega) _⟩
theorem weighted_any (w : World) (N : Nt) (A : Option Addr) (c cl ch lb cb : Nat) (lo hi : List Pr) (bs : List Nat) (Al Ah Ab : Option Addr) (hlen : N.l.length ≤ 140737488355328) (hN : NtAt w w.heap.size A N.l) (hT : Tab w)
  (hin : ∀ k (hk : k < N.l.length), N.l[k].ins.length ≤ 1000000) (hwl : WgOk lo) (hwh : WgOk hi) (hlo : Rd w w.heap.size Al (lo.length * 2) (prsF lo)) (hhi : Rd w w.heap.size Ah (hi.length * 2) (prsF hi)) (hc1 : lo.length ≤ cl) (hc2 : hi.length ≤ ch)
  (hl : bs.length = lb) (hl2 : lb ≤ 1000000) (hbs : Rd w w.heap.size Ab lb (byF bs)) (hb8 : ∀ i, bs.getD i 0 < 256) :
  Calls Tryz.prog 21 #[ntV N A c, wtsV Al Ah lo.length hi.length cl ch, .slice Ab lb cb] w fun e w' => e = .returned (tkV (wgR N lo hi bs)) ∧ Below w.heap.size w w' := by
 by_cases hok : vld N = true ∧ (lo.length : Int) = N.n + 1 ∧ (hi.length : Int) = N.n + 1
 ·obtain ⟨hv, e1, e2⟩ := hok;obtain ⟨hn0, hn1, hl0, hl1⟩ := vld_bounds hv;obtain ⟨Nn, l⟩ := N;obtain ⟨n, hn⟩ : ∃ n : Nat, Nn = (n : Int) := ⟨Nn.toNat, by simp only at hn0; omega⟩;subst hn;simp only at e1 e2 hn0 hn1 hl0 hl1 hlen hin
  have g1 : lo.length = n + 1 := by omega
  have g2 : hi.length = n + 1 := by omega
  have hW := hwl.wtIn hwh g1 g2;have hW2 := wSt_in hwl hwh g1 g2;rw [g1] at hlo hc1 ⊢;rw [g2] at hhi hc2 ⊢
  have hn2 : n ≤ 128 := by omega
  have ec : wchk ⟨(n : Int), l⟩ lo hi = wfit ⟨(n : Int), l⟩ n lo hi := by
   unfold wchk wfit;rw [if_pos ⟨hv, e1, e2⟩]
   rfl
  have ht := fun W (hb : Below w.heap.size w W) => total_fit W ⟨(n : Int), l⟩ A c cl ch n lo hi Al Ah ((hN.below hb).more hb.size) hv rfl (hT.below hb) hin hW ((hlo.below hb).more hb.size) ((hhi.below hb).more hb.size) hc1 hc2 _ _ rfl rfl;unfold wgR;rw [ec];by_cases h0 : wfit ⟨(n : Int), l⟩ n lo hi = 0
  ·rw [if_pos h0];rw [h0] at ht;obtain ⟨S, hS⟩ : ∃ S, (RP n lo hi).sum ⟨(n : Int), l⟩ = S := ⟨_, rfl⟩;simp only [if_true, hS] at ht;refine weighted_go w n l.length A c cl ch lb cb S.1 S.2 Al Ah Ab _ (prsF (wSt lo hi (n + 1)).1) (prsF (wSt lo hi (n + 1)).2) (fun _ _ _ => True) ht ?_ ?_
   ·intro W hb;exact whole_any W cl ch n lo hi Al Ah (by omega) g1 g2 (fun k => (hwl k).2) (fun k => (hwh k).2) ((hlo.below hb).more hb.size) ((hhi.below hb).more hb.size)
   ·intro W gl gh cgl cgh hb k1 k2 r1 r2;exact take_any W ⟨(n : Int), l⟩ A c cgl cgh n lb cb _ _ bs (some ⟨gl, 0, none⟩) (some ⟨gh, 0, none⟩) Ab ((hN.below hb).more hb.size) hv rfl hn2 (hT.below hb) hin hW2 r1 r2 k1 k2 hl hl2 ((hbs.below hb).more hb.size) hb8
  ·rw [if_neg h0];rw [if_neg h0] at ht;exact weighted_no w n l.length A c cl ch (n + 1) (n + 1) lb cb Al Ah Ab _ h0 ht
 ·have hbad : vld N = false ∨ (vld N = true ∧ ¬ (lo.length : Int) = N.n + 1) ∨ (vld N = true ∧ (lo.length : Int) = N.n + 1 ∧ ¬ (hi.length : Int) = N.n + 1) := by
   cases hv : vld N
   ·exact .inl rfl
   ·by_cases e1 : (lo.length : Int) = N.n + 1
    ·by_cases e2 : (hi.length : Int) = N.n + 1
     ·exact absurd ⟨hv, e1, e2⟩ hok
     ·exact .inr (.inr ⟨rfl, e1, e2⟩)
    ·exact .inr (.inl ⟨rfl, e1⟩)
  have ec : wchk N lo hi = 1 := by unfold wchk; rw [if_neg hok]
  unfold wgR;rw [ec, if_neg (by decide)];exact weighted_no w N.n N.l.length A c cl ch lo.length hi.length lb cb Al Ah Ab 1 (by decide) fun W hb => total_bad W N A c cl ch lo hi Al Ah hlen ((hN.below hb).more hb.size) hbad
end Go.Proofs.YtgnobohfnhpkdaaGreatDoor
end
