import Derived.Test.YtmhllppjcilllaaGreatDoorFa
import Derived.Test.YtmhllppjcilllaaGreatDoorRX
import Derived.BigGuardPart
set_option linter.unusedSimpArgs false
set_option linter.unusedVariables false
section
open Go Go.RowKit Cs
namespace Cs
open Go.Proofs.YtmhllppjcilllaaGreatDoor
def vk (s k : Nat) : List Int := ((List.range k).filter fun i => s.testBit i).map fun i : Nat => (i : Int) + 1
theorem vk_succ (s k : Nat) : vk s (k + 1) = if s.testBit k then vk s k ++ [(k : Int) + 1] else vk s k := by
 unfold vk;rw [List.range_succ, List.filter_append, List.map_append];split
 ·rename_i h; simp [h]
 ·rename_i h; simp [h]
theorem vk_vl (s : Nat) : vk s 128 = vl s := by
 rw [vl_eq];unfold vk vlist
 rw [List.map_map]; rfl
theorem vk_more {s n : Nat} (h : ∀ i, n ≤ i → s.testBit i = false) : ∀ d, vk s (n + d) = vk s n
 | 0 => rfl
 | d + 1 => by
   rw [← Nat.add_assoc, vk_succ, h (n + d) (by omega), if_neg (by decide), vk_more h d]
theorem vk_same {s t : Nat} : ∀ k, (∀ i, i < k → s.testBit i = t.testBit i) → vk s k = vk t k
 | 0, _ => rfl
 | k + 1, h => by rw [vk_succ, vk_succ, vk_same k (fun i hi => h i (by omega)), h k (by omega)]
theorem vl_next {s t n : Nat} (hn : n < 128) (h1 : ∀ i, n ≤ i → s.testBit i = false) (h2 : ∀ i, i < n → t.testBit i = s.testBit i) (h3 : t.testBit n = true) (h4 : ∀ i, n < i → t.testBit i = false) : vl t = vl s ++ [(n : Int) + 1] := by
 rw [← vk_vl, ← vk_vl];obtain ⟨d, hd⟩ : ∃ d, 128 = n + 1 + d := ⟨128 - (n + 1), by omega⟩;rw [hd, vk_more (n := n + 1) (fun i hi => h4 i (by omega)) d, vk_succ, h3, if_pos rfl, vk_same n h2, show n + 1 + d = n + (1 + d) by omega, vk_more h1 (1 + d)]
theorem litOk_more {l n : Int} (h : litOk l n = true) : litOk l (n + 1) = true := by
 unfold litOk at *; simp at *; omega
theorem formed_more {x : Nd} {n b : Int} (h : formed x n b = true) : formed x (n + 1) b = true := by
 unfold formed at *
 split
 ·rename_i h0; rw [if_pos h0] at h; exact h
 ·rename_i h0;rw [if_neg h0] at h;split
  ·rename_i h1; rw [if_pos h1] at h; exact h
  ·rename_i h1;rw [if_neg h1] at h;split
   ·rename_i h2;rw [if_pos h2, Bool.and_eq_true] at h
    rw [litOk_more h.1, h.2]; rfl
   ·rename_i h2; rw [if_neg h2] at h; exact h
theorem allFormed_more (n : Int) : ∀ (l : List Nd) (i : Nat), allFormed n i l = true → allFormed (n + 1) i l = true
 | [], _, _ => rfl
 | x :: xs, i, h => by
   unfold allFormed at *
   rw [Bool.and_eq_true] at *
   exact ⟨formed_more h.1, allFormed_more n xs (i + 1) h.2⟩
theorem vld_more {n : Int} {l : List Nd} (h : vld ⟨n, l⟩ = true) (hn : n ≤ 127) : vld ⟨n + 1, l⟩ = true := by
 unfold vld at *
 simp only [Bool.and_eq_true, decide_eq_true_eq] at *
 obtain ⟨⟨h1, h2, h3, h4⟩, h5⟩ := h;exact ⟨⟨by omega, by omega, h3, h4⟩, allFormed_more n l 0 h5⟩
theorem cchk_more {n : Int} {l : List Nd} (h : vld ⟨n, l⟩ = true) (hn : n ≤ 127) : cchk ⟨n + 1, l⟩ = cchk ⟨n, l⟩ := by
 unfold cchk;rw [vld_more h hn, h]
 rfl
section
variable {α : Type} {R : Rg α}
theorem sum_next {n : Nat} {l : List Nd} (hv : vld ⟨(n : Int), l⟩ = true) (hn : n < 128) : R.sum ⟨((n + 1 : Nat) : Int), l⟩ = R.mul (R.sum ⟨(n : Int), l⟩) (R.both ((n : Int) + 1)) := by
 obtain ⟨hn0, hn1, hl0, hl1⟩ := vld_bounds hv;have hsub := own_sub hv l.length (l.length - 1) (by simp only at hl0; omega) (by simp only at hl0 ⊢; omega);unfold Rg.sum Rg.gap;show R.wide ((R.all (own l) l).getD (l.length - 1) R.zero) (vl (minus (allTo ((n + 1 : Nat) : Int)) ((own l).getD (l.length - 1) 0))) = R.mul (R.wide ((R.all (own l) l).getD (l.length - 1) R.zero) (vl (minus (allTo (n : Int)) ((own l).getD (l.length - 1) 0)))) _;generalize (own l).getD (l.length - 1) 0 = o at hsub ⊢
 have ho : ∀ i, n ≤ i → o.testBit i = false := fun i hi => by
  cases hb : o.testBit i
  ·rfl
  ·have := hsub i hb;simp only at this;omega
 have e : vl (minus (allTo ((n + 1 : Nat) : Int)) o) = vl (minus (allTo (n : Int)) o) ++ [(n : Int) + 1] := by
  refine vl_next hn (fun i hi => ?_) (fun i hi => ?_) ?_ (fun i hi => ?_)
  ·rw [minus_bit, allTo_bit, decide_eq_false (by omega)]; rfl
  ·rw [minus_bit, minus_bit, allTo_bit, allTo_bit, decide_eq_true (by omega), decide_eq_true (by omega)]
  ·rw [minus_bit, allTo_bit, decide_eq_true (by omega), ho n (zqn _)]; rfl
  ·rw [minus_bit, allTo_bit, decide_eq_false (by omega)]; rfl
 rw [e];unfold Rg.wide;rw [List.foldl_append]
 rfl
theorem sum_agree (C : CR R) {N : Nt} (hv : vld N = true) (hd : dcmp N = true) (W V : Int → α) (n : Nat) (hn : N.n = (n : Int)) (h : ∀ v : Nat, 1 ≤ v → v ≤ n → W (v : Int) = V (v : Int) ∧ W (-(v : Int)) = V (-(v : Int))) : (R.wit W).sum N = (R.wit V).sum N := by
 rw [expand C hv hd W n hn, expand C hv hd V n hn];refine sumTo_congr _ _ _ fun s _ => ?_
 rw [term_like W V s n fun i hi => by
  have := h (i + 1) (by omega) (by omega);rw [Int.natCast_succ] at this;split
  ·exact this.1
  ·exact this.2]
end
def SmP (p : Pr) : Prop := Lp p ∧ p.1 ≤ 100 ∧ p.2 ≤ 100
theorem SmP.zero : SmP (0, 0) := ⟨Lp.zero, by decide, by decide⟩
theorem nd2_7 {x : Nat} (h : x ≤ 100) : nd 2 x ≤ 7 := Nat.le_trans (nd_mono 2 (by decide) h) (by decide +kernel)
theorem SmP.bits {p : Pr} (h : SmP p) : pbits p ≤ 14 := by
 unfold pbits;have a := nd2_7 h.2.1;have b : nd 2 (qd p.2) ≤ 7 := nd2_7 (by have := h.2.2; unfold qd; split <;> omega);omega
theorem SmP.s0 {p : Pr} (h : SmP p) : S0 p := ⟨Nat.le_trans (n8_64 (by have := h.2.1; omega)) (by decide), Nat.le_trans (n8_64 (by have := h.2.2; omega)) (by decide)⟩
theorem SmP.of {n d : Nat} (h1 : n ≤ 100) (h2 : d ≤ 100) : SmP (pq (qq n d)) := ⟨Lp.pq (qq_nonneg _ _), qq_parts n d 100 h1 h2 (by decide)⟩
theorem wt_in {n : Nat} {lo hi : List Pr} (hl : lo.length = n + 1) (hh : hi.length = n + 1) (h1 : ∀ k, SmP (lo.getD k (0, 0))) (h2 : ∀ k, SmP (hi.getD k (0, 0))) : WtIn n lo hi :=
 ⟨hl, hh, fun k => (h1 k).1, fun k => (h2 k).1, (h1 0).s0, (h2 0).s0, fun k => (h1 k).s0.sp, fun k => (h2 k).s0.sp⟩
theorem wt_bits {n : Nat} {lo hi : List Pr} (hn : n ≤ 128) (h1 : ∀ k, SmP (lo.getD k (0, 0))) (h2 : ∀ k, SmP (hi.getD k (0, 0))) : ¬ 16384 < sumB lo n + sumB hi n := by
 have e : ∀ (l : List Pr), (∀ k, SmP (l.getD k (0, 0))) → ∀ m, sumB l m ≤ 14 * m := fun l h m => by
  induction m with
  | zero => exact zqn _
  | succ m ih =>
    show sumB l m + _ ≤ _;have := (h (m + 1)).bits;omega
 have a := e lo h1 n;have b := e hi h2 n;omega
theorem getD_app1 (l : List Pr) (p : Pr) (k : Nat) : (l ++ [p]).getD k (0, 0) = if k = l.length then p else l.getD k (0, 0) := by
 rw [List.getD_eq_getElem?_getD, List.getD_eq_getElem?_getD, List.getElem?_append];split
 ·rename_i h;rw [if_neg (by omega)]
 ·rename_i h;by_cases he : k = l.length
  ·rw [if_pos he, he, Nat.sub_self]; rfl
  ·rw [if_neg he, List.getElem?_eq_none (by simp; omega), List.getElem?_eq_none (by omega)]
theorem SmP.app {l : List Pr} {p : Pr} (h : ∀ k, SmP (l.getD k (0, 0))) (hp : SmP p) (k : Nat) : SmP ((l ++ [p]).getD k (0, 0)) := by
 rw [getD_app1];split
 ·exact hp
 ·exact h k
theorem getD_set1 (l : List Pr) (p : Pr) (v k : Nat) (hv : v < l.length) : (l.set v p).getD k (0, 0) = if k = v then p else l.getD k (0, 0) := by
 rw [List.getD_eq_getElem?_getD, List.getD_eq_getElem?_getD, List.getElem?_set];by_cases h : v = k
 ·subst h; rw [if_pos rfl, if_pos hv, if_pos rfl]; rfl
 ·rw [if_neg h, if_neg (fun e => h e.symm)]
theorem SmP.set {l : List Pr} {p : Pr} {v : Nat} (hv : v < l.length) (h : ∀ k, SmP (l.getD k (0, 0))) (hp : SmP p) (k : Nat) : SmP ((l.set v p).getD k (0, 0)) := by
 rw [getD_set1 _ _ _ _ hv];split
 ·exact hp
 ·exact h k
theorem aw_sm (lw : Nat) (F : Nat → Nat) (n k : Nat) : SmP ((awL lw F n).getD k (0, 0)) ∧ SmP ((awH lw F n).getD k (0, 0)) := by
 unfold awL awH;rw [map_getD, map_getD];split
 ·exact ⟨⟨(aw_ok lw F k).1, by have := (awl_parts lw F k).1; omega, by have := (awl_parts lw F k).2; omega⟩, ⟨(aw_okh lw F k).1, by have := (awh_parts lw F k).1; omega, by have := (awh_parts lw F k).2; omega⟩⟩
 ·exact ⟨SmP.zero, SmP.zero⟩
theorem plit_pos {n : Nat} {lo hi : List Pr} {v : Nat} (h1 : 1 ≤ v) (h2 : v ≤ n) : plit n lo hi (v : Int) = hi.getD v (0, 0) := by
 unfold plit;rw [if_pos (by omega), if_neg (by omega), show ((v : Int)).natAbs = v by omega]
theorem plit_neg {n : Nat} {lo hi : List Pr} {v : Nat} (h1 : 1 ≤ v) (h2 : v ≤ n) : plit n lo hi (-(v : Int)) = lo.getD v (0, 0) := by
 unfold plit;rw [if_pos (by omega), if_pos (by omega), show (-(v : Int)).natAbs = v by omega]
theorem wide_sum {n : Nat} {l : List Nd} {lo hi : List Pr} {a b : Pr} (hv : vld ⟨(n : Int), l⟩ = true) (hd : dcmp ⟨(n : Int), l⟩ = true) (hn : n < 128) (ok : WtOk n lo hi) (ok2 : WtOk (n + 1) (lo ++ [a]) (hi ++ [b])) :
  qp ((RP (n + 1) (lo ++ [a]) (hi ++ [b])).sum ⟨((n + 1 : Nat) : Int), l⟩) = qp ((RP n lo hi).sum ⟨(n : Int), l⟩) * (qp a + qp b) := by
 rw [RP_sum ok2, RP_sum ok, sum_next hv hn]
 have e1 : (RW (Wq (n + 1) (lo ++ [a]) (hi ++ [b]))).sum ⟨(n : Int), l⟩ = (RW (Wq n lo hi)).sum ⟨(n : Int), l⟩ := by
  refine sum_agree CQ hv hd _ _ n rfl fun v h1 h2 => ?_;have hl := ok.ll;have hh := ok.lh
  constructor
  ·show qp (plit _ _ _ _) = qp (plit _ _ _ _);rw [plit_pos h1 (by omega), plit_pos h1 h2, getD_app1, if_neg (by omega)]
  ·show qp (plit _ _ _ _) = qp (plit _ _ _ _);rw [plit_neg h1 (by omega), plit_neg h1 h2, getD_app1, if_neg (by omega)]
 rw [e1]
 have e2 : (RW (Wq (n + 1) (lo ++ [a]) (hi ++ [b]))).both ((n : Int) + 1) = qp a + qp b := by
  have hl := ok.ll;have hh := ok.lh
  have f1 : Wq (n + 1) (lo ++ [a]) (hi ++ [b]) ((n : Int) + 1) = qp b := by
   have := plit_pos (n := n + 1) (lo := lo ++ [a]) (hi := hi ++ [b]) (v := n + 1) (by omega) (zqn _);rw [Int.natCast_succ] at this;show qp (plit _ _ _ _) = _;rw [this, getD_app1, if_pos (by omega)]
  have f2 : Wq (n + 1) (lo ++ [a]) (hi ++ [b]) (-((n : Int) + 1)) = qp a := by
   have := plit_neg (n := n + 1) (lo := lo ++ [a]) (hi := hi ++ [b]) (v := n + 1) (by omega) (zqn _);rw [Int.natCast_succ] at this;show qp (plit _ _ _ _) = _;rw [this, getD_app1, if_pos (by omega)]
  show _ + _ = _;rw [f1, f2];exact Rat.add_comm _ _
 rw [e2]
 rfl
theorem scale_sum {N : Nt} {n : Nat} {lo hi : List Pr} {v : Nat} {y : Rat} (hy : 0 ≤ y) (hv : vld N = true) (hd : dcmp N = true) (hn : N.n = (n : Int)) (h1 : 1 ≤ v) (h2 : v ≤ n) (ok : WtOk n lo hi)
  (ok2 : WtOk n (lo.set v (pq (qp (lo.getD v (0, 0)) * y))) (hi.set v (pq (qp (hi.getD v (0, 0)) * y)))) :
  qp ((RP n (lo.set v (pq (qp (lo.getD v (0, 0)) * y))) (hi.set v (pq (qp (hi.getD v (0, 0)) * y)))).sum N) = qp ((RP n lo hi).sum N) * y := by
 have hl := ok.ll;have hh := ok.lh;rw [RP_sum ok2, RP_sum ok]
 have key := sum_scale CQ hv hd (Wq n lo hi) (Wq n (lo.set v (pq (qp (lo.getD v (0, 0)) * y))) (hi.set v (pq (qp (hi.getD v (0, 0)) * y)))) (fun k => if k = v then y else 1) n hn fun k k1 k2 => by
  have g1 : Wq n (lo.set v (pq (qp (lo.getD v (0, 0)) * y))) (hi.set v (pq (qp (hi.getD v (0, 0)) * y))) (k : Int) = if k = v then qp (hi.getD v (0, 0)) * y else qp (hi.getD k (0, 0)) := by
   show qp (plit _ _ _ _) = _;rw [plit_pos k1 k2, getD_set1 _ _ _ _ (by omega)];split
   ·exact qp_pq (Rat.mul_nonneg (qp_nonneg _) hy)
   ·rfl
  have g2 : Wq n (lo.set v (pq (qp (lo.getD v (0, 0)) * y))) (hi.set v (pq (qp (hi.getD v (0, 0)) * y))) (-(k : Int)) = if k = v then qp (lo.getD v (0, 0)) * y else qp (lo.getD k (0, 0)) := by
   show qp (plit _ _ _ _) = _;rw [plit_neg k1 k2, getD_set1 _ _ _ _ (by omega)];split
   ·exact qp_pq (Rat.mul_nonneg (qp_nonneg _) hy)
   ·rfl
  have g3 : Wq n lo hi (k : Int) = qp (hi.getD k (0, 0)) := by
   show qp (plit _ _ _ _) = _;rw [plit_pos k1 k2]
  have g4 : Wq n lo hi (-(k : Int)) = qp (lo.getD k (0, 0)) := by
   show qp (plit _ _ _ _) = _;rw [plit_neg k1 k2]
  rw [g1, g2, g3, g4];by_cases he : k = v
  ·subst he;rw [if_pos rfl, if_pos rfl, if_pos rfl];exact ⟨Rat.mul_comm _ _, Rat.mul_comm _ _⟩
  ·rw [if_neg he, if_neg he, if_neg he];exact ⟨(Rat.one_mul _).symm, (Rat.one_mul _).symm⟩
 have hp : ∀ m, prodF RQ (fun k => if k = v then y else 1) m = if v ≤ m ∧ 1 ≤ v then y else 1 := fun m => by
  induction m with
  | zero => rw [if_neg (by omega)]; rfl
  | succ m ih =>
    show (prodF RQ (fun k => if k = v then y else 1) m : Rat) * (if m + 1 = v then y else 1) = _;rw [ih];by_cases e : m + 1 = v
    ·rw [if_pos e, if_neg (by omega), if_pos (by omega), Rat.one_mul]
    ·rw [if_neg e, Rat.mul_one];by_cases e2 : v ≤ m
     ·rw [if_pos (by omega), if_pos (by omega)]
     ·rw [if_neg (by omega), if_neg (by omega)]
 rw [hp n, if_pos ⟨h2, h1⟩] at key;exact key.trans (Rat.mul_comm _ _)
end Cs
end
section
open Go Go.RowKit Cs
namespace Go
theorem Kp.none {w W : World} (h : Below w.heap.size w W) : Kp w [] W := ⟨h, fun _ h => (nomatch h)⟩
end Go
namespace Go.Proofs.YtmhllppjcilllaaGreatDoor
theorem app_rats (W : World) (base : Nat) (hbase : base ≤ W.heap.size) (v1 : Value) (k : Nat) (xs : List Value) (h1 : W.ownsRow base 33 2 v1 k xs) (base2 : Nat) (v2 : Value) (m : Nat) (ys : List Value) (h2 : W.ownsRow base2 33 2 v2 m ys) (hone : ∀ u ∈ ys, u.oneCell' = true) (hk : k + m ≤ 100000) :
  ∃ v' W', (Builtin.append_ #[37, 37] 37 #[v1, v2]).run Tryz.prog W = .ok v' W' ∧ W'.ownsRow base 33 2 v' (k + m) (xs ++ ys) ∧ W.grownBy W' v1.ownBlock ∧ (v'.ownBlock = v1.ownBlock ∨ v'.ownBlock = some W.heap.size) := by
 obtain ⟨i0, hi0, hz0, hz1, hz2⟩ := info_parts info_rat;exact app_rows W base 37 37 33 i0 (.agg #[.string ⟨#[]⟩, .string ⟨#[]⟩]) 2 32 Tryz.underlying37 hi0 hz0 hz1 hz2 rfl (by decide) hbase v1 k xs h1 base2 v2 m ys h2 hone (by unfold maxLen; omega) (by omega)
theorem prs_more (L : List Pr) (p : Pr) (M : Nat) (hL : L.length = M) : (List.range ((M + 1) * 2)).map (prsF (L ++ [p])) = ([] ++ (List.range (M * 2)).map (prsF L)) ++ [.string (natB p.1), .string (natB p.2)] := by
 rw [prs_snoc, List.nil_append]
 have e : (L ++ [p]).getD M (0, 0) = p := by rw [getD_app1, if_pos hL.symm]
 rw [e]
 congr 1
 refine List.map_congr_left fun i hi => ?_;rw [List.mem_range] at hi
 have e2 : (L ++ [p]).getD (i / 2) (0, 0) = L.getD (i / 2) (0, 0) := by rw [getD_app1, if_neg (by omega)]
 unfold prsF;rw [e2]
structure QnS (N : Nt) (A : Option Addr) (c b4 b9 g1 c1 g2 c2 M : Nat) (L H : List Pr) (W : World) : Prop where
 e0 : W.cell? ⟨b4, 0, none⟩ = some (.int .i64 N.n)
 e1 : W.cell? ⟨b4, 1, none⟩ = some (.slice A N.l.length c)
 e2 : W.cell? ⟨b9, 0, none⟩ = some (.slice (some ⟨g1, 0, none⟩) M c1)
 e3 : W.cell? ⟨b9, 1, none⟩ = some (.slice (some ⟨g2, 0, none⟩) M c2)
 nt : NtAt W W.heap.size A N.l
 w1 : PrOwn W 33 g1 c1 M L
 w2 : PrOwn W 33 g2 c2 M H
 tb : Tab W
theorem QnS.cells {N : Nt} {A : Option Addr} {c b4 b9 g1 c1 g2 c2 M : Nat} {L H : List Pr} {W : World} (h : QnS N A c b4 b9 g1 c1 g2 c2 M L H W) : W.cell? ⟨b4, 0, none⟩ = some (.int .i64 N.n) ∧ W.cell? ⟨b4, 1, none⟩ = some (.slice A N.l.length c) ∧ W.cell? ⟨b9, 0, none⟩ = some (.slice (some ⟨g1, 0, none⟩) M c1) ∧ W.cell? ⟨b9, 1, none⟩ = some (.slice (some ⟨g2, 0, none⟩) M c2) := ⟨h.e0, h.e1, h.e2, h.e3⟩
theorem QnS.below {N : Nt} {A : Option Addr} {c b4 b9 g1 c1 g2 c2 M : Nat} {L H : List Pr} {W W' : World} (h : QnS N A c b4 b9 g1 c1 g2 c2 M L H W) (hb : Below W.heap.size W W') : QnS N A c b4 b9 g1 c1 g2 c2 M L H W' :=
 ⟨(hb.cell (p := ⟨b4, 0, none⟩) (World.block_lt_of_cell? _ _ h.e0)).trans h.e0, (hb.cell (p := ⟨b4, 1, none⟩) (World.block_lt_of_cell? _ _ h.e1)).trans h.e1, (hb.cell (p := ⟨b9, 0, none⟩) (World.block_lt_of_cell? _ _ h.e2)).trans h.e2, (hb.cell (p := ⟨b9, 1, none⟩) (World.block_lt_of_cell? _ _ h.e3)).trans h.e3,
   (h.nt.below hb).more hb.size, h.w1.below hb, h.w2.below hb, h.tb.below hb⟩
section
variable {W : World} {g1 g2 : Nat}
theorem four_bl {w : World} {B : Nat} (h : Below B w W) (h1 : B ≤ g1) (h2 : B ≤ g2) (i j k l : Nat) (x y z u : Value) : Below B w ((((W.setCell ⟨g1, i, none⟩ x).setCell ⟨g1, j, none⟩ y).setCell ⟨g2, k, none⟩ z).setCell ⟨g2, l, none⟩ u) :=
 (((h.setCell (p := ⟨g1, i, none⟩) h1 _).setCell (p := ⟨g1, j, none⟩) h1 _).setCell (p := ⟨g2, k, none⟩) h2 _).setCell (p := ⟨g2, l, none⟩) h2 _
theorem four_row {b n : Nat} {t : TypeId} {f : Nat → Value} (h : W.rowIs b t n f) (h1 : b ≠ g1) (h2 : b ≠ g2) (i j k l : Nat) (x y z u : Value) : ((((W.setCell ⟨g1, i, none⟩ x).setCell ⟨g1, j, none⟩ y).setCell ⟨g2, k, none⟩ z).setCell ⟨g2, l, none⟩ u).rowIs b t n f :=
 (((h.setOther (a := ⟨g1, i, none⟩) h1 _).setOther (a := ⟨g1, j, none⟩) h1 _).setOther (a := ⟨g2, k, none⟩) h2 _).setOther (a := ⟨g2, l, none⟩) h2 _
theorem four_cell {b o : Nat} {v : Value} (h : W.cell? ⟨b, o, none⟩ = some v) (h1 : g1 ≠ b) (h2 : g2 ≠ b) (i j k l : Nat) (x y z u : Value) : ((((W.setCell ⟨g1, i, none⟩ x).setCell ⟨g1, j, none⟩ y).setCell ⟨g2, k, none⟩ z).setCell ⟨g2, l, none⟩ u).cell? ⟨b, o, none⟩ = some v :=
 (World.cell?_setCell_far _ _ _ _ h2).trans ((World.cell?_setCell_far _ _ _ _ h2).trans ((World.cell?_setCell_far _ _ _ _ h1).trans ((World.cell?_setCell_far _ _ _ _ h1).trans h)))
end
end Go.Proofs.YtmhllppjcilllaaGreatDoor
end
