import Derived.Test.YtgnobohfnhpkdaaGreatDoorRM
import Derived.Test.YtgnobohfnhpkdaaGreatDoorRE
import Derived.Test.YtgnobohfnhpkdaaGreatDoorHp
set_option linter.unusedSimpArgs false
set_option linter.unusedVariables false
set_option maxRecDepth 100000
set_option maxHeartbeats 8000000
section
open Go Go.RowKit Cs
namespace Go.Proofs.YtgnobohfnhpkdaaGreatDoor
theorem la_tx {n : Nat} {la : List ByteArray} (h : okL la la.length) (hl : la.length = n + 1) : TxAt n la (prL la) := by
 have g : ∀ v, v ≤ n → ∃ q, rdO (la.getD v ⟨#[]⟩) = some q ∧ (la.getD v ⟨#[]⟩).size ≤ 9 ∧ (prL la).getD v (0, 0) = (qn q, q.den) ∧ qn q < 10 ^ 9 ∧ q.den < 10 ^ 9 ∧ qd q.den = q.den := fun v hv => by
  obtain ⟨⟨q, hq⟩, hs⟩ := h v (by omega);obtain ⟨h1, h2⟩ := okT_lt hq hs;exact ⟨q, hq, hs, by rw [prL_get la v (by omega)]; exact prT_of hq rfl, h1, h2, qd_of q.den_pos⟩
 refine ⟨hl, fun v _ h2 => ?_, fun v _ h2 => ?_, fun v _ h2 => ?_, fun v _ h2 => ?_⟩
 ·obtain ⟨q, hq, _, e, _, _, ed⟩ := g v h2
  rw [e]; simp only; rw [ed]; exact PT.read hq
 ·obtain ⟨q, _, hs, _⟩ := g v h2; omega
 ·obtain ⟨q, _, _, e, hq, _⟩ := g v h2
  rw [e]; exact Nat.le_trans (decN_le _ 9 hq (by decide)) (by decide)
 ·obtain ⟨q, _, _, e, _, hq, ed⟩ := g v h2
  rw [e]; simp only; rw [ed]; exact Nat.le_trans (decN_le _ 9 hq (by decide)) (by decide)
def Nine (L : List Pr) : Prop := ∀ k, (L.getD k (0, 0)).1 < 10 ^ 9 ∧ qd (L.getD k (0, 0)).2 < 10 ^ 9
theorem nine_pr {la : List ByteArray} (h : okL la la.length) : Nine (prL la) := fun k => by
 by_cases hk : k < la.length
 ·obtain ⟨⟨q, hq⟩, hs⟩ := h k hk;obtain ⟨h1, h2⟩ := okT_lt hq hs;rw [prL_get la k hk, prT_of hq rfl];simp only;rw [qd_of q.den_pos];exact ⟨h1, h2⟩
 ·have : (prL la).getD k (0, 0) = (0, 0) := by
   rw [List.getD_eq_getElem?_getD, List.getElem?_eq_none (by unfold prL; rw [List.length_map]; omega)]; rfl
  rw [this];exact ⟨by decide, by decide⟩
theorem fL_le (p q : Pr) : fL p q ≤ qd q.2 := Nat.div_le_self _ _
theorem fH_le (p q : Pr) : fH p q ≤ qd p.2 := Nat.div_le_self _ _
theorem wl_small {n : Nat} {lo hi : List Pr} (h1 : Nine lo) (h2 : Nine hi) (hl : lo.length = n + 1) (hh : hi.length = n + 1) (k : Nat) : ((wSt lo hi (n + 1)).1.getD k (0, 0)).1 < 10 ^ 18 ∧ ((wSt lo hi (n + 1)).2.getD k (0, 0)).1 < 10 ^ 18 := by
 obtain ⟨e1, e2⟩ := wSt_at hl hh k;have a1 := h1 k;have a2 := h2 k;have b1 := fL_le (lo.getD k (0, 0)) (hi.getD k (0, 0));have b2 := fH_le (lo.getD k (0, 0)) (hi.getD k (0, 0));rw [e1, e2, show (10 : Nat) ^ 18 = 10 ^ 9 * 10 ^ 9 by decide]
 constructor
 ·split
  ·exact Nat.mul_lt_mul'' a1.1 (Nat.lt_of_le_of_lt b1 a2.2)
  ·decide
 ·split
  ·exact Nat.mul_lt_mul'' a2.1 (Nat.lt_of_le_of_lt b2 a1.2)
  ·decide
theorem dec_map_get (X : List Nat) (v : Nat) (h : v < X.length) : (X.map dec).getD v ⟨#[]⟩ = dec (X.getD v 0) := by
 rw [List.getD_eq_getElem?_getD, List.getElem?_map, List.getElem?_eq_getElem h, List.getD_eq_getElem?_getD, List.getElem?_eq_getElem h]; rfl
theorem num_tx {n : Nat} {L : List Pr} (h : ∀ k, (L.getD k (0, 0)).1 < 10 ^ 18) (hw : Wh L) : TxAt n ((numL n L).map dec) L := by
 have e : ∀ v, 1 ≤ v → v ≤ n → ((numL n L).map dec).getD v ⟨#[]⟩ = dec (L.getD v (0, 0)).1 := fun v h1 h2 => by
  rw [dec_map_get _ _ (by rw [numL_len]; omega), numL_get, if_pos ⟨h1, h2⟩]
 have hd : ∀ v, qd (L.getD v (0, 0)).2 = 1 := fun v => by
  have := hw v
  unfold qd; split <;> omega
 have hk : ∀ v, decN (L.getD v (0, 0)).1 ≤ 18 := fun v => decN_le _ 18 (h v) (by decide);refine ⟨by rw [List.length_map, numL_len], fun v h1 h2 => ?_, fun v h1 h2 => ?_, fun v h1 h2 => ?_, fun v h1 h2 => ?_⟩
 ·rw [e v h1 h2, hd]; exact PT.dec _
 ·rw [e v h1 h2, dec_size]; have := hk v; omega
 ·have := hk v; omega
 ·rw [hd]; decide +kernel
theorem strF_dec (X : List Nat) (m i : Nat) (h : i < X.length) : decF X i = strF (X.map dec) i := by
 unfold decF strF;rw [dec_map_get X i h]
theorem rw_no (w : World) (N : Nt) (A Al Ah Ab : Option Addr) (c cl ch cb lb : Nat) (la lh : List ByteArray) (R : Int) (hlen : N.l.length ≤ 140737488355328) (hN : NtAt w w.heap.size A N.l)
  (h : (vld N = false ∧ R = 1) ∨ (vld N = true ∧ ¬ (la.length : Int) = N.n + 1 ∧ R = 1) ∨ (vld N = true ∧ (la.length : Int) = N.n + 1 ∧ ¬ (lh.length : Int) = N.n + 1 ∧ R = 1) ∨
    (vld N = true ∧ (la.length : Int) = N.n + 1 ∧ (lh.length : Int) = N.n + 1 ∧ cchk N ≠ 0 ∧ R = cchk N) ∨
    (vld N = true ∧ (la.length : Int) = N.n + 1 ∧ (lh.length : Int) = N.n + 1 ∧ cchk N = 0 ∧ R = 2 ∧ ∀ W, Below w.heap.size w W → Calls Tryz.prog 42 #[.slice Al la.length cl, .slice Ah lh.length ch] W fun e w' => e = .returned (.bool true) ∧ Below W.heap.size W w')) :
  Calls Tryz.prog 22 #[ntV N A c, .slice Al la.length cl, .slice Ah lh.length ch, .slice Ab lb cb] w fun e w' => e = .returned (tkV (Tk.no R)) ∧ Below w.heap.size w w' := by
 have hck := fun W hN => rcheck_any W N A c hlen hN
 have hc1 : vld N = true → cchk N ≠ 1 := fun hv => by
  unfold cchk;rw [hv];simp;split
  ·split <;> decide
  ·decide
 have hc2 : vld N = false → cchk N = 1 := fun hv => by unfold cchk; rw [hv]; rfl
 obtain ⟨E, hE⟩ : ∃ E, cchk N = E := ⟨_, rfl⟩;rw [hE] at hck hc1 hc2 h;have HCK := zqh hck;clear hck hE;obtain ⟨Nn, l⟩ := N;simp only at h hN;have q0 := ((Bag.zero w).new #[.int .i64 Nn, .slice A l.length c] 24 w.heap.size 2 rfl rfl).new #[.int .u64 0, .int .u64 0] 30 (w.heap.size + 1) 2 (by simp) rfl;have HNT := zqh (fun W (hb : Below w.heap.size w W) => (hN.below hb).more hb.size);clear hN;have hfin : ∀ {W : World} {q : Bag w w w.heap.size [(w.heap.size + 1, 30, 2, #[.int .u64 0, .int .u64 0]), (w.heap.size, 24, 2, #[.int .i64 Nn, .slice A l.length c])] W}, True := fun {_ _} => trivial;clear hfin;rcases h with ⟨h1, rfl⟩ | ⟨h1, h2, rfl⟩ | ⟨h1, h2, h3, rfl⟩ | ⟨h1, h2, h3, h4, rfl⟩ | ⟨h1, h2, h3, h4, rfl, hhv⟩
 ·have hE := hc2 h1;subst hE;clear hc1 hc2 h1
  go_enter Tryz.func22, Tryz.ntmps22
  go_wp2_with fail
  refine (HCK.out _ (HNT.out _ q0.bl)).mono ?_;rintro e w1 ⟨rfl, hb1⟩;have q1 := q0.below hb1;have m1 := q1.is w.heap.size 2 24 #[.int .i64 Nn, .slice A l.length c] (by simp) 0 (by decide) (.int .i64 Nn) rfl;have m2 := q1.is w.heap.size 2 24 #[.int .i64 Nn, .slice A l.length c] (by simp) 1 (by decide) (.slice A l.length c) rfl;have m3 := q1.is0 0 (by decide) (.int .u64 0) rfl;have m4 := q1.is0 1 (by decide) (.int .u64 0) rfl;have f3 := q1.row0.frozen 0;have f4 := q1.row0.frozen 1;clear hb1
  go_wp2_with fail
  exact ret_take rfl (Tk.no 1) rfl rfl rfl rfl (pairRow (q1.rows (w.heap.size + 1, 30, 2, #[.int .u64 0, .int .u64 0]) (by simp)) _ _) (no_lo _ _) (no_hi _ _) rfl ⟨rfl, (q1.bl.setCell (by simp <;> omega) _).setCell (by simp <;> omega) _⟩
 ·have b1 : (E == 1) = false := beq_eq_false_iff_ne.2 (hc1 h1)
  generalize la.length = ml at *
  generalize lh.length = mh at *
  have b2 : ((ml : Int) == Nn + 1) = false := beq_eq_false_iff_ne.2 h2
  have b3 : ((ml : Int) != Nn + 1) = true := by simp [bne, b2]
  obtain ⟨hn0, hn1, _, _⟩ := vld_bounds h1;simp only at hn0 hn1;clear hc1 hc2 h1 h2
  go_enter Tryz.func22, Tryz.ntmps22
  go_wp2_with fail
  refine (HCK.out _ (HNT.out _ q0.bl)).mono ?_;rintro e w1 ⟨rfl, hb1⟩;have q1 := q0.below hb1;have m1 := q1.is w.heap.size 2 24 #[.int .i64 Nn, .slice A l.length c] (by simp) 0 (by decide) (.int .i64 Nn) rfl;have m2 := q1.is w.heap.size 2 24 #[.int .i64 Nn, .slice A l.length c] (by simp) 1 (by decide) (.slice A l.length c) rfl;have m3 := q1.is0 0 (by decide) (.int .u64 0) rfl;have m4 := q1.is0 1 (by decide) (.int .u64 0) rfl;have f3 := q1.row0.frozen 0;have f4 := q1.row0.frozen 1;clear hb1
  go_wp2_with fail
  exact ret_take rfl (Tk.no 1) rfl rfl rfl rfl (pairRow (q1.rows (w.heap.size + 1, 30, 2, #[.int .u64 0, .int .u64 0]) (by simp)) _ _) (no_lo _ _) (no_hi _ _) rfl ⟨rfl, (q1.bl.setCell (by simp <;> omega) _).setCell (by simp <;> omega) _⟩
 ·have b1 : (E == 1) = false := beq_eq_false_iff_ne.2 (hc1 h1)
  generalize la.length = ml at *
  generalize lh.length = mh at *
  have b2 : ((ml : Int) == Nn + 1) = true := beq_iff_eq.2 h2
  have b3 : ((ml : Int) != Nn + 1) = false := by simp [bne, b2]
  have b4 : ((mh : Int) == Nn + 1) = false := beq_eq_false_iff_ne.2 h3
  have b5 : ((mh : Int) != Nn + 1) = true := by simp [bne, b4]
  obtain ⟨hn0, hn1, _, _⟩ := vld_bounds h1;simp only at hn0 hn1;clear hc1 hc2 h1 h2 h3
  go_enter Tryz.func22, Tryz.ntmps22
  go_wp2_with fail
  refine (HCK.out _ (HNT.out _ q0.bl)).mono ?_;rintro e w1 ⟨rfl, hb1⟩;have q1 := q0.below hb1;have m1 := q1.is w.heap.size 2 24 #[.int .i64 Nn, .slice A l.length c] (by simp) 0 (by decide) (.int .i64 Nn) rfl;have m2 := q1.is w.heap.size 2 24 #[.int .i64 Nn, .slice A l.length c] (by simp) 1 (by decide) (.slice A l.length c) rfl;have m3 := q1.is0 0 (by decide) (.int .u64 0) rfl;have m4 := q1.is0 1 (by decide) (.int .u64 0) rfl;have f3 := q1.row0.frozen 0;have f4 := q1.row0.frozen 1;clear hb1
  go_wp2_with fail
  exact ret_take rfl (Tk.no 1) rfl rfl rfl rfl (pairRow (q1.rows (w.heap.size + 1, 30, 2, #[.int .u64 0, .int .u64 0]) (by simp)) _ _) (no_lo _ _) (no_hi _ _) rfl ⟨rfl, (q1.bl.setCell (by simp <;> omega) _).setCell (by simp <;> omega) _⟩
 ·have b1 : (R == 1) = false := beq_eq_false_iff_ne.2 (hc1 h1)
  generalize la.length = ml at *
  generalize lh.length = mh at *
  have b2 : ((ml : Int) == Nn + 1) = true := beq_iff_eq.2 h2
  have b3 : ((ml : Int) != Nn + 1) = false := by simp [bne, b2]
  have b4 : ((mh : Int) == Nn + 1) = true := beq_iff_eq.2 h3
  have b5 : ((mh : Int) != Nn + 1) = false := by simp [bne, b4]
  have b6 : (R == 0) = false := beq_eq_false_iff_ne.2 h4
  have b7 : (R != 0) = true := by simp [bne, b6]
  obtain ⟨hn0, hn1, _, _⟩ := vld_bounds h1;simp only at hn0 hn1;clear hc1 hc2 h1 h2 h3 h4
  go_enter Tryz.func22, Tryz.ntmps22
  go_wp2_with fail
  refine (HCK.out _ (HNT.out _ q0.bl)).mono ?_;rintro e w1 ⟨rfl, hb1⟩;have q1 := q0.below hb1;have m1 := q1.is w.heap.size 2 24 #[.int .i64 Nn, .slice A l.length c] (by simp) 0 (by decide) (.int .i64 Nn) rfl;have m2 := q1.is w.heap.size 2 24 #[.int .i64 Nn, .slice A l.length c] (by simp) 1 (by decide) (.slice A l.length c) rfl;have m3 := q1.is0 0 (by decide) (.int .u64 0) rfl;have m4 := q1.is0 1 (by decide) (.int .u64 0) rfl;have f3 := q1.row0.frozen 0;have f4 := q1.row0.frozen 1;clear hb1
  go_wp2_with fail
  exact ret_take rfl (Tk.no R) rfl rfl rfl rfl (pairRow (q1.rows (w.heap.size + 1, 30, 2, #[.int .u64 0, .int .u64 0]) (by simp)) _ _) (no_lo _ _) (no_hi _ _) rfl ⟨rfl, (q1.bl.setCell (by simp <;> omega) _).setCell (by simp <;> omega) _⟩
 ·subst h4
  generalize la.length = ml at *
  generalize lh.length = mh at *
  have b2 : ((ml : Int) == Nn + 1) = true := beq_iff_eq.2 h2
  have b3 : ((ml : Int) != Nn + 1) = false := by simp [bne, b2]
  have b4 : ((mh : Int) == Nn + 1) = true := beq_iff_eq.2 h3
  have b5 : ((mh : Int) != Nn + 1) = false := by simp [bne, b4]
  have HHV := zqh hhv;obtain ⟨hn0, hn1, _, _⟩ := vld_bounds h1;simp only at hn0 hn1;clear hc1 hc2 h1 h2 h3 hhv
  go_enter Tryz.func22, Tryz.ntmps22
  go_wp2_with fail
  refine (HCK.out _ (HNT.out _ q0.bl)).mono ?_;rintro e w1 ⟨rfl, hb1⟩;have q1 := q0.below hb1;have m1 := q1.is w.heap.size 2 24 #[.int .i64 Nn, .slice A l.length c] (by simp) 0 (by decide) (.int .i64 Nn) rfl;have m2 := q1.is w.heap.size 2 24 #[.int .i64 Nn, .slice A l.length c] (by simp) 1 (by decide) (.slice A l.length c) rfl;have m3 := q1.is0 0 (by decide) (.int .u64 0) rfl;have m4 := q1.is0 1 (by decide) (.int .u64 0) rfl;have f3 := q1.row0.frozen 0;have f4 := q1.row0.frozen 1;clear hb1
  go_wp2_with fail
  refine (HHV.out _ q1.bl).mono ?_;rintro e w2 ⟨rfl, hb2⟩;have q2 := q1.below hb2;clear m1 m2 m3 m4 f3 f4 hb2;have m1 := q2.is w.heap.size 2 24 #[.int .i64 Nn, .slice A l.length c] (by simp) 0 (by decide) (.int .i64 Nn) rfl;have m2 := q2.is w.heap.size 2 24 #[.int .i64 Nn, .slice A l.length c] (by simp) 1 (by decide) (.slice A l.length c) rfl;have m3 := q2.is0 0 (by decide) (.int .u64 0) rfl;have m4 := q2.is0 1 (by decide) (.int .u64 0) rfl;have f3 := q2.row0.frozen 0;have f4 := q2.row0.frozen 1
  go_wp2_with fail
  exact ret_take rfl (Tk.no 2) rfl rfl rfl rfl (pairRow (q2.rows (w.heap.size + 1, 30, 2, #[.int .u64 0, .int .u64 0]) (by simp)) _ _) (no_lo _ _) (no_hi _ _) rfl ⟨rfl, (q2.bl.setCell (by simp <;> omega) _).setCell (by simp <;> omega) _⟩
end Go.Proofs.YtgnobohfnhpkdaaGreatDoor
end
section
open Go Go.RowKit Cs
namespace Go.Proofs.YtgnobohfnhpkdaaGreatDoor
structure OwnS (W8 : World) (t : TypeId) (v : Value) (m : Nat) (X : List Nat) (wr : World) : Prop where
 own : wr.ownsRow W8.heap.size t 1 v m ((List.range m).map (decF X))
 bl : Below W8.heap.size W8 wr
section
variable {W8 wr w' : World} {t : TypeId} {v : Value} {m : Nat} {X : List Nat}
theorem OwnS.below (h : OwnS W8 t v m X wr) (hb : Below wr.heap.size wr w') : OwnS W8 t v m X w' := ⟨ownsBelow h.own hb, zqx h.bl hb h.bl.size⟩
theorem OwnS.next (h : OwnS W8 t v m X wr) {x : Nat} (hx : X.getD m 0 = x) {v' : Value} (ho : w'.ownsRow W8.heap.size t 1 v' (m + 1) ((List.range m).map (decF X) ++ [.string (dec x)])) (hg : wr.grownBy w' v.ownBlock) : OwnS W8 t v' (m + 1) X w' := by
 refine ⟨?_, h.bl.grown hg h.bl.size (fun b e => (h.own.lt b e).1)⟩
 have e : (List.range (m + 1)).map (decF X) = (List.range m).map (decF X) ++ [.string (dec x)] := by
  rw [List.range_succ, List.map_append];show _ ++ [decF X m] = _;unfold decF;rw [hx]
 rw [e]; exact ho
theorem OwnS.keep {v2 : Value} {m2 : Nat} {X2 : List Nat} (h : OwnS W8 t v m X wr) (h2 : OwnS W8 t v2 m2 X2 wr) (hg : wr.grownBy w' v.ownBlock) (hne : apartB v v2) : OwnS W8 t v2 m2 X2 w' :=
 ⟨h2.own.kept hg hne.ne, h2.bl.grown hg h2.bl.size (fun b e => (h.own.lt b e).1)⟩
theorem oneStrV {s : ByteArray} (u : Value) (h : u ∈ [Value.string s]) : u.oneCell' = true := by
 simp at h; subst h; rfl
theorem OwnS.rd (h : OwnS W8 t v (m + 1) X wr) : ∃ g cap, v = .slice (some ⟨g, 0, none⟩) (m + 1) cap ∧ Rd wr wr.heap.size (some ⟨g, 0, none⟩) (m + 1) (decF X) := by
 obtain ⟨g, cap, e, _, hs⟩ := own_str h.own;exact ⟨g, cap, e, hs.rd⟩
end
theorem rw_go (w : World) (N : Nt) (A Al Ah Ab : Option Addr) (c cl ch cb n : Nat) (la lh : List ByteArray) (bs : List Nat) (hn : N.n = (n : Int)) (hn20 : n ≤ 20) (hlen : N.l.length ≤ 140737488355328) (hN : NtAt w w.heap.size A N.l) (hc : cchk N = 0)
  (hoa : okL la la.length) (hoh : okL lh lh.length) (e1 : la.length = n + 1) (e2 : lh.length = n + 1) (hnh : ¬ 16384 < sumB (prL la) n + sumB (prL lh) n) (hrl : Rd w w.heap.size Al (n + 1) (strF la)) (hrh : Rd w w.heap.size Ah (n + 1) (strF lh))
  (hlb : bs.length ≤ 1000000) (hbs : Rd w w.heap.size Ab bs.length (byF bs)) (hb8 : ∀ i, bs.getD i 0 < 256) :
  Calls Tryz.prog 22 #[ntV N A c, .slice Al (n + 1) cl, .slice Ah (n + 1) ch, .slice Ab bs.length cb] w fun e w' => e = .returned (tkV (tkR N n (wSt (prL la) (prL lh) (n + 1)).1 (wSt (prL la) (prL lh) (n + 1)).2 bs)) ∧ Below w.heap.size w w' := by
 obtain ⟨ti, hti, ht0, ht1, ht2⟩ := info_parts info_str;have hv := cchk_vld hc
 have hp1 : (prL la).length = n + 1 := by unfold prL; rw [List.length_map]; exact e1
 have hp2 : (prL lh).length = n + 1 := by unfold prL; rw [List.length_map]; exact e2
 have hg1 := okL_wg hoa;have hg2 := okL_wg hoh;have hwh := wSt_wh hg1 hg2 hp1 hp2;have hwin := wSt_in hg1 hg2 hp1 hp2;have hsmall := wl_small (nine_pr hoa) (nine_pr hoh) hp1 hp2;have hat := fun k => wSt_at hp1 hp2 k;have tx1 := la_tx hoa e1;have tx2 := la_tx hoh e2;have hck := fun W hN => rcheck_any W N A c hlen hN;rw [hc] at hck;have hhv := fun W h1 h2 => rheavy_any W n (by omega) la lh (prL la) (prL lh) Al Ah cl ch tx1 tx2 h1 h2;rw [decide_eq_false hnh] at hhv;obtain ⟨wlo, hwlo⟩ : ∃ L, (wSt (prL la) (prL lh) (n + 1)).1 = L := ⟨_, rfl⟩;obtain ⟨whi, hwhi⟩ : ∃ L, (wSt (prL la) (prL lh) (n + 1)).2 = L := ⟨_, rfl⟩;rw [hwlo, hwhi] at hwh hwin ⊢;simp only [hwlo, hwhi] at hsmall hat;clear hwlo hwhi
 have hwo : ∀ v, 1 ≤ v → v ≤ n → ∀ W, Calls Tryz.prog 43 #[.string (la.getD v ⟨#[]⟩), .string (lh.getD v ⟨#[]⟩)] W fun x w' => x = .returned (.tuple #[.string (dec ((numL n wlo).getD v 0)), .string (dec ((numL n whi).getD v 0))]) ∧ Below W.heap.size W w' := fun v h1 h2 W => by
  have := rwhole_any W _ _ _ _ _ _ (tx1.pt v h1 h2) (tx2.pt v h1 h2) (tx1.sz v h1 h2) (tx2.sz v h1 h2) (tx1.dn v h1 h2) (tx1.dd v h1 h2) (tx2.dn v h1 h2) (tx2.dd v h1 h2) (qd_pos _) (qd_pos _);rw [numL_get, numL_get, if_pos ⟨h1, h2⟩, if_pos ⟨h1, h2⟩, (hat v).1, (hat v).2, if_pos (by omega), if_pos (by omega)];exact this
 have hle1 : Le100 wlo := fun k => Nat.le_trans (Nat.le_of_lt (hsmall k).1) (by decide);have hle2 : Le100 whi := fun k => Nat.le_trans (Nat.le_of_lt (hsmall k).2) (by decide);have tx3 := num_tx (n := n) (fun k => (hsmall k).1) hwh.wl;have tx4 := num_tx (n := n) (fun k => (hsmall k).2) hwh.wh
 have hhv2 : ∀ W Bl Bh dl dh, Rd W W.heap.size Bl (n + 1) (decF (numL n wlo)) → Rd W W.heap.size Bh (n + 1) (decF (numL n whi)) → Calls Tryz.prog 42 #[.slice Bl (n + 1) dl, .slice Bh (n + 1) dh] W fun e w' => e = .returned (.bool (decide (16384 < sumB wlo n + sumB whi n))) ∧ Below W.heap.size W w' := fun W Bl Bh dl dh h1 h2 =>
  rheavy_any W n (by omega) _ _ wlo whi Bl Bh dl dh tx3 tx4 (h1.congr fun i hi => strF_dec _ (n + 1) i (by rw [numL_len]; exact hi)) (h2.congr fun i hi => strF_dec _ (n + 1) i (by rw [numL_len]; exact hi))
 have hsm : ∀ W Bl Bh dl dh, NtAt W W.heap.size A N.l → Rd W W.heap.size Bl (n + 1) (decF (numL n wlo)) → Rd W W.heap.size Bh (n + 1) (decF (numL n whi)) →
   Calls Tryz.prog 44 #[ntV N A c, .slice Bl (n + 1) dl, .slice Bh (n + 1) dh] W fun e w' => e = .returned (.string (dec (totN N n wlo whi))) ∧ Below W.heap.size W w' := fun W Bl Bh dl dh h1 h2 h3 => by
  have := rsum36_any W N A Bl Bh c dl dh n (numL n wlo) (numL n whi) hn hn20 h1 hc (numL_len n _) (numL_len n _) (numL_zero n _) (numL_zero n _) (hle1.num n) (hle2.num n) h2 h3;rw [wx_wn hv hn hwh] at this;exact this
 have hdr := fun W C h0 h8 h1 => rdraw36_any W C bs Ab cb h0 h8 hlb h1 hb8;have hch := fun W Bl Bh dl dh r h1 h2 h3 h4 => rchoice36_any W N A Bl Bh c dl dh n r wlo whi hn hn20 h1 hc hwh hle1 hle2 h2 h3 h4
 have hfit : wfit N n wlo whi = if 16384 < sumB wlo n + sumB whi n then 2 else 0 := by unfold wfit; rw [if_pos hc]
 have hS8 : ¬ 16384 < sumB wlo n + sumB whi n → n8 (totN N n wlo whi) ≤ 100000 := fun h => by
  have hf : WtFit N n wlo whi := ⟨hwin, hc, by omega⟩;exact (sum_Sp hv hn hf).1
 obtain ⟨T, hT⟩ : ∃ T, tkR N n wlo whi bs = T := ⟨_, rfl⟩;have hTT := hT;unfold tkR at hT;rw [hfit] at hT
 have hcase : (16384 < sumB wlo n + sumB whi n ∧ T = Tk.no 2) ∨ (¬ 16384 < sumB wlo n + sumB whi n ∧ ((totN N n wlo whi = 0 ∧ T = Tk.no 3) ∨ (0 < totN N n wlo whi ∧ n8 (totN N n wlo whi) ≤ 100000 ∧ ((drawN (totN N n wlo whi) bs = none ∧ T = Tk.no 0) ∨
   ∃ r u, drawN (totN N n wlo whi) bs = some (r, u) ∧ n8 r ≤ 100000 ∧ T = ⟨choiceN N n wlo whi r, u, true, 0⟩)))) := by
  by_cases h : 16384 < sumB wlo n + sumB whi n
  ·rw [if_pos h, if_neg (by decide)] at hT;exact .inl ⟨h, hT.symm⟩
  ·rw [if_neg h, if_pos rfl] at hT;refine .inr ⟨h, ?_⟩;by_cases h0 : totN N n wlo whi = 0
   ·rw [if_pos h0] at hT;exact .inl ⟨h0, hT.symm⟩
   ·rw [if_neg h0] at hT;refine .inr ⟨by omega, hS8 h, ?_⟩;cases hd : drawN (totN N n wlo whi) bs with
    | none => rw [hd] at hT; exact .inl ⟨rfl, hT.symm⟩
    | some x =>
      obtain ⟨r, u⟩ := x;rw [hd] at hT;exact .inr ⟨r, u, rfl, Nat.le_trans (n8_mono (Nat.le_of_lt (drawN_at hd).2.1)) (hS8 h), hT.symm⟩
 rw [hTT];obtain ⟨S, hS⟩ : ∃ S, totN N n wlo whi = S := ⟨_, rfl⟩;simp only [hS] at hcase hsm;obtain ⟨H, hH⟩ : ∃ H, sumB wlo n + sumB whi n = H := ⟨_, rfl⟩;simp only [hH] at hcase hhv2;have hlX := numL_len n wlo;have hlY := numL_len n whi;have hX0 := numL_zero n wlo;have hY0 := numL_zero n whi;obtain ⟨X, hX⟩ : ∃ X, numL n wlo = X := ⟨_, rfl⟩;obtain ⟨Y, hY⟩ : ∃ Y, numL n whi = Y := ⟨_, rfl⟩;rw [hX] at hlX hX0;rw [hY] at hlY hY0;simp only [hX, hY] at hwo hhv2 hsm hch;have HCK := zqh hck;have HHV := zqh hhv;have HHV2 := zqh hhv2;have HSM := zqh hsm;have HDR := zqh hdr;have HCH := zqh hch;have HWO := zqh hwo;have HCS := zqh hcase;have HX0 := zqh hX0;have HY0 := zqh hY0;have HRL := zqh (fun W (hb : Below w.heap.size w W) => (hrl.below hb).more hb.size);have HRH := zqh (fun W (hb : Below w.heap.size w W) => (hrh.below hb).more hb.size);have HBS := zqh (fun W (hb : Below w.heap.size w W) => (hbs.below hb).more hb.size);have HZ := zqh (show dec 0 = (⟨#[48]⟩ : ByteArray) from dec_zero);clear hck hhv hhv2 hsm hdr hch hwo hcase hT hTT hS hH hX hY hwh hwin hsmall hat tx1 tx2 tx3 tx4 hle1 hle2 hfit hS8 hg1 hg2 hp1 hp2 hoa hoh e1 e2 hnh hrl hrh hbs hb8 hv hc hX0 hY0;obtain ⟨Nn, l⟩ := N;simp only at hn;subst hn;have q0 := ((Bag.zero w).new #[.int .i64 (n : Int), .slice A l.length c] 24 w.heap.size 2 rfl rfl).new #[.int .u64 0, .int .u64 0] 30 (w.heap.size + 1) 2 (by simp) rfl;have HNT := zqh (fun W (hb : Below w.heap.size w W) => (hN.below hb).more hb.size);clear hN
 go_enter Tryz.func22, Tryz.ntmps22
 go_wp2_with fail
 refine (HCK.out _ (HNT.out _ q0.bl)).mono ?_;rintro e w1 ⟨rfl, hb1⟩;have q1 := q0.below hb1;have m1 := q1.is w.heap.size 2 24 #[.int .i64 (n : Int), .slice A l.length c] (by simp) 0 (by decide) (.int .i64 (n : Int)) rfl;have m2 := q1.is w.heap.size 2 24 #[.int .i64 (n : Int), .slice A l.length c] (by simp) 1 (by decide) (.slice A l.length c) rfl;have m3 := q1.is0 0 (by decide) (.int .u64 0) rfl;have m4 := q1.is0 1 (by decide) (.int .u64 0) rfl;have f3 := q1.row0.frozen 0;have f4 := q1.row0.frozen 1;clear hb1
 go_wp2_with fail
 refine (HHV.out _ (HRL.out _ q1.bl) (HRH.out _ q1.bl)).mono ?_;rintro e w8 ⟨rfl, hb8⟩;have q8 := q1.below hb8;clear m1 m2 m3 m4 f3 f4 hb8
 have own0 : ∀ (W : World) (Z : List Nat), Z.getD 0 0 = 0 → (W.alloc (.cells #[.string ⟨#[48]⟩] 9)).ownsRow W.heap.size 9 1 (.slice (some ⟨W.heap.size, 0, none⟩) 1 1) 1 ((List.range 1).map (decF Z)) := fun W Z hz =>
  own_of_row (((arrNew W #[.string ⟨#[48]⟩] 9 W.heap.size 1 rfl rfl)).congr fun i hi => by
   obtain rfl : i = 0 := by omega
   show Value.string ⟨#[48]⟩ = .string (dec (Z.getD 0 0))
   rw [hz, HZ.out]) (zqn _) (by decide)
 have oa0 : OwnS w8 9 (.slice (some ⟨w8.heap.size, 0, none⟩) 1 1) 1 X (w8.alloc (.cells #[.string ⟨#[48]⟩] 9)) := ⟨own0 w8 X HX0.out, (zqr _ _).alloc (zqn _) _⟩;have oa1 := oa0.below ((zqr _ _).alloc (zqn _) (.cells #[.string ⟨#[48]⟩] 9))
 have ob1 : OwnS w8 9 (.slice (some ⟨w8.heap.size + 1, 0, none⟩) 1 1) 1 Y ((w8.alloc (.cells #[.string ⟨#[48]⟩] 9)).alloc (.cells #[.string ⟨#[48]⟩] 9)) := by
  have h := own0 (w8.alloc (.cells #[.string ⟨#[48]⟩] 9)) Y HY0.out
  have e1 : (w8.alloc (.cells #[.string ⟨#[48]⟩] 9)).heap.size = w8.heap.size + 1 := by simp
  rw [e1] at h;refine ⟨⟨h.1, ?_⟩, oa1.bl⟩;rcases h.2 with h | ⟨g, cap, cur, h1, h2, h3⟩
  ·exact .inl h
  ·exact .inr ⟨g, cap, cur, h1, by omega, h3⟩
 have hap0 : apartB (.slice (some ⟨w8.heap.size, 0, none⟩) 1 1) (.slice (some ⟨w8.heap.size + 1, 0, none⟩) 1 1) := .inr (.inr (by show some w8.heap.size ≠ some (w8.heap.size + 1); intro h; injection h with h; omega));clear own0 oa0
 go_wp2_with fail
 go_loopw [13, 14, 15] (fun a b t wr => ∃ k : Nat, k ≤ n ∧ t = .int .i64 ((k : Int) + 1) ∧ OwnS w8 9 a (k + 1) X wr ∧ OwnS w8 9 b (k + 1) Y wr ∧ apartB a b) (fun _ _ t _ => n + 1 - (intOf t).toNat)
 case atStart => exact ⟨0, Nat.zero_le _, rfl, oa1, ob1, hap0⟩
 case round =>
  clear oa1 ob1 hap0;obtain ⟨k, hk, rfl, hoa, hob, hap⟩ := hrel;have q9 := q8.below hoa.bl;have m1 := q9.is w.heap.size 2 24 #[.int .i64 (n : Int), .slice A l.length c] (by simp) 0 (by decide) (.int .i64 (n : Int)) rfl;rcases Nat.lt_or_ge k n with hlt | hge
  ·have d1 : decide ((k : Int) + 1 ≤ (n : Int)) = true := decide_eq_true (by omega);have hwo1 := HWO.out (k + 1) (by omega) (by omega);obtain ⟨ba, oa, rfl, hba, hca⟩ := (HRL.out _ q9.bl) (by omega);obtain ⟨bh, oh, rfl, hbh, hch⟩ := (HRH.out _ q9.bl) (by omega);have s1 := hca (k + 1) (by omega);have s2 := hch (k + 1) (by omega);unfold strF at s1 s2;obtain ⟨sa, hsa⟩ : ∃ s, la.getD (k + 1) ⟨#[]⟩ = s := ⟨_, rfl⟩;obtain ⟨sb, hsb⟩ : ∃ s, lh.getD (k + 1) ⟨#[]⟩ = s := ⟨_, rfl⟩;obtain ⟨x, hx⟩ : ∃ x, X.getD (k + 1) 0 = x := ⟨_, rfl⟩;obtain ⟨y, hy⟩ : ∃ y, Y.getD (k + 1) 0 = y := ⟨_, rfl⟩;rw [hsa] at s1 hwo1;rw [hsb] at s2 hwo1;rw [hx, hy] at hwo1;have HWO1 := zqh hwo1;have HXX := zqh hx;have HYY := zqh hy;have lba := hba;have lbh := hbh
   have i0 : (0 : Int) ≤ (k : Int) + 1 := by omega
   have i1 : (k : Int) + 1 < (n : Int) + 1 := by omega
   have i2 : k + 1 < n + 1 := by omega
   have HOA := zqh hoa;have HOB := zqh hob;have HAP := zqh hap;clear hca hch hsa hsb hx hy hwo1 hoa hob hap
   go_wp2_with fail
   have HS : Hid (∀ W, Below wr.heap.size wr W → W.cell? ⟨ba, oa + (k + 1), none⟩ = some (.string sa) ∧ W.cell? ⟨bh, oh + (k + 1), none⟩ = some (.string sb)) := zqh fun W hb => ⟨(hb.cell (p := ⟨ba, oa + (k + 1), none⟩) lba).trans s1, (hb.cell (p := ⟨bh, oh + (k + 1), none⟩) lbh).trans s2⟩
   refine wp_region_props (n := _) (PX := [fun xl xv xw => xv = .slice (some ⟨ba, oa, none⟩) (n + 1) cl,
      fun xl xv xw => xv = .int .i64 ((k : Int) + 1),
      fun xl xv xw => xv = .pointer (some ⟨ba, oa + (k + 1), none⟩),
      fun xl xv xw => xv = .string sa,
      fun xl xv xw => xv = .slice (some ⟨bh, oh, none⟩) (n + 1) ch,
      fun xl xv xw => xv = .int .i64 ((k : Int) + 1),
      fun xl xv xw => xv = .pointer (some ⟨bh, oh + (k + 1), none⟩),
      fun xl xv xw => xv = .string sb,
      fun xl xv xw => xv = .tuple #[.string (dec x), .string (dec y)],
      fun xl xv xw => xv = .tuple #[.string (dec x), .string (dec y)],
      fun xl xv xw => xv = .string (dec x),
      fun xl xv xw => xv = .string (dec y),
      fun xl xv xw => xv = .string (dec x),
      fun xl xv xw => xv = .string (dec y)])
     (AL := []) (DP := [[], [], [0, 1], [2], [], [], [4, 5], [6], [3, 7], [8], [9], [9], [10], [11]]) (L1 := [0, 1, 2, 3, 4, 5, 6, 7, 8, 9, 10, 11, 12, 13]) (ex := []) (by kernel_rfl) rfl (by kernel_rfl) ?_ ?_ (fin0 ?_)
   ·refine List.forall_mem_cons.2 ⟨?_, List.forall_mem_cons.2 ⟨?_, List.forall_mem_cons.2 ⟨?_, List.forall_mem_cons.2 ⟨?_, List.forall_mem_cons.2 ⟨?_, List.forall_mem_cons.2 ⟨?_, List.forall_mem_cons.2 ⟨?_, List.forall_mem_cons.2 ⟨?_, List.forall_mem_cons.2 ⟨?_, List.forall_mem_cons.2 ⟨?_, List.forall_mem_cons.2 ⟨?_, List.forall_mem_cons.2 ⟨?_, List.forall_mem_cons.2 ⟨?_, List.forall_mem_cons.2 ⟨?_, List.forall_mem_nil _⟩⟩⟩⟩⟩⟩⟩⟩⟩⟩⟩⟩⟩⟩
    ·exact fun _ _ _ _ h _ => h
    ·exact fun _ _ _ _ h _ => h
    ·exact fun _ _ _ _ h _ => h
    ·exact fun _ _ _ _ h _ => h
    ·exact fun _ _ _ _ h _ => h
    ·exact fun _ _ _ _ h _ => h
    ·exact fun _ _ _ _ h _ => h
    ·exact fun _ _ _ _ h _ => h
    ·exact fun _ _ _ _ h _ => h
    ·exact fun _ _ _ _ h _ => h
    ·exact fun _ _ _ _ h _ => h
    ·exact fun _ _ _ _ h _ => h
    ·exact fun _ _ _ _ h _ => h
    ·exact fun _ _ _ _ h _ => h
   ·refine List.forall_mem_cons.2 ⟨?_, List.forall_mem_cons.2 ⟨?_, List.forall_mem_cons.2 ⟨?_, List.forall_mem_cons.2 ⟨?_, List.forall_mem_cons.2 ⟨?_, List.forall_mem_cons.2 ⟨?_, List.forall_mem_cons.2 ⟨?_, List.forall_mem_cons.2 ⟨?_, List.forall_mem_cons.2 ⟨?_, List.forall_mem_cons.2 ⟨?_, List.forall_mem_cons.2 ⟨?_, List.forall_mem_cons.2 ⟨?_, List.forall_mem_cons.2 ⟨?_, List.forall_mem_cons.2 ⟨?_, List.forall_mem_nil _⟩⟩⟩⟩⟩⟩⟩⟩⟩⟩⟩⟩⟩⟩
    ·refine StepOk.intro rfl [] (by kernel_rfl) ?_;intro vs W hW0 hd K hK;have hW : Below wr.heap.size wr W := zqx (belowDrewN (zqr _ _) 1) hW0 (zqn _);clear hd
     try simp only [putsD, Act.put, zqa, zqb, zqc, zqd, zqe, zqf] at hK ⊢
     go_simp
     exact hK.out _ _ rfl (zqr _ _) (fun h => absurd h (by decide))
    ·refine StepOk.intro rfl [] (by kernel_rfl) ?_;intro vs W hW0 hd K hK;have hW : Below wr.heap.size wr W := zqx (belowDrewN (zqr _ _) 1) hW0 (zqn _);clear hd
     try simp only [putsD, Act.put, zqa, zqb, zqc, zqd, zqe, zqf] at hK ⊢
     go_simp
     exact hK.out _ _ rfl (zqr _ _) (fun h => absurd h (by decide))
    ·refine StepOk.intro rfl [(0, some 63), (1, some 64)] (by kernel_rfl) ?_;intro vs W hW0 hd K hK;have hW : Below wr.heap.size wr W := zqx (belowDrewN (zqr _ _) 1) hW0 (zqn _);have d0 : vs 0 = .slice (some ⟨ba, oa, none⟩) (n + 1) cl := hd 0 (by decide);have d1 : vs 1 = .int .i64 ((k : Int) + 1) := hd 1 (by decide);clear hd
     try simp only [d0, d1, putsD, Act.put, zqa, zqb, zqc, zqd, zqe, zqf] at hK ⊢
     obtain ⟨m1, m2⟩ := HS.out W hW
     go_simp
     exact hK.out _ _ rfl (zqr _ _) (fun h => absurd h (by decide))
    ·refine StepOk.intro rfl [(2, some 65)] (by kernel_rfl) ?_;intro vs W hW0 hd K hK;have hW : Below wr.heap.size wr W := zqx (belowDrewN (zqr _ _) 1) hW0 (zqn _);have d2 : vs 2 = .pointer (some ⟨ba, oa + (k + 1), none⟩) := hd 2 (by decide);clear hd
     try simp only [d2, putsD, Act.put, zqa, zqb, zqc, zqd, zqe, zqf] at hK ⊢
     obtain ⟨m1, m2⟩ := HS.out W hW
     go_simp
     exact hK.out _ _ rfl (zqr _ _) (fun h => absurd h (by decide))
    ·refine StepOk.intro rfl [] (by kernel_rfl) ?_;intro vs W hW0 hd K hK;have hW : Below wr.heap.size wr W := zqx (belowDrewN (zqr _ _) 1) hW0 (zqn _);clear hd
     try simp only [putsD, Act.put, zqa, zqb, zqc, zqd, zqe, zqf] at hK ⊢
     go_simp
     exact hK.out _ _ rfl (zqr _ _) (fun h => absurd h (by decide))
    ·refine StepOk.intro rfl [] (by kernel_rfl) ?_;intro vs W hW0 hd K hK;have hW : Below wr.heap.size wr W := zqx (belowDrewN (zqr _ _) 1) hW0 (zqn _);clear hd
     try simp only [putsD, Act.put, zqa, zqb, zqc, zqd, zqe, zqf] at hK ⊢
     go_simp
     exact hK.out _ _ rfl (zqr _ _) (fun h => absurd h (by decide))
    ·refine StepOk.intro rfl [(4, some 67), (5, some 68)] (by kernel_rfl) ?_;intro vs W hW0 hd K hK;have hW : Below wr.heap.size wr W := zqx (belowDrewN (zqr _ _) 1) hW0 (zqn _);have d4 : vs 4 = .slice (some ⟨bh, oh, none⟩) (n + 1) ch := hd 4 (by decide);have d5 : vs 5 = .int .i64 ((k : Int) + 1) := hd 5 (by decide);clear hd
     try simp only [d4, d5, putsD, Act.put, zqa, zqb, zqc, zqd, zqe, zqf] at hK ⊢
     obtain ⟨m1, m2⟩ := HS.out W hW
     go_simp
     exact hK.out _ _ rfl (zqr _ _) (fun h => absurd h (by decide))
    ·refine StepOk.intro rfl [(6, some 69)] (by kernel_rfl) ?_;intro vs W hW0 hd K hK;have hW : Below wr.heap.size wr W := zqx (belowDrewN (zqr _ _) 1) hW0 (zqn _);have d6 : vs 6 = .pointer (some ⟨bh, oh + (k + 1), none⟩) := hd 6 (by decide);clear hd
     try simp only [d6, putsD, Act.put, zqa, zqb, zqc, zqd, zqe, zqf] at hK ⊢
     obtain ⟨m1, m2⟩ := HS.out W hW
     go_simp
     exact hK.out _ _ rfl (zqr _ _) (fun h => absurd h (by decide))
    ·refine StepOk.intro rfl [(3, some 66), (7, some 70)] (by kernel_rfl) ?_;intro vs W hW0 hd K hK;have hW : Below wr.heap.size wr W := zqx (belowDrewN (zqr _ _) 1) hW0 (zqn _);have d3 : vs 3 = .string sa := hd 3 (by decide);have d7 : vs 7 = .string sb := hd 7 (by decide);clear hd
     try simp only [d3, d7, putsD, Act.put, zqa, zqb, zqc, zqd, zqe, zqf] at hK ⊢
     go_simp
     go_at_call 43
     (with_reducible first | refine (HWO1.out _).mono ?_)
     rintro e w9 ⟨rfl, hb9⟩;exact hK.out _ _ (rfl) hb9 (fun h => absurd h (by decide))
    ·refine StepOk.intro rfl [(8, some 71)] (by kernel_rfl) ?_;intro vs W hW0 hd K hK;have hW : Below wr.heap.size wr W := zqx (belowDrewN (zqr _ _) 1) hW0 (zqn _);have d8 : vs 8 = .tuple #[.string (dec x), .string (dec y)] := hd 8 (by decide);clear hd
     try simp only [d8, putsD, Act.put, zqa, zqb, zqc, zqd, zqe, zqf] at hK ⊢
     go_simp
     exact hK.out _ _ rfl (zqr _ _) (fun h => absurd h (by decide))
    ·refine StepOk.intro rfl [(9, some 62)] (by kernel_rfl) ?_;intro vs W hW0 hd K hK;have hW : Below wr.heap.size wr W := zqx (belowDrewN (zqr _ _) 1) hW0 (zqn _);have d9 : vs 9 = .tuple #[.string (dec x), .string (dec y)] := hd 9 (by decide);clear hd
     try simp only [d9, putsD, Act.put, zqa, zqb, zqc, zqd, zqe, zqf] at hK ⊢
     go_simp
     exact hK.out _ _ rfl (zqr _ _) (fun h => absurd h (by decide))
    ·refine StepOk.intro rfl [(9, some 62)] (by kernel_rfl) ?_;intro vs W hW0 hd K hK;have hW : Below wr.heap.size wr W := zqx (belowDrewN (zqr _ _) 1) hW0 (zqn _);have d9 : vs 9 = .tuple #[.string (dec x), .string (dec y)] := hd 9 (by decide);clear hd
     try simp only [d9, putsD, Act.put, zqa, zqb, zqc, zqd, zqe, zqf] at hK ⊢
     go_simp
     exact hK.out _ _ rfl (zqr _ _) (fun h => absurd h (by decide))
    ·refine StepOk.intro rfl [(10, some 72)] (by kernel_rfl) ?_;intro vs W hW0 hd K hK;have hW : Below wr.heap.size wr W := zqx (belowDrewN (zqr _ _) 1) hW0 (zqn _);have d10 : vs 10 = .string (dec x) := hd 10 (by decide);clear hd
     try simp only [d10, putsD, Act.put, zqa, zqb, zqc, zqd, zqe, zqf] at hK ⊢
     go_simp
     exact hK.out _ _ rfl (zqr _ _) (fun h => absurd h (by decide))
    ·refine StepOk.intro rfl [(11, some 73)] (by kernel_rfl) ?_;intro vs W hW0 hd K hK;have hW : Below wr.heap.size wr W := zqx (belowDrewN (zqr _ _) 1) hW0 (zqn _);have d11 : vs 11 = .string (dec y) := hd 11 (by decide);clear hd
     try simp only [d11, putsD, Act.put, zqa, zqb, zqc, zqd, zqe, zqf] at hK ⊢
     go_simp
     exact hK.out _ _ rfl (zqr _ _) (fun h => absurd h (by decide))
   refine FinOk.intro [(0, some 63), (1, some 64), (2, some 65), (3, some 66), (4, some 67), (5, some 68), (6, some 69), (7, some 70), (8, some 71), (9, some 62), (10, some 72), (11, some 73), (12, some 16), (13, some 17)] #[true, true, true, true, true, true, true, true, true, true, true, true, true, true] 0 (by kernel_rfl) (by kernel_rfl) (by kernel_rfl) ?_;intro vs Wf hW0 hd hbk hdis kf;have hW : Below wr.heap.size wr Wf := zqx (belowDrewN (zqr _ _) 1) hW0 (zqn _);have d0 : vs 0 = .slice (some ⟨ba, oa, none⟩) (n + 1) cl := hd 0 (by decide);have d1 : vs 1 = .int .i64 ((k : Int) + 1) := hd 1 (by decide);have d2 : vs 2 = .pointer (some ⟨ba, oa + (k + 1), none⟩) := hd 2 (by decide);have d3 : vs 3 = .string sa := hd 3 (by decide);have d4 : vs 4 = .slice (some ⟨bh, oh, none⟩) (n + 1) ch := hd 4 (by decide);have d5 : vs 5 = .int .i64 ((k : Int) + 1) := hd 5 (by decide);have d6 : vs 6 = .pointer (some ⟨bh, oh + (k + 1), none⟩) := hd 6 (by decide);have d7 : vs 7 = .string sb := hd 7 (by decide);have d8 : vs 8 = .tuple #[.string (dec x), .string (dec y)] := hd 8 (by decide);have d9 : vs 9 = .tuple #[.string (dec x), .string (dec y)] := hd 9 (by decide);have d10 : vs 10 = .string (dec x) := hd 10 (by decide);have d11 : vs 11 = .string (dec y) := hd 11 (by decide);have d12 : vs 12 = .string (dec x) := hd 12 (by decide);have d13 : vs 13 = .string (dec y) := hd 13 (by decide);clear hd hbk hdis hW0
   try simp only [d0, d1, d2, d3, d4, d5, d6, d7, d8, d9, d10, d11, d12, d13, putsD, Act.put, zqa, zqb, zqc, zqd, zqe, zqf]
   clear d0 d1 d2 d3 d4 d5 d6 d7 d8 d9 d10 d11 d12 d13 vs;clear HS;refine wpAny_end (by kernel_rfl) ?_ _;have hoa2 := (HOA.out.below hW).below ((zqr _ _).alloc (zqn _) (.cells #[.string (dec x)] 9));have hob2 := (HOB.out.below hW).below ((zqr _ _).alloc (zqn _) (.cells #[.string (dec x)] 9));have own2 := hoa2.own;have z2 := hoa2.bl.size;have HOA2 := zqh hoa2;have HOB2 := zqh hob2;clear hoa2 hob2 hW s1 s2 m1
   go_wp2_with (first
    | (at_builtin
       refine wpList_append_own2 _ rfl _ _ 43 rfl w8.heap.size 9 ti (.string ⟨#[]⟩) 1 16 Tryz.underlying43 hti ht0 ht1 ht2 rfl (by decide) _ _ _ rfl own2 ⟨Wf.heap.size, 0, none⟩ 1 1 [.string (dec x)] rfl rfl newOne oneStrV (by unfold maxLen; omega) (by omega) z2 ?_;intro v4 w4 hown4 hgr4 hwh4;have hoa4 := HOA2.out.next HXX.out hown4 hgr4;have hob4 := OwnS.keep HOA2.out HOB2.out hgr4 HAP.out;have hap4 := HAP.out.next hwh4 (fun g hg => (HOB2.out.own.lt g hg).2);have hoa5 := hoa4.below ((zqr _ _).alloc (zqn _) (.cells #[.string (dec y)] 9));have hob5 := hob4.below ((zqr _ _).alloc (zqn _) (.cells #[.string (dec y)] 9));have own5 := hob5.own;have z5 := hob5.bl.size;have HOA5 := zqh hoa5;have HOB5 := zqh hob5;have HAP4 := zqh hap4
       clear own2 hown4 hgr4 hwh4 hoa4 hob4 hap4 hoa5 hob5 z2)
    | (at_builtin
       refine wpList_append_own2 _ rfl _ _ 43 rfl w8.heap.size 9 ti (.string ⟨#[]⟩) 1 16 Tryz.underlying43 hti ht0 ht1 ht2 rfl (by decide) _ _ _ rfl own5 ⟨w4.heap.size, 0, none⟩ 1 1 [.string (dec y)] rfl rfl newOne oneStrV (by unfold maxLen; omega) (by omega) z5 ?_;intro v6 w6 hown6 hgr6 hwh6;have hob6 := HOB5.out.next HYY.out hown6 hgr6;have hoa6 := OwnS.keep HOB5.out HOA5.out hgr6 HAP4.out.symm;have hap6 := HAP4.out.symm.next hwh6 (fun g hg => (HOA5.out.own.lt g hg).2);have HOA6 := zqh hoa6;have HOB6 := zqh hob6;have HAP6 := zqh hap6
       clear own5 hown6 hgr6 hwh6 hoa6 hob6 hap6 z5))
   exact ⟨⟨k + 1, by omega, by go_num, HOA6.out, HOB6.out, HAP6.out.symm⟩, by simp [intOf]; omega⟩
  ·obtain rfl : n = k := by omega
   have d1 : decide ((n : Int) + 1 ≤ (n : Int)) = false := decide_eq_false (by omega);obtain ⟨ga, ca, rfl, hra⟩ := hoa.rd;obtain ⟨gb, cbb, rfl, hrb⟩ := hob.rd;have HRA := zqh hra;have HRB := zqh hrb;clear hoa hob hap hra hrb m1;have hhv := HHV2.out;have hcs := HCS.out;rcases hcs with ⟨h1, rfl⟩ | ⟨h1, hcs⟩
   ·rw [decide_eq_true h1] at hhv;have HHV3 := zqh hhv;clear hhv h1;have m1 := q9.is w.heap.size 2 24 #[.int .i64 (n : Int), .slice A l.length c] (by simp) 0 (by decide) (.int .i64 (n : Int)) rfl;have m2 := q9.is w.heap.size 2 24 #[.int .i64 (n : Int), .slice A l.length c] (by simp) 1 (by decide) (.slice A l.length c) rfl;have m3 := q9.is0 0 (by decide) (.int .u64 0) rfl;have m4 := q9.is0 1 (by decide) (.int .u64 0) rfl;have f3 := q9.row0.frozen 0;have f4 := q9.row0.frozen 1
    go_wp2_with fail
    refine (HHV3.out _ _ _ ca cbb HRA.out HRB.out).mono ?_;rintro e w10 ⟨rfl, hb10⟩;have q10 := q9.below hb10;have hra10 := (HRA.out.below hb10).more hb10.size;have hrb10 := (HRB.out.below hb10).more hb10.size;clear m1 m2 m3 m4 f3 f4;have m1 := q10.is w.heap.size 2 24 #[.int .i64 (n : Int), .slice A l.length c] (by simp) 0 (by decide) (.int .i64 (n : Int)) rfl;have m2 := q10.is w.heap.size 2 24 #[.int .i64 (n : Int), .slice A l.length c] (by simp) 1 (by decide) (.slice A l.length c) rfl;have m3 := q10.is0 0 (by decide) (.int .u64 0) rfl;have m4 := q10.is0 1 (by decide) (.int .u64 0) rfl;have f3 := q10.row0.frozen 0;have f4 := q10.row0.frozen 1;clear hb10
    go_wp2_with fail
    exact ret_take rfl (Tk.no 2) rfl rfl rfl rfl (pairRow (q10.rows (w.heap.size + 1, 30, 2, #[.int .u64 0, .int .u64 0]) (by simp)) _ _) (no_lo _ _) (no_hi _ _) rfl ⟨rfl, (q10.bl.setCell (by simp <;> omega) _).setCell (by simp <;> omega) _⟩
   ·rw [decide_eq_false h1] at hhv;have HHV3 := zqh hhv;clear hhv h1;rcases hcs with ⟨h2, rfl⟩ | ⟨h2, h3, hcs⟩
    ·subst h2
     have hz : ((dec 0).toList == [48]) = true := by rw [beq_iff_eq]; exact (dec_is0 0).2 rfl
     have m1 := q9.is w.heap.size 2 24 #[.int .i64 (n : Int), .slice A l.length c] (by simp) 0 (by decide) (.int .i64 (n : Int)) rfl;have m2 := q9.is w.heap.size 2 24 #[.int .i64 (n : Int), .slice A l.length c] (by simp) 1 (by decide) (.slice A l.length c) rfl;have m3 := q9.is0 0 (by decide) (.int .u64 0) rfl;have m4 := q9.is0 1 (by decide) (.int .u64 0) rfl;have f3 := q9.row0.frozen 0;have f4 := q9.row0.frozen 1
     go_wp2_with fail
     refine (HHV3.out _ _ _ ca cbb HRA.out HRB.out).mono ?_;rintro e w10 ⟨rfl, hb10⟩;have q10 := q9.below hb10;have hra10 := (HRA.out.below hb10).more hb10.size;have hrb10 := (HRB.out.below hb10).more hb10.size;clear m1 m2 m3 m4 f3 f4;have m1 := q10.is w.heap.size 2 24 #[.int .i64 (n : Int), .slice A l.length c] (by simp) 0 (by decide) (.int .i64 (n : Int)) rfl;have m2 := q10.is w.heap.size 2 24 #[.int .i64 (n : Int), .slice A l.length c] (by simp) 1 (by decide) (.slice A l.length c) rfl;have m3 := q10.is0 0 (by decide) (.int .u64 0) rfl;have m4 := q10.is0 1 (by decide) (.int .u64 0) rfl;have f3 := q10.row0.frozen 0;have f4 := q10.row0.frozen 1;clear hb10
     go_wp2_with fail
     refine (HSM.out _ _ _ ca cbb (HNT.out _ q10.bl) hra10 hrb10).mono ?_;rintro e w11 ⟨rfl, hb11⟩;have q11 := q10.below hb11;have hra11 := (hra10.below hb11).more hb11.size;have hrb11 := (hrb10.below hb11).more hb11.size;clear m1 m2 m3 m4 f3 f4;have m1 := q11.is w.heap.size 2 24 #[.int .i64 (n : Int), .slice A l.length c] (by simp) 0 (by decide) (.int .i64 (n : Int)) rfl;have m2 := q11.is w.heap.size 2 24 #[.int .i64 (n : Int), .slice A l.length c] (by simp) 1 (by decide) (.slice A l.length c) rfl;have m3 := q11.is0 0 (by decide) (.int .u64 0) rfl;have m4 := q11.is0 1 (by decide) (.int .u64 0) rfl;have f3 := q11.row0.frozen 0;have f4 := q11.row0.frozen 1;clear hb11 hra10 hrb10
     go_wp2_with fail
     exact ret_take rfl (Tk.no 3) rfl rfl rfl rfl (pairRow (q11.rows (w.heap.size + 1, 30, 2, #[.int .u64 0, .int .u64 0]) (by simp)) _ _) (no_lo _ _) (no_hi _ _) rfl ⟨rfl, (q11.bl.setCell (by simp <;> omega) _).setCell (by simp <;> omega) _⟩
    ·have hz : ((dec S).toList == [48]) = false := beq_eq_false_iff_ne.2 fun e => by have := (dec_is0 S).1 e; omega
     have hdr := fun W hb => HDR.out W S h2 h3 hb;rcases hcs with ⟨h4, rfl⟩ | ⟨r, u, h4, h5, rfl⟩
     ·rw [h4] at hdr;simp only [rdrV] at hdr;have HDR3 := zqh hdr;clear hdr h2 h3 h4;have m1 := q9.is w.heap.size 2 24 #[.int .i64 (n : Int), .slice A l.length c] (by simp) 0 (by decide) (.int .i64 (n : Int)) rfl;have m2 := q9.is w.heap.size 2 24 #[.int .i64 (n : Int), .slice A l.length c] (by simp) 1 (by decide) (.slice A l.length c) rfl;have m3 := q9.is0 0 (by decide) (.int .u64 0) rfl;have m4 := q9.is0 1 (by decide) (.int .u64 0) rfl;have f3 := q9.row0.frozen 0;have f4 := q9.row0.frozen 1
      go_wp2_with fail
      refine (HHV3.out _ _ _ ca cbb HRA.out HRB.out).mono ?_;rintro e w10 ⟨rfl, hb10⟩;have q10 := q9.below hb10;have hra10 := (HRA.out.below hb10).more hb10.size;have hrb10 := (HRB.out.below hb10).more hb10.size;clear m1 m2 m3 m4 f3 f4;have m1 := q10.is w.heap.size 2 24 #[.int .i64 (n : Int), .slice A l.length c] (by simp) 0 (by decide) (.int .i64 (n : Int)) rfl;have m2 := q10.is w.heap.size 2 24 #[.int .i64 (n : Int), .slice A l.length c] (by simp) 1 (by decide) (.slice A l.length c) rfl;have m3 := q10.is0 0 (by decide) (.int .u64 0) rfl;have m4 := q10.is0 1 (by decide) (.int .u64 0) rfl;have f3 := q10.row0.frozen 0;have f4 := q10.row0.frozen 1;clear hb10
      go_wp2_with fail
      refine (HSM.out _ _ _ ca cbb (HNT.out _ q10.bl) hra10 hrb10).mono ?_;rintro e w11 ⟨rfl, hb11⟩;have q11 := q10.below hb11;have hra11 := (hra10.below hb11).more hb11.size;have hrb11 := (hrb10.below hb11).more hb11.size;clear m1 m2 m3 m4 f3 f4;have m1 := q11.is w.heap.size 2 24 #[.int .i64 (n : Int), .slice A l.length c] (by simp) 0 (by decide) (.int .i64 (n : Int)) rfl;have m2 := q11.is w.heap.size 2 24 #[.int .i64 (n : Int), .slice A l.length c] (by simp) 1 (by decide) (.slice A l.length c) rfl;have m3 := q11.is0 0 (by decide) (.int .u64 0) rfl;have m4 := q11.is0 1 (by decide) (.int .u64 0) rfl;have f3 := q11.row0.frozen 0;have f4 := q11.row0.frozen 1;clear hb11 hra10 hrb10
      go_wp2_with fail
      refine (HDR3.out _ (HBS.out _ q11.bl)).mono ?_;rintro e w12 ⟨rfl, hb12⟩;have q12 := q11.below hb12;have hra12 := (hra11.below hb12).more hb12.size;have hrb12 := (hrb11.below hb12).more hb12.size;clear m1 m2 m3 m4 f3 f4;have m1 := q12.is w.heap.size 2 24 #[.int .i64 (n : Int), .slice A l.length c] (by simp) 0 (by decide) (.int .i64 (n : Int)) rfl;have m2 := q12.is w.heap.size 2 24 #[.int .i64 (n : Int), .slice A l.length c] (by simp) 1 (by decide) (.slice A l.length c) rfl;have m3 := q12.is0 0 (by decide) (.int .u64 0) rfl;have m4 := q12.is0 1 (by decide) (.int .u64 0) rfl;have f3 := q12.row0.frozen 0;have f4 := q12.row0.frozen 1;clear hb12 hra11 hrb11
      go_wp2_with fail
      exact ret_take rfl (Tk.no 0) rfl rfl rfl rfl (pairRow (q12.rows (w.heap.size + 1, 30, 2, #[.int .u64 0, .int .u64 0]) (by simp)) _ _) (no_lo _ _) (no_hi _ _) rfl ⟨rfl, (q12.bl.setCell (by simp <;> omega) _).setCell (by simp <;> omega) _⟩
     ·rw [h4] at hdr;simp only [rdrV] at hdr;have HDR3 := zqh hdr;have HR5 := zqh h5;clear hdr h2 h3 h4 h5;have hch := HCH.out;have hch2 := fun W Bl Bh dl dh h1 h2 h3 => hch W Bl Bh dl dh r h1 HR5.out h2 h3;have HCH3 := zqh hch2;clear hch hch2;have m1 := q9.is w.heap.size 2 24 #[.int .i64 (n : Int), .slice A l.length c] (by simp) 0 (by decide) (.int .i64 (n : Int)) rfl;have m2 := q9.is w.heap.size 2 24 #[.int .i64 (n : Int), .slice A l.length c] (by simp) 1 (by decide) (.slice A l.length c) rfl;have m3 := q9.is0 0 (by decide) (.int .u64 0) rfl;have m4 := q9.is0 1 (by decide) (.int .u64 0) rfl;have f3 := q9.row0.frozen 0;have f4 := q9.row0.frozen 1
      go_wp2_with fail
      refine (HHV3.out _ _ _ ca cbb HRA.out HRB.out).mono ?_;rintro e w10 ⟨rfl, hb10⟩;have q10 := q9.below hb10;have hra10 := (HRA.out.below hb10).more hb10.size;have hrb10 := (HRB.out.below hb10).more hb10.size;clear m1 m2 m3 m4 f3 f4;have m1 := q10.is w.heap.size 2 24 #[.int .i64 (n : Int), .slice A l.length c] (by simp) 0 (by decide) (.int .i64 (n : Int)) rfl;have m2 := q10.is w.heap.size 2 24 #[.int .i64 (n : Int), .slice A l.length c] (by simp) 1 (by decide) (.slice A l.length c) rfl;have m3 := q10.is0 0 (by decide) (.int .u64 0) rfl;have m4 := q10.is0 1 (by decide) (.int .u64 0) rfl;have f3 := q10.row0.frozen 0;have f4 := q10.row0.frozen 1;clear hb10
      go_wp2_with fail
      refine (HSM.out _ _ _ ca cbb (HNT.out _ q10.bl) hra10 hrb10).mono ?_;rintro e w11 ⟨rfl, hb11⟩;have q11 := q10.below hb11;have hra11 := (hra10.below hb11).more hb11.size;have hrb11 := (hrb10.below hb11).more hb11.size;clear m1 m2 m3 m4 f3 f4;have m1 := q11.is w.heap.size 2 24 #[.int .i64 (n : Int), .slice A l.length c] (by simp) 0 (by decide) (.int .i64 (n : Int)) rfl;have m2 := q11.is w.heap.size 2 24 #[.int .i64 (n : Int), .slice A l.length c] (by simp) 1 (by decide) (.slice A l.length c) rfl;have m3 := q11.is0 0 (by decide) (.int .u64 0) rfl;have m4 := q11.is0 1 (by decide) (.int .u64 0) rfl;have f3 := q11.row0.frozen 0;have f4 := q11.row0.frozen 1;clear hb11 hra10 hrb10
      go_wp2_with fail
      refine (HDR3.out _ (HBS.out _ q11.bl)).mono ?_;rintro e w12 ⟨rfl, hb12⟩;have q12 := q11.below hb12;have hra12 := (hra11.below hb12).more hb12.size;have hrb12 := (hrb11.below hb12).more hb12.size;clear m1 m2 m3 m4 f3 f4;have m1 := q12.is w.heap.size 2 24 #[.int .i64 (n : Int), .slice A l.length c] (by simp) 0 (by decide) (.int .i64 (n : Int)) rfl;have m2 := q12.is w.heap.size 2 24 #[.int .i64 (n : Int), .slice A l.length c] (by simp) 1 (by decide) (.slice A l.length c) rfl;have m3 := q12.is0 0 (by decide) (.int .u64 0) rfl;have m4 := q12.is0 1 (by decide) (.int .u64 0) rfl;have f3 := q12.row0.frozen 0;have f4 := q12.row0.frozen 1;clear hb12 hra11 hrb11
      go_wp2_with fail
      refine (HCH3.out _ _ _ ca cbb (HNT.out _ q12.bl) hra12 hrb12).mono ?_;rintro e w13 ⟨rfl, hb13⟩;have q13 := q12.below hb13;clear m1 m2 m3 m4 f3 f4;have m1 := q13.is w.heap.size 2 24 #[.int .i64 (n : Int), .slice A l.length c] (by simp) 0 (by decide) (.int .i64 (n : Int)) rfl;have m2 := q13.is w.heap.size 2 24 #[.int .i64 (n : Int), .slice A l.length c] (by simp) 1 (by decide) (.slice A l.length c) rfl;have m3 := q13.is0 0 (by decide) (.int .u64 0) rfl;have m4 := q13.is0 1 (by decide) (.int .u64 0) rfl;have f3 := q13.row0.frozen 0;have f4 := q13.row0.frozen 1;clear hb13 hra12 hrb12
      go_wp2_with fail
      exact ret_take rfl (⟨choiceN ⟨(n : Int), l⟩ n wlo whi r, u, true, 0⟩) rfl rfl rfl rfl (pairRow (q13.rows (w.heap.size + 1, 30, 2, #[.int .u64 0, .int .u64 0]) (by simp)) _ _) rfl rfl rfl ⟨rfl, (q13.bl.setCell (by simp <;> omega) _).setCell (by simp <;> omega) _⟩
end Go.Proofs.YtgnobohfnhpkdaaGreatDoor
end
section
open Go Go.RowKit Cs
namespace Go.Proofs.YtgnobohfnhpkdaaGreatDoor
theorem prL_len (L : List ByteArray) : (prL L).length = L.length := by unfold prL; rw [List.length_map]
theorem rweighted_any (w : World) (N : Nt) (A Al Ah Ab : Option Addr) (c cl ch cb : Nat) (la lh : List ByteArray) (bs : List Nat) (hlen : N.l.length ≤ 140737488355328) (hN : NtAt w w.heap.size A N.l) (hn20 : vld N = true → N.n ≤ 20)
  (hoa : okL la la.length) (hoh : okL lh lh.length) (hrl : Rd w w.heap.size Al la.length (strF la)) (hrh : Rd w w.heap.size Ah lh.length (strF lh))
  (hlb : bs.length ≤ 1000000) (hbs : Rd w w.heap.size Ab bs.length (byF bs)) (hb8 : ∀ i, bs.getD i 0 < 256) :
  Calls Tryz.prog 22 #[ntV N A c, .slice Al la.length cl, .slice Ah lh.length ch, .slice Ab bs.length cb] w fun e w' => e = .returned (tkV (wgR N (prL la) (prL lh) bs)) ∧ Below w.heap.size w w' := by
 unfold wgR wchk;rw [prL_len, prL_len];by_cases hok : vld N = true ∧ (la.length : Int) = N.n + 1 ∧ (lh.length : Int) = N.n + 1
 ·rw [if_pos hok];obtain ⟨hv, e1, e2⟩ := hok;obtain ⟨hn0, hn1, _, _⟩ := vld_bounds hv;have h20 := hn20 hv
  have hn : N.n = ((N.n.toNat : Nat) : Int) := by omega
  have l1 : la.length = N.n.toNat + 1 := by omega
  have l2 : lh.length = N.n.toNat + 1 := by omega
  by_cases hc : cchk N = 0
  ·rw [if_pos hc]
   have hhv : ∀ W, Below w.heap.size w W → Calls Tryz.prog 42 #[.slice Al la.length cl, .slice Ah lh.length ch] W fun e w' => e = .returned (.bool (decide (16384 < sumB (prL la) N.n.toNat + sumB (prL lh) N.n.toNat))) ∧ Below W.heap.size W w' := fun W hb => by
    rw [l1] at hrl ⊢;rw [l2] at hrh ⊢;exact rheavy_any W N.n.toNat (by omega) la lh (prL la) (prL lh) Al Ah cl ch (la_tx hoa l1) (la_tx hoh l2) ((hrl.below hb).more hb.size) ((hrh.below hb).more hb.size)
   by_cases hh : 16384 < sumB (prL la) N.n.toNat + sumB (prL lh) N.n.toNat
   ·rw [if_pos hh, if_neg (by decide)];rw [decide_eq_true hh] at hhv;exact rw_no w N A Al Ah Ab c cl ch cb bs.length la lh 2 hlen hN (.inr (.inr (.inr (.inr ⟨hv, e1, e2, hc, rfl, hhv⟩))))
   ·rw [if_neg hh, if_pos rfl];rw [l1] at hrl ⊢;rw [l2] at hrh ⊢;exact rw_go w N A Al Ah Ab c cl ch cb N.n.toNat la lh bs hn (by omega) hlen hN hc hoa hoh l1 l2 hh hrl hrh hlb hbs hb8
  ·rw [if_neg hc, if_neg hc];exact rw_no w N A Al Ah Ab c cl ch cb bs.length la lh _ hlen hN (.inr (.inr (.inr (.inl ⟨hv, e1, e2, hc, rfl⟩))))
 ·rw [if_neg hok, if_neg (by decide)];cases hv : vld N
  ·exact rw_no w N A Al Ah Ab c cl ch cb bs.length la lh 1 hlen hN (.inl ⟨hv, rfl⟩)
  ·by_cases e1 : (la.length : Int) = N.n + 1
   ·by_cases e2 : (lh.length : Int) = N.n + 1
    ·exact absurd ⟨hv, e1, e2⟩ hok
    ·exact rw_no w N A Al Ah Ab c cl ch cb bs.length la lh 1 hlen hN (.inr (.inr (.inl ⟨hv, e1, e2, rfl⟩)))
   ·exact rw_no w N A Al Ah Ab c cl ch cb bs.length la lh 1 hlen hN (.inr (.inl ⟨hv, e1, rfl⟩))
def onesT (n : Nat) : List ByteArray := List.replicate (n + 1) (dec 1)
theorem onesT_get (n i : Nat) (h : i < n + 1) : (onesT n).getD i ⟨#[]⟩ = dec 1 := by
 unfold onesT
 rw [List.getD_eq_getElem?_getD, List.getElem?_replicate, if_pos h]; rfl
theorem onesT_ok (n : Nat) : okL (onesT n) (onesT n).length := fun i hi => by
 rw [onesT_get n i (by unfold onesT at hi; simpa using hi), dec_one];exact ⟨⟨_, rd1⟩, by decide⟩
theorem onesT_pr (n : Nat) : prL (onesT n) = onesP n := by
 unfold prL onesT onesP;rw [List.map_replicate, dec_one, prT_of rd1 (p := (1, 1)) (by decide +kernel)]
theorem ones_wst (n : Nat) : (wSt (onesP n) (onesP n) (n + 1)).1 = onesP n ∧ (wSt (onesP n) (onesP n) (n + 1)).2 = onesP n := by
 have hl : (onesP n).length = n + 1 := by unfold onesP; simp
 obtain ⟨l1, l2⟩ := wSt_len (onesP n) (onesP n) (n + 1);have g := fun k => wSt_at hl hl k
 have hf : fL (1, 1) (1, 1) = 1 ∧ fH (1, 1) (1, 1) = 1 := by decide +kernel
 have ext : ∀ L : List Pr, L.length = n + 1 → (∀ k, L.getD k (0, 0) = (onesP n).getD k (0, 0)) → L = onesP n := fun L h1 h2 => by
  refine List.ext_getElem (by omega) fun i a b => ?_;have := h2 i;rw [List.getD_eq_getElem?_getD, List.getElem?_eq_getElem a, List.getD_eq_getElem?_getD, List.getElem?_eq_getElem b] at this;exact this
 constructor
 ·refine ext _ (by omega) fun k => ?_;rw [(g k).1, onesP_get];split
  ·rw [hf.1]; rfl
  ·rfl
 ·refine ext _ (by omega) fun k => ?_;rw [(g k).2, onesP_get];split
  ·rw [hf.2]; rfl
  ·rfl
theorem wg_ones {N : Nt} {n : Nat} (hn : N.n = (n : Int)) (hn2 : n ≤ 128) (hc : cchk N = 0) (bs : List Nat) : wgR N (onesP n) (onesP n) bs = dwR N bs := by
 have hv := cchk_vld hc
 have hl : (onesP n).length = n + 1 := by unfold onesP; simp
 have htn : N.n.toNat = n := by omega
 have hw : wchk N (onesP n) (onesP n) = 0 := by
  unfold wchk;rw [if_pos ⟨hv, by omega, by omega⟩, if_pos hc, htn, ones_bits n n (zqn _), if_neg (by omega)]
 unfold wgR;rw [if_pos hw, htn, (ones_wst n).1, (ones_wst n).2, dw_tk hv hn hn2 bs hc]
theorem rones36_any (w : World) (n : Nat) (hn : n ≤ 128) : Calls Tryz.prog 29 #[.int .i64 (n : Int)] w fun e w' => ∃ g cap, e = .returned (.slice (some ⟨g, 0, none⟩) (n + 1) cap) ∧ Rd w' w'.heap.size (some ⟨g, 0, none⟩) (n + 1) (strF (onesT n)) ∧ Below w.heap.size w w' := by
 obtain ⟨ti, hti, ht0, ht1, ht2⟩ := info_parts info_str;have h1 := dec_one
 have HX : Hid (∀ m, (List.replicate (n + 1) 1 : List Nat).getD m 0 = if m < n + 1 then 1 else 0) := zqh fun m => by
  rw [List.getD_eq_getElem?_getD, List.getElem?_replicate]
  split <;> rfl
 have HM : Hid ((List.replicate (n + 1) 1 : List Nat).map dec = onesT n) := zqh (by unfold onesT; rw [List.map_replicate]);obtain ⟨X, hX⟩ : ∃ X, (List.replicate (n + 1) 1 : List Nat) = X := ⟨_, rfl⟩
 have hXl : X.length = n + 1 := by rw [← hX]; simp
 rw [hX] at HX HM;have H1 := zqh h1;have HXL := zqh hXl;clear h1 hX hXl
 go_enter Tryz.func29, Tryz.ntmps29
 go_wp2_with fail
 go_loopw [3, 4] (fun a t wr => ∃ k : Nat, k ≤ n + 1 ∧ t = .int .i64 (k : Int) ∧ OwnS w 9 a k X wr) (fun _ t _ => n + 1 - (intOf t).toNat)
 case atStart => exact ⟨0, by omega, rfl, ⟨World.ownsRow_nil _ _ _ _, zqr _ _⟩⟩
 case round =>
  obtain ⟨k, hk, rfl, ho⟩ := hrel;rcases Nat.lt_or_ge k (n + 1) with hlt | hge
  ·have d1 : decide ((k : Int) ≤ (n : Int)) = true := decide_eq_true (by omega);have ho2 := ho.below ((zqr _ _).alloc (zqn _) (.cells #[.string ⟨#[49]⟩] 9));have own2 := ho2.own;have z2 := ho2.bl.size;have HO2 := zqh ho2;have hxk := HX.out k;rw [if_pos hlt] at hxk;have HXK := zqh hxk;clear ho ho2 hxk
   go_wp2_with (
    at_builtin
    refine wpList_append_own2 _ rfl _ _ 43 rfl w.heap.size 9 ti (.string ⟨#[]⟩) 1 16 Tryz.underlying43 hti ht0 ht1 ht2 rfl (by decide) _ _ _ rfl own2 ⟨wr.heap.size, 0, none⟩ 1 1 [.string ⟨#[49]⟩] rfl rfl newOne oneStrV (by unfold maxLen; omega) (by omega) z2 ?_;intro v4 w4 hown4 hgr4 hwh4;rw [← H1.out] at hown4;have ho4 := HO2.out.next HXK.out hown4 hgr4
    clear own2 hown4 hgr4 hwh4 z2)
   exact ⟨⟨k + 1, by omega, by go_num, ho4⟩, by simp [intOf]; omega⟩
  ·obtain rfl : k = n + 1 := by omega
   have d1 : decide (((n + 1 : Nat) : Int) ≤ (n : Int)) = false := decide_eq_false (by omega);have d2 : decide ((n : Int) + 1 ≤ (n : Int)) = false := decide_eq_false (by omega);obtain ⟨g, cap, rfl, hr⟩ := ho.rd;have hb := ho.bl
   have hr2 := hr.congr (g := strF (onesT n)) fun i hi => by rw [strF_dec X (n + 1) i (by rw [HXL.out]; exact hi), HM.out]
   clear ho hr
   go_wp2_with fail
   go_ret
   exact ⟨g, cap, rfl, hr2, hb⟩
theorem rdrawn_any (w : World) (N : Nt) (A Ab : Option Addr) (c cb : Nat) (bs : List Nat) (hlen : N.l.length ≤ 140737488355328) (hN : NtAt w w.heap.size A N.l) (hn20 : vld N = true → N.n ≤ 20)
  (hlb : bs.length ≤ 1000000) (hbs : Rd w w.heap.size Ab bs.length (byF bs)) (hb8 : ∀ i, bs.getD i 0 < 256) :
  Calls Tryz.prog 13 #[ntV N A c, .slice Ab bs.length cb] w fun e w' => e = .returned (tkV (dwR N bs)) ∧ Below w.heap.size w w' := by
 have hck := fun W hN => rcheck_any W N A c hlen hN;obtain ⟨E, hE⟩ : ∃ E, cchk N = E := ⟨_, rfl⟩;rw [hE] at hck;have HCK := zqh hck;clear hck;by_cases h0 : E = 0
 ·subst h0;have hv := cchk_vld hE;obtain ⟨hn0, hn1, _, _⟩ := vld_bounds hv;have h20 := hn20 hv;obtain ⟨Nn, l⟩ := N;obtain ⟨n, hn⟩ : ∃ n : Nat, Nn = (n : Int) := ⟨Nn.toNat, by simp only at hn0; omega⟩;subst hn
  have hn2 : n ≤ 20 := by simp only at h20; omega
  have hwg : ∀ W Al Ah cl ch, Below w.heap.size w W → Rd W W.heap.size Al (n + 1) (strF (onesT n)) → Rd W W.heap.size Ah (n + 1) (strF (onesT n)) →
    Calls Tryz.prog 22 #[.agg #[.int .i64 (n : Int), .slice A l.length c], .slice Al (n + 1) cl, .slice Ah (n + 1) ch, .slice Ab bs.length cb] W fun e w' => e = .returned (tkV (dwR ⟨(n : Int), l⟩ bs)) ∧ Below W.heap.size W w' := fun W Al Ah cl ch hb h1 h2 => by
   have hlT : (onesT n).length = n + 1 := by unfold onesT; simp
   have := rweighted_any W ⟨(n : Int), l⟩ A Al Ah Ab c cl ch cb (onesT n) (onesT n) bs hlen ((hN.below hb).more hb.size) hn20 (onesT_ok n) (onesT_ok n) (by rw [hlT]; exact h1) (by rw [hlT]; exact h2) hlb ((hbs.below hb).more hb.size) hb8;rw [onesT_pr, wg_ones rfl (by omega) hE, hlT] at this;exact this
  obtain ⟨T, hT⟩ : ∃ T, dwR ⟨(n : Int), l⟩ bs = T := ⟨_, rfl⟩;simp only [hT] at hwg ⊢;obtain ⟨Ta, Tu, To, Te⟩ := T
  have hwg' : ∀ W Al Ah cl ch, Below w.heap.size w W → Rd W W.heap.size Al (n + 1) (strF (List.replicate (n + 1) (dec 1))) → Rd W W.heap.size Ah (n + 1) (strF (List.replicate (n + 1) (dec 1))) →
    Calls Tryz.prog 22 #[.agg #[.int .i64 (n : Int), .slice A l.length c], .slice Al (n + 1) cl, .slice Ah (n + 1) ch, .slice Ab bs.length cb] W fun e w' => e = .returned (.tuple #[.agg #[.int .u64 (Cs.lo Ta : Int), .int .u64 (Cs.hi Ta : Int)], .int .i64 (Tu : Int), .bool To, .int .i64 Te]) ∧ Below W.heap.size W w' := hwg
  have HWG := zqh hwg';have hon : ∀ W, Calls Tryz.prog 29 #[.int .i64 (n : Int)] W fun e w' => ∃ g cap, e = .returned (.slice (some ⟨g, 0, none⟩) (n + 1) cap) ∧ Rd w' w'.heap.size (some ⟨g, 0, none⟩) (n + 1) (strF (List.replicate (n + 1) (dec 1))) ∧ Below W.heap.size W w' := fun W => rones36_any W n (by omega);have HON := zqh hon;have q0 := ((Bag.zero w).new #[.int .i64 (n : Int), .slice A l.length c] 24 w.heap.size 2 rfl rfl).new #[.int .u64 0, .int .u64 0] 30 (w.heap.size + 1) 2 (by simp) rfl;have HNT := zqh (fun W (hb : Below w.heap.size w W) => (hN.below hb).more hb.size);clear hwg hwg' hon hT hE hv hn0 hn1 h20 hn20 hN hbs hb8 hlb
  go_enter Tryz.func13, Tryz.ntmps13
  go_wp2_with fail
  refine (HCK.out _ (HNT.out _ q0.bl)).mono ?_;rintro e w1 ⟨rfl, hb1⟩;have q1 := q0.below hb1;have s1 := q1.is w.heap.size 2 24 #[.int .i64 (n : Int), .slice A l.length c] (by simp) 0 (by decide) (.int .i64 (n : Int)) rfl;have s2 := q1.is w.heap.size 2 24 #[.int .i64 (n : Int), .slice A l.length c] (by simp) 1 (by decide) (.slice A l.length c) rfl;have ln := (q1.rows (w.heap.size, 24, 2, #[.int .i64 (n : Int), .slice A l.length c]) (by simp)).lt;clear hb1
  go_wp2_with fail
  have hq4 : ∀ W, Below w1.heap.size w1 W → W.cell? ⟨w.heap.size + 1, 0, none⟩ = some (.int .u64 0) ∧ W.cell? ⟨w.heap.size + 1, 1, none⟩ = some (.int .u64 0) ∧ W.frozen? ⟨w.heap.size + 1, 0, none⟩ = false ∧ W.frozen? ⟨w.heap.size + 1, 1, none⟩ = false := fun W hb =>
   ⟨(q1.below hb).is0 0 (by decide) (.int .u64 0) rfl, (q1.below hb).is0 1 (by decide) (.int .u64 0) rfl, (q1.below hb).row0.frozen 0, (q1.below hb).row0.frozen 1⟩
  have HQ4 := zqh hq4;clear hq4;have HS : Hid (∀ W, Below w1.heap.size w1 W → W.cell? ⟨w.heap.size, 0, none⟩ = some (.int .i64 (n : Int)) ∧ W.cell? ⟨w.heap.size, 1, none⟩ = some (.slice A l.length c)) := zqh fun W hb => ⟨(hb.cell (p := ⟨w.heap.size, 0, none⟩) ln).trans s1, (hb.cell (p := ⟨w.heap.size, 1, none⟩) ln).trans s2⟩
  refine wp_region_props (n := _) (PX := [fun xl xv xw => xv = .agg #[.int .i64 (n : Int), .slice A l.length c],
     fun xl xv xw => xv = .pointer (some ⟨w.heap.size, 0, none⟩),
     fun xl xv xw => xv = .int .i64 (n : Int),
     fun xl xv xw => ∃ g cap, xv = .slice (some ⟨g, 0, none⟩) (n + 1) cap ∧ Rd xw (xw).heap.size (some ⟨g, 0, none⟩) (n + 1) (strF (List.replicate (n + 1) (dec 1))),
     fun xl xv xw => xv = .pointer (some ⟨w.heap.size, 0, none⟩),
     fun xl xv xw => xv = .int .i64 (n : Int),
     fun xl xv xw => ∃ g cap, xv = .slice (some ⟨g, 0, none⟩) (n + 1) cap ∧ Rd xw (xw).heap.size (some ⟨g, 0, none⟩) (n + 1) (strF (List.replicate (n + 1) (dec 1))),
     fun xl xv xw => xv = .slice Ab bs.length cb,
     fun xl xv xw => xv = .tuple #[.agg #[.int .u64 (Cs.lo Ta : Int), .int .u64 (Cs.hi Ta : Int)], .int .i64 (Tu : Int), .bool To, .int .i64 Te],
     fun xl xv xw => xv = .agg #[.int .u64 (Cs.lo Ta : Int), .int .u64 (Cs.hi Ta : Int)],
     fun xl xv xw => xv = .int .i64 (Tu : Int),
     fun xl xv xw => xv = .bool To,
     fun xl xv xw => xv = .int .i64 Te])
    (AL := []) (DP := [[], [], [1], [2], [], [4], [5], [], [0, 3, 6, 7], [8], [8], [8], [8]]) (L1 := [0, 1, 2, 3, 4, 5, 6, 7, 8, 9, 10, 11, 12]) (ex := []) (by kernel_rfl) rfl (by kernel_rfl) ?_ ?_ (fin0 ?_)
  ·refine List.forall_mem_cons.2 ⟨?_, List.forall_mem_cons.2 ⟨?_, List.forall_mem_cons.2 ⟨?_, List.forall_mem_cons.2 ⟨?_, List.forall_mem_cons.2 ⟨?_, List.forall_mem_cons.2 ⟨?_, List.forall_mem_cons.2 ⟨?_, List.forall_mem_cons.2 ⟨?_, List.forall_mem_cons.2 ⟨?_, List.forall_mem_cons.2 ⟨?_, List.forall_mem_cons.2 ⟨?_, List.forall_mem_cons.2 ⟨?_, List.forall_mem_cons.2 ⟨?_, List.forall_mem_nil _⟩⟩⟩⟩⟩⟩⟩⟩⟩⟩⟩⟩⟩
   ·exact fun _ _ _ _ h _ => h
   ·exact fun _ _ _ _ h _ => h
   ·exact fun _ _ _ _ h _ => h
   ·exact fun l v w w2 h hb => by obtain ⟨g, cap, h1, h2⟩ := h; exact ⟨g, cap, h1, (h2.below hb).more hb.size⟩
   ·exact fun _ _ _ _ h _ => h
   ·exact fun _ _ _ _ h _ => h
   ·exact fun l v w w2 h hb => by obtain ⟨g, cap, h1, h2⟩ := h; exact ⟨g, cap, h1, (h2.below hb).more hb.size⟩
   ·exact fun _ _ _ _ h _ => h
   ·exact fun _ _ _ _ h _ => h
   ·exact fun _ _ _ _ h _ => h
   ·exact fun _ _ _ _ h _ => h
   ·exact fun _ _ _ _ h _ => h
   ·exact fun _ _ _ _ h _ => h
  ·refine List.forall_mem_cons.2 ⟨?_, List.forall_mem_cons.2 ⟨?_, List.forall_mem_cons.2 ⟨?_, List.forall_mem_cons.2 ⟨?_, List.forall_mem_cons.2 ⟨?_, List.forall_mem_cons.2 ⟨?_, List.forall_mem_cons.2 ⟨?_, List.forall_mem_cons.2 ⟨?_, List.forall_mem_cons.2 ⟨?_, List.forall_mem_cons.2 ⟨?_, List.forall_mem_cons.2 ⟨?_, List.forall_mem_cons.2 ⟨?_, List.forall_mem_cons.2 ⟨?_, List.forall_mem_nil _⟩⟩⟩⟩⟩⟩⟩⟩⟩⟩⟩⟩⟩
   ·refine StepOk.intro rfl [] (by kernel_rfl) ?_;intro vs W hW0 hd K hK;have hW : Below w1.heap.size w1 W := zqx (belowDrewN (zqr _ _) 1) hW0 (zqn _);clear hd
    try simp only [putsD, Act.put, zqa, zqb, zqc, zqd, zqe, zqf] at hK ⊢
    obtain ⟨m1, m2⟩ := HS.out W hW
    go_simp
    exact hK.out _ _ rfl (zqr _ _) (fun h => absurd h (by decide))
   ·refine StepOk.intro rfl [] (by kernel_rfl) ?_;intro vs W hW0 hd K hK;have hW : Below w1.heap.size w1 W := zqx (belowDrewN (zqr _ _) 1) hW0 (zqn _);clear hd
    try simp only [putsD, Act.put, zqa, zqb, zqc, zqd, zqe, zqf] at hK ⊢
    obtain ⟨m1, m2⟩ := HS.out W hW
    go_simp
    exact hK.out _ _ rfl (zqr _ _) (fun h => absurd h (by decide))
   ·refine StepOk.intro rfl [(1, some 16)] (by kernel_rfl) ?_;intro vs W hW0 hd K hK;have hW : Below w1.heap.size w1 W := zqx (belowDrewN (zqr _ _) 1) hW0 (zqn _);have d1 : vs 1 = .pointer (some ⟨w.heap.size, 0, none⟩) := hd 1 (by decide);clear hd
    try simp only [d1, putsD, Act.put, zqa, zqb, zqc, zqd, zqe, zqf] at hK ⊢
    obtain ⟨m1, m2⟩ := HS.out W hW
    go_simp
    exact hK.out _ _ rfl (zqr _ _) (fun h => absurd h (by decide))
   ·refine StepOk.intro rfl [(2, some 17)] (by kernel_rfl) ?_;intro vs W hW0 hd K hK;have hW : Below w1.heap.size w1 W := zqx (belowDrewN (zqr _ _) 1) hW0 (zqn _);have d2 : vs 2 = .int .i64 (n : Int) := hd 2 (by decide);clear hd
    try simp only [d2, putsD, Act.put, zqa, zqb, zqc, zqd, zqe, zqf] at hK ⊢
    go_simp
    go_at_call 29
    (with_reducible first | refine (HON.out _).mono ?_)
    rintro e w9 ⟨g9, cap9, rfl, hr9, hb9⟩;exact hK.out _ _ (⟨g9, cap9, rfl, hr9⟩) hb9 (fun h => absurd h (by decide))
   ·refine StepOk.intro rfl [] (by kernel_rfl) ?_;intro vs W hW0 hd K hK;have hW : Below w1.heap.size w1 W := zqx (belowDrewN (zqr _ _) 1) hW0 (zqn _);clear hd
    try simp only [putsD, Act.put, zqa, zqb, zqc, zqd, zqe, zqf] at hK ⊢
    obtain ⟨m1, m2⟩ := HS.out W hW
    go_simp
    exact hK.out _ _ rfl (zqr _ _) (fun h => absurd h (by decide))
   ·refine StepOk.intro rfl [(4, some 19)] (by kernel_rfl) ?_;intro vs W hW0 hd K hK;have hW : Below w1.heap.size w1 W := zqx (belowDrewN (zqr _ _) 1) hW0 (zqn _);have d4 : vs 4 = .pointer (some ⟨w.heap.size, 0, none⟩) := hd 4 (by decide);clear hd
    try simp only [d4, putsD, Act.put, zqa, zqb, zqc, zqd, zqe, zqf] at hK ⊢
    obtain ⟨m1, m2⟩ := HS.out W hW
    go_simp
    exact hK.out _ _ rfl (zqr _ _) (fun h => absurd h (by decide))
   ·refine StepOk.intro rfl [(5, some 20)] (by kernel_rfl) ?_;intro vs W hW0 hd K hK;have hW : Below w1.heap.size w1 W := zqx (belowDrewN (zqr _ _) 1) hW0 (zqn _);have d5 : vs 5 = .int .i64 (n : Int) := hd 5 (by decide);clear hd
    try simp only [d5, putsD, Act.put, zqa, zqb, zqc, zqd, zqe, zqf] at hK ⊢
    go_simp
    go_at_call 29
    (with_reducible first | refine (HON.out _).mono ?_)
    rintro e w9 ⟨g9, cap9, rfl, hr9, hb9⟩;exact hK.out _ _ (⟨g9, cap9, rfl, hr9⟩) hb9 (fun h => absurd h (by decide))
   ·refine StepOk.intro rfl [] (by kernel_rfl) ?_;intro vs W hW0 hd K hK;have hW : Below w1.heap.size w1 W := zqx (belowDrewN (zqr _ _) 1) hW0 (zqn _);clear hd
    try simp only [putsD, Act.put, zqa, zqb, zqc, zqd, zqe, zqf] at hK ⊢
    go_simp
    exact hK.out _ _ rfl (zqr _ _) (fun h => absurd h (by decide))
   ·refine StepOk.intro rfl [(0, some 15), (3, some 18), (6, some 21), (7, some 22)] (by kernel_rfl) ?_;intro vs W hW0 hd K hK;have hW : Below w1.heap.size w1 W := zqx (belowDrewN (zqr _ _) 1) hW0 (zqn _);have d0 : vs 0 = .agg #[.int .i64 (n : Int), .slice A l.length c] := hd 0 (by decide);obtain ⟨g18, cap18, d3, hr18⟩ : ∃ g cap, vs 3 = .slice (some ⟨g, 0, none⟩) (n + 1) cap ∧ Rd W (W).heap.size (some ⟨g, 0, none⟩) (n + 1) (strF (List.replicate (n + 1) (dec 1))) := hd 3 (by decide);obtain ⟨g21, cap21, d6, hr21⟩ : ∃ g cap, vs 6 = .slice (some ⟨g, 0, none⟩) (n + 1) cap ∧ Rd W (W).heap.size (some ⟨g, 0, none⟩) (n + 1) (strF (List.replicate (n + 1) (dec 1))) := hd 6 (by decide);have d7 : vs 7 = .slice Ab bs.length cb := hd 7 (by decide);clear hd
    try simp only [d0, d3, d6, d7, putsD, Act.put, zqa, zqb, zqc, zqd, zqe, zqf] at hK ⊢
    go_simp
    go_at_call 22
    (with_reducible first | refine (HWG.out W (some ⟨g18, 0, none⟩) (some ⟨g21, 0, none⟩) cap18 cap21 (zqx q1.bl hW q1.bl.size) hr18 hr21).mono ?_)
    rintro e w9 ⟨rfl, hb9⟩;exact hK.out _ _ (rfl) hb9 (fun h => absurd h (by decide))
   ·refine StepOk.intro rfl [(8, some 23)] (by kernel_rfl) ?_;intro vs W hW0 hd K hK;have hW : Below w1.heap.size w1 W := zqx (belowDrewN (zqr _ _) 1) hW0 (zqn _);have d8 : vs 8 = .tuple #[.agg #[.int .u64 (Cs.lo Ta : Int), .int .u64 (Cs.hi Ta : Int)], .int .i64 (Tu : Int), .bool To, .int .i64 Te] := hd 8 (by decide);clear hd
    try simp only [d8, putsD, Act.put, zqa, zqb, zqc, zqd, zqe, zqf] at hK ⊢
    go_simp
    exact hK.out _ _ rfl (zqr _ _) (fun h => absurd h (by decide))
   ·refine StepOk.intro rfl [(8, some 23)] (by kernel_rfl) ?_;intro vs W hW0 hd K hK;have hW : Below w1.heap.size w1 W := zqx (belowDrewN (zqr _ _) 1) hW0 (zqn _);have d8 : vs 8 = .tuple #[.agg #[.int .u64 (Cs.lo Ta : Int), .int .u64 (Cs.hi Ta : Int)], .int .i64 (Tu : Int), .bool To, .int .i64 Te] := hd 8 (by decide);clear hd
    try simp only [d8, putsD, Act.put, zqa, zqb, zqc, zqd, zqe, zqf] at hK ⊢
    go_simp
    exact hK.out _ _ rfl (zqr _ _) (fun h => absurd h (by decide))
   ·refine StepOk.intro rfl [(8, some 23)] (by kernel_rfl) ?_;intro vs W hW0 hd K hK;have hW : Below w1.heap.size w1 W := zqx (belowDrewN (zqr _ _) 1) hW0 (zqn _);have d8 : vs 8 = .tuple #[.agg #[.int .u64 (Cs.lo Ta : Int), .int .u64 (Cs.hi Ta : Int)], .int .i64 (Tu : Int), .bool To, .int .i64 Te] := hd 8 (by decide);clear hd
    try simp only [d8, putsD, Act.put, zqa, zqb, zqc, zqd, zqe, zqf] at hK ⊢
    go_simp
    exact hK.out _ _ rfl (zqr _ _) (fun h => absurd h (by decide))
   ·refine StepOk.intro rfl [(8, some 23)] (by kernel_rfl) ?_;intro vs W hW0 hd K hK;have hW : Below w1.heap.size w1 W := zqx (belowDrewN (zqr _ _) 1) hW0 (zqn _);have d8 : vs 8 = .tuple #[.agg #[.int .u64 (Cs.lo Ta : Int), .int .u64 (Cs.hi Ta : Int)], .int .i64 (Tu : Int), .bool To, .int .i64 Te] := hd 8 (by decide);clear hd
    try simp only [d8, putsD, Act.put, zqa, zqb, zqc, zqd, zqe, zqf] at hK ⊢
    go_simp
    exact hK.out _ _ rfl (zqr _ _) (fun h => absurd h (by decide))
  refine FinOk.intro [(0, some 15), (1, some 16), (2, some 17), (3, some 18), (4, some 19), (5, some 20), (6, some 21), (7, some 22), (8, some 23), (9, some 24), (10, some 25), (11, some 26), (12, some 27)] #[true, true, true, true, true, true, true, true, true, true, true, true, true, false, false, false, false] 4 (by kernel_rfl) (by kernel_rfl) (by kernel_rfl) ?_;intro vs Wf hW0 hd hbk hdis kf;have hW : Below w1.heap.size w1 Wf := zqx (belowDrewN (zqr _ _) 1) hW0 (zqn _);have d0 : vs 0 = .agg #[.int .i64 (n : Int), .slice A l.length c] := hd 0 (by decide);have d1 : vs 1 = .pointer (some ⟨w.heap.size, 0, none⟩) := hd 1 (by decide);have d2 : vs 2 = .int .i64 (n : Int) := hd 2 (by decide);obtain ⟨g18, cap18, d3, hr18⟩ : ∃ g cap, vs 3 = .slice (some ⟨g, 0, none⟩) (n + 1) cap ∧ Rd Wf (Wf).heap.size (some ⟨g, 0, none⟩) (n + 1) (strF (List.replicate (n + 1) (dec 1))) := hd 3 (by decide);have d4 : vs 4 = .pointer (some ⟨w.heap.size, 0, none⟩) := hd 4 (by decide);have d5 : vs 5 = .int .i64 (n : Int) := hd 5 (by decide);obtain ⟨g21, cap21, d6, hr21⟩ : ∃ g cap, vs 6 = .slice (some ⟨g, 0, none⟩) (n + 1) cap ∧ Rd Wf (Wf).heap.size (some ⟨g, 0, none⟩) (n + 1) (strF (List.replicate (n + 1) (dec 1))) := hd 6 (by decide);have d7 : vs 7 = .slice Ab bs.length cb := hd 7 (by decide);have d8 : vs 8 = .tuple #[.agg #[.int .u64 (Cs.lo Ta : Int), .int .u64 (Cs.hi Ta : Int)], .int .i64 (Tu : Int), .bool To, .int .i64 Te] := hd 8 (by decide);have d9 : vs 9 = .agg #[.int .u64 (Cs.lo Ta : Int), .int .u64 (Cs.hi Ta : Int)] := hd 9 (by decide);have d10 : vs 10 = .int .i64 (Tu : Int) := hd 10 (by decide);have d11 : vs 11 = .bool To := hd 11 (by decide);have d12 : vs 12 = .int .i64 Te := hd 12 (by decide);clear hd hbk hdis hW0
  try simp only [d0, d1, d2, d3, d4, d5, d6, d7, d8, d9, d10, d11, d12, putsD, Act.put, zqa, zqb, zqc, zqd, zqe, zqf]
  clear d0 d1 d2 d3 d4 d5 d6 d7 d8 d9 d10 d11 d12 vs;clear HS;obtain ⟨j1, j2, j3, j4⟩ := HQ4.out Wf hW;refine wpAny_one1 13 (by kernel_rfl) rfl (fun K hK => ?_)
  go_simp
  refine hK.out _ _ ?_;clear hK K
  try simp only [putsD, Act.put, zqa, zqb, zqc, zqd, zqe, zqf]
  refine wpAny_one1 14 (by kernel_rfl) rfl (fun K hK => ?_)
  go_simp
  refine hK.out _ _ ?_;clear hK K
  try simp only [putsD, Act.put, zqa, zqb, zqc, zqd, zqe, zqf]
  refine wpAny_one1 15 (by kernel_rfl) rfl (fun K hK => ?_)
  go_simp
  refine hK.out _ _ ?_;clear hK K
  try simp only [putsD, Act.put, zqa, zqb, zqc, zqd, zqe, zqf]
  refine wpAny_one1 16 (by kernel_rfl) rfl (fun K hK => ?_)
  go_simp
  refine hK.out _ _ ?_;clear hK K
  try simp only [putsD, Act.put, zqa, zqb, zqc, zqd, zqe, zqf]
  refine wpAny_end (by kernel_rfl) ?_ _
  go_wp2_with fail
  exact ret_take rfl (⟨Ta, Tu, To, Te⟩) rfl rfl rfl rfl (pairRow ((q1.below hW).rows (w.heap.size + 1, 30, 2, #[.int .u64 0, .int .u64 0]) (by simp)) _ _) rfl rfl rfl ⟨rfl, ((q1.below hW).bl.setCell (by simp <;> omega) _).setCell (by simp <;> omega) _⟩
 ·have hb0 : (E == 0) = false := beq_eq_false_iff_ne.2 h0
  have hb1 : (E != 0) = true := by simp [bne, hb0]
  have hR : dwR N bs = Tk.no E := by unfold dwR; rw [hE, if_neg h0]
  rw [hR];obtain ⟨Nn, l⟩ := N;have q0 := ((Bag.zero w).new #[.int .i64 Nn, .slice A l.length c] 24 w.heap.size 2 rfl rfl).new #[.int .u64 0, .int .u64 0] 30 (w.heap.size + 1) 2 (by simp) rfl;have HNT := zqh (fun W (hb : Below w.heap.size w W) => (hN.below hb).more hb.size);clear hE h0 hR hN hbs hb8 hlb hn20
  go_enter Tryz.func13, Tryz.ntmps13
  go_wp2_with fail
  refine (HCK.out _ (HNT.out _ q0.bl)).mono ?_;rintro e w1 ⟨rfl, hb9⟩;have q1 := q0.below hb9;have m3 := q1.is0 0 (by decide) (.int .u64 0) rfl;have m4 := q1.is0 1 (by decide) (.int .u64 0) rfl;have f3 := q1.row0.frozen 0;have f4 := q1.row0.frozen 1;clear hb9
  go_wp2_with fail
  exact ret_take rfl (Tk.no E) rfl rfl rfl rfl (pairRow (q1.rows (w.heap.size + 1, 30, 2, #[.int .u64 0, .int .u64 0]) (by simp)) _ _) (no_lo _ _) (no_hi _ _) rfl ⟨rfl, (q1.bl.setCell (by simp <;> omega) _).setCell (by simp <;> omega) _⟩
end Go.Proofs.YtgnobohfnhpkdaaGreatDoor
end
