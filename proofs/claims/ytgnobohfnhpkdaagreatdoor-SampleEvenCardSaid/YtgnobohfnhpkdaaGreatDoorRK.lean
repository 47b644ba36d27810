import Derived.Test.YtgnobohfnhpkdaaGreatDoorRI
import Derived.Test.YtgnobohfnhpkdaaGreatDoorRC
import Derived.Test.YtgnobohfnhpkdaaGreatDoorRE
import Derived.Test.YtgnobohfnhpkdaaGreatDoorAo
set_option linter.unusedSimpArgs false
set_option linter.unusedVariables false
set_option maxRecDepth 100000
set_option maxHeartbeats 4000000
section
open Go Go.RowKit Cs
namespace Cs
def polyL (x : Nat) : List Nat := if x = 0 then [] else [x]
theorem polyL_len (x : Nat) : (polyL x).length ≤ 1 := by unfold polyL; split <;> simp
theorem polyL_ev (x : Nat) : ev (polyL x) = x := by
 unfold polyL;split
 ·rename_i h; rw [h]; rfl
 ·simp [ev]
theorem polyL_num (x : Nat) : numP (polyL x) x := ⟨polyL_len x, polyL_ev x⟩
def lwOf (X : List Nat) : List (List Nat) := X.map polyL
theorem lwOf_len (X : List Nat) : (lwOf X).length = X.length := by unfold lwOf; rw [List.length_map]
theorem lwOf_get (X : List Nat) (i : Nat) : (lwOf X).getD i [] = polyL (X.getD i 0) := by
 unfold lwOf;rw [List.getD_eq_getElem?_getD, List.getD_eq_getElem?_getD, List.getElem?_map];rcases Nat.lt_or_ge i X.length with h | h
 ·rw [List.getElem?_eq_getElem h]; rfl
 ·rw [List.getElem?_eq_none h]; rfl
theorem lwOf_wob {X Y : List Nat} {b : Nat} (hX : ∀ i, X.getD i 0 ≤ 2 ^ b) (hY : ∀ i, Y.getD i 0 ≤ 2 ^ b) : WOB b (lwOf X) (lwOf Y) := fun i => by
 rw [lwOf_get, lwOf_get, polyL_ev, polyL_ev];have h1 := polyL_len (X.getD i 0);have h2 := polyL_len (Y.getD i 0);exact ⟨h1, hX i, by omega, hY i⟩
def WX (X Y : List Nat) (l : Int) : Nat := if 0 < l then Y.getD l.toNat 0 else X.getD (-l).toNat 0
def bdP (n : Nat) : List Pr := List.replicate (n + 1) (2 ^ 100, 1)
theorem bdP_get (n k : Nat) : (bdP n).getD k (0, 0) = if k < n + 1 then (2 ^ 100, 1) else (0, 0) := by
 unfold bdP;rw [List.getD_eq_getElem?_getD, List.getElem?_replicate]
 split <;> rfl
theorem bd_lp : Lp (2 ^ 100, 1) := by unfold Lp Lt; decide +kernel
theorem bd_s0 : S0 (2 ^ 100, 1) := by unfold S0; decide +kernel
theorem bd_bits : pbits (2 ^ 100, 1) = 102 := by decide +kernel
theorem bdP_in (n : Nat) : WtIn n (bdP n) (bdP n) := by
 have h1 : ∀ k, Lp ((bdP n).getD k (0, 0)) ∧ S0 ((bdP n).getD k (0, 0)) := fun k => by
  rw [bdP_get];split
  ·exact ⟨bd_lp, bd_s0⟩
  ·exact ⟨Lp.zero, S0_zero⟩
 have hl : (bdP n).length = n + 1 := by unfold bdP; simp
 exact ⟨hl, hl, fun k => (h1 k).1, fun k => (h1 k).1, (h1 0).2, (h1 0).2, fun k => (h1 k).2.sp, fun k => (h1 k).2.sp⟩
theorem bdP_bits (n : Nat) : ∀ m, m ≤ n → sumB (bdP n) m = 102 * m
 | 0, _ => rfl
 | m + 1, h => by
   show sumB (bdP n) m + pbits ((bdP n).getD (m + 1) (0, 0)) = _;rw [bdP_bits n m (by omega), bdP_get, if_pos (by omega), bd_bits];omega
theorem bdP_ok (n : Nat) (hn : n ≤ 20) : WtOk n (bdP n) (bdP n) := (bdP_in n).ok (by rw [bdP_bits n n (zqn _)]; omega)
theorem bdP_plit (n : Nat) (l : Int) : plit n (bdP n) (bdP n) l = if 1 ≤ l.natAbs ∧ l.natAbs ≤ n then (2 ^ 100, 1) else (0, 0) := by
 unfold plit;split
 ·rename_i h
  have e : (bdP n).getD l.natAbs (0, 0) = (2 ^ 100, 1) := by rw [bdP_get, if_pos (by omega)]
  rw [e]
  split <;> rfl
 ·rfl
theorem qp_bd : qp (2 ^ 100, 1) = ((2 ^ 100 : Nat) : Rat) := qp_wh (Nat.le_refl 1)
theorem natCast_le {a b : Nat} (h : a ≤ b) : ((a : Nat) : Rat) ≤ ((b : Nat) : Rat) := by exact_mod_cast h
theorem rat_mul_le {a b c d : Rat} (ha : 0 ≤ a) (hc : 0 ≤ c) (h1 : a ≤ b) (h2 : c ≤ d) : a * c ≤ b * d :=
 Rat.le_trans (Rat.mul_le_mul_of_nonneg_left h2 ha) (Rat.mul_le_mul_of_nonneg_right h1 (Rat.le_trans hc h2))
theorem rat_add_le {a b c d : Rat} (h1 : a ≤ b) (h2 : c ≤ d) : a + c ≤ b + d :=
 Rat.le_trans ((Rat.add_le_add_left).2 h2) ((Rat.add_le_add_right).2 h1)
theorem nat_nonneg (a : Nat) : (0 : Rat) ≤ ((a : Nat) : Rat) := by exact_mod_cast Nat.zero_le a
theorem RF_bd {X Y : List Nat} {n : Nat} (hX : X.length = n + 1) (hY : Y.length = n + 1) (x0 : X.getD 0 0 = 0) (y0 : Y.getD 0 0 = 0) (hbX : ∀ i, X.getD i 0 ≤ 2 ^ 100) (hbY : ∀ i, Y.getD i 0 ≤ 2 ^ 100) :
  Rl (RF (lwOf X) (lwOf Y)) (RP n (bdP n) (bdP n)) (fun p q => ((ev p : Nat) : Rat) ≤ qp q) := by
 have out : ∀ L : List Nat, L.length = n + 1 → ∀ i, n < i → L.getD i 0 = 0 := fun L hL i hi => by
  rw [List.getD_eq_getElem?_getD, List.getElem?_eq_none (by omega)]; rfl
 have hlit : ∀ l, ((ev ((RF (lwOf X) (lwOf Y)).lit l) : Nat) : Rat) ≤ qp (plit n (bdP n) (bdP n) l) := fun l => by
  have e : (RF (lwOf X) (lwOf Y)).lit l = if 0 < l then polyL (Y.getD l.toNat 0) else polyL (X.getD (-l).toNat 0) := by
   show (if 0 < l then (lwOf Y).getD l.toNat [] else (lwOf X).getD (-l).toNat []) = _;rw [lwOf_get, lwOf_get]
  rw [e, bdP_plit];by_cases h : 1 ≤ l.natAbs ∧ l.natAbs ≤ n
  ·rw [if_pos h, qp_bd];split
   ·rw [polyL_ev]; exact natCast_le (hbY _)
   ·rw [polyL_ev]; exact natCast_le (hbX _)
  ·rw [if_neg h, qp_zero]
   have hz : ev (if 0 < l then polyL (Y.getD l.toNat 0) else polyL (X.getD (-l).toNat 0)) = 0 := by
    split
    ·rw [polyL_ev]; exact out Y hY _ (by omega)
    ·rw [polyL_ev];by_cases hl : l = 0
     ·rw [hl]; exact x0
     ·exact out X hX _ (by omega)
   rw [hz];exact Rat.le_refl
 exact {
  zero := by rw [show ev (RF (lwOf X) (lwOf Y)).zero = 0 from rfl]; exact qp_nonneg _
  one := by
   rw [show ev (RF (lwOf X) (lwOf Y)).one = 1 from rfl];show _ ≤ qp (1, 1)
   rw [qp_one]; exact Rat.le_refl
  add := fun a b c d h1 h2 => by
   show ((ev (trimP (addP a c)) : Nat) : Rat) ≤ qp (padd b d);rw [ev_trimP, ev_addP, qp_add, Rat.natCast_add];exact rat_add_le h1 h2
  mul := fun a b c d h1 h2 => by
   show ((ev (trimP (mulF a c)) : Nat) : Rat) ≤ qp (pmul b d);rw [ev_trimP, ev_mulF, qp_mul, Rat.natCast_mul];exact rat_mul_le (nat_nonneg _) (nat_nonneg _) h1 h2
  lit := hlit
  both := fun v => by
   show ((ev (trimP (addP ((lwOf X).getD v.toNat []) ((lwOf Y).getD v.toNat []))) : Nat) : Rat) ≤ qp (padd (plit n (bdP n) (bdP n) (-v)) (plit n (bdP n) (bdP n) v));rw [ev_trimP, ev_addP, qp_add, lwOf_get, lwOf_get, polyL_ev, polyL_ev, Rat.natCast_add, bdP_plit, bdP_plit, Int.natAbs_neg];by_cases h : 1 ≤ v.natAbs ∧ v.natAbs ≤ n
   ·rw [if_pos h, qp_bd];exact rat_add_le (natCast_le (hbX _)) (natCast_le (hbY _))
   ·rw [if_neg h, qp_zero]
    have z : X.getD v.toNat 0 = 0 ∧ Y.getD v.toNat 0 = 0 := by
     by_cases hv : v.toNat = 0
     ·rw [hv]; exact ⟨x0, y0⟩
     ·exact ⟨out X hX _ (by omega), out Y hY _ (by omega)⟩
    rw [z.1, z.2]
    exact Rat.le_refl }
theorem qp_le_num (p : Pr) : qp p ≤ ((p.1 : Nat) : Rat) := by
 have h : qp p * ((qd p.2 : Nat) : Rat) = ((p.1 : Nat) : Rat) := by
  have := qq_whole p.1 p.2 1;rw [Nat.mul_one, Nat.mul_one] at this;exact this
 have h1 : (1 : Rat) ≤ ((qd p.2 : Nat) : Rat) := by
  have := natCast_le (qd_pos p.2);exact this
 have h2 := Rat.mul_le_mul_of_nonneg_left h1 (qp_nonneg p);rw [h, Rat.mul_one] at h2;exact h2
theorem pow256_bg (k : Nat) (h : 8 * k ≤ BGe) : 256 ^ k ≤ BG := by
 rw [BG_eq, show (256 : Nat) = 2 ^ 8 by decide, ← Nat.pow_mul];exact Nat.pow_le_pow_right (by decide) h
theorem n8_bg {x k : Nat} (h : n8 x ≤ k) (hk : 8 * k ≤ BGe) : x < BG := Nat.lt_of_lt_of_le ((n8_le k x).1 h) (pow256_bg k hk)
theorem sp_bg {x : Nat} {q : Pr} (h : ((x : Nat) : Rat) ≤ qp q) (hs : Sp q) : x < BG := by
 have h1 : ((x : Nat) : Rat) ≤ ((q.1 : Nat) : Rat) := Rat.le_trans h (qp_le_num q)
 have h2 : x ≤ q.1 := by exact_mod_cast h1
 exact Nat.lt_of_le_of_lt h2 (n8_bg hs.1 (by rw [BGe_eq]; decide))
theorem RF_WX {X Y : List Nat} {N : Nt} {n : Nat} (hn : N.n = (n : Int)) (hn2 : n ≤ 128) (hv : vld N = true) : numP ((RF (lwOf X) (lwOf Y)).sum N) (((RN 0).wit (WX X Y)).sum N) := by
 have hlit : ∀ l, numP ((RF (lwOf X) (lwOf Y)).lit l) (WX X Y l) := fun l => by
  show numP (if 0 < l then (lwOf Y).getD l.toNat [] else (lwOf X).getD (-l).toNat []) (if 0 < l then Y.getD l.toNat 0 else X.getD (-l).toNat 0);rw [lwOf_get, lwOf_get]
  split <;> exact polyL_num _
 refine Rv.sum (N := N) ⟨⟨Nat.zero_le _, rfl⟩, ⟨zqn _, rfl⟩, fun _ _ _ _ h1 h2 => numP_add h1 h2, fun _ _ _ _ h1 h2 => numP_mul h1 h2, fun l _ => hlit l, fun v h1 h2 => ?_⟩ hv;show numP (trimP (addP ((lwOf X).getD v.toNat []) ((lwOf Y).getD v.toNat []))) (WX X Y v + WX X Y (-v))
 have e1 : WX X Y v = Y.getD v.toNat 0 := by unfold WX; rw [if_pos (by omega)]
 have e2 : WX X Y (-v) = X.getD v.toNat 0 := by unfold WX; rw [if_neg (by omega), Int.neg_neg]
 rw [lwOf_get, lwOf_get, e1, e2, Nat.add_comm];exact numP_add (polyL_num _) (polyL_num _)
end Cs
namespace Go.Proofs.YtgnobohfnhpkdaaGreatDoor
theorem rsumX_any (w : World) (N : Nt) (A Al Ah : Option Addr) (c cl ch n : Nat) (X Y : List Nat) (hn : N.n = (n : Int)) (hn20 : n ≤ 20) (hN : NtAt w w.heap.size A N.l) (hc : cchk N = 0) (hX : X.length = n + 1) (hY : Y.length = n + 1) (x0 : X.getD 0 0 = 0) (y0 : Y.getD 0 0 = 0)
  (hbX : ∀ i, X.getD i 0 ≤ 2 ^ 100) (hbY : ∀ i, Y.getD i 0 ≤ 2 ^ 100) (hL : RPs w w.heap.size Al (lwOf X)) (hH : RPs w w.heap.size Ah (lwOf Y)) :
  Calls Tryz.prog 58 #[ntV N A c, .slice Al (n + 1) cl, .slice Ah (n + 1) ch] w (RPoly w ((RF (lwOf X) (lwOf Y)).sum N)) := by
 have hv := cchk_vld hc;obtain ⟨hd, hs⟩ := cchk_zero hv hc;have hrl := RF_bd hX hY x0 y0 hbX hbY;refine rsum_gen w N A Al Ah c cl ch n (lwOf X) (lwOf Y) hn hN hv hd 100 (by omega) (lwOf_wob hbX hbY) (fun k hk j => ?_) (fun k hk q => ?_) (by rw [lwOf_len]; exact hX) (by rw [lwOf_len]; exact hY) hL hH
 ·exact sp_bg ((hrl.all (own N.l) (N.l.take k)).2 j) (p_at (bdP_ok n hn20) hv hd hs hn k hk j)
 ·exact sp_bg (hrl.fold (hrl.all (own N.l) (N.l.take k)) (own N.l) N.l[k] (N.l[k].ins.take q) _ _ (hrl.start N.l[k])) (p_part (bdP_ok n hn20) hv hd hs hn k hk q)
end Go.Proofs.YtgnobohfnhpkdaaGreatDoor
end
section
open Go Go.RowKit Cs
namespace Go.Proofs.YtgnobohfnhpkdaaGreatDoor
theorem oneDec (W : World) (x g : Nat) (hg : W.heap.size = g) : RdS (W.alloc (.cells #[.string (dec x)] 9)) (g + 1) (some ⟨g, 0, none⟩) [x] := by
 subst hg
 exact ⟨fun _ => ⟨_, 0, rfl, by omega, fun i hi => by
  have hi0 : i = 0 := by simp at hi; omega
  subst hi0
  exact newOne 0 (.string (dec x)) rfl⟩, fun _ b o e => by
   injection e with e; injection e with e1 e2
   subst e1
   exact ⟨_, _, Array.getElem?_push_size⟩⟩
theorem rpoly_any (w : World) (x : Nat) : Calls Tryz.prog 86 #[.string (dec x)] w (RPoly w (polyL x)) := by
 rcases Nat.eq_zero_or_pos x with h0 | h0
 ·have hb : ((dec x).toList == [48]) = true := by rw [beq_iff_eq]; exact (dec_is0 x).2 h0
  have hp : polyL x = [] := by unfold polyL; rw [if_pos h0]
  rw [hp];clear hp h0
  go_enter Tryz.func86, Tryz.ntmps86
  go_wp2_with fail
  go_ret
  exact ⟨none, 0, rfl, zqn _, RdS.nil _ _ _, zqr _ _⟩
 ·have hb : ((dec x).toList == [48]) = false := beq_eq_false_iff_ne.2 fun e => by have := (dec_is0 x).1 e; omega
  have hp : polyL x = [x] := by unfold polyL; rw [if_neg (by omega)]
  rw [hp];have hr := oneDec w x w.heap.size rfl;clear hp h0
  go_enter Tryz.func86, Tryz.ntmps86
  go_wp2_with fail
  go_ret
  exact ⟨some ⟨w.heap.size, 0, none⟩, 1, rfl, zqn _, by simpa using hr, (zqr _ _).alloc (zqn _) _⟩
def apartB (a b : Value) : Prop := a.ownBlock = none ∨ b.ownBlock = none ∨ a.ownBlock ≠ b.ownBlock
theorem apartB.symm {a b : Value} (h : apartB a b) : apartB b a := by
 rcases h with h | h | h
 ·exact .inr (.inl h)
 ·exact .inl h
 ·exact .inr (.inr (Ne.symm h))
theorem apartB.next {a b v' : Value} {W : World} (h : apartB a b) (hwh : v'.ownBlock = a.ownBlock ∨ v'.ownBlock = some W.heap.size) (hb : ∀ g, b.ownBlock = some g → g < W.heap.size) : apartB v' b := by
 rcases hwh with e | e
 ·unfold apartB; rw [e]; exact h
 ·cases hbo : b.ownBlock with
  | none => exact .inr (.inl hbo)
  | some g =>
    refine .inr (.inr ?_);rw [e, hbo];intro h2;injection h2 with h2;have := hb g hbo;omega
theorem apartB.ne {a b : Value} (h : apartB a b) : b.ownBlock = none ∨ b.ownBlock ≠ a.ownBlock := by
 rcases h with h | h | h
 ·cases hb : b.ownBlock with
  | none => exact .inl rfl
  | some g => exact .inr (by rw [h]; simp)
 ·exact .inl h
 ·exact .inr (Ne.symm h)
theorem SR.keep {w5 wr w' : World} {a b : Value} {k k' : Nat} {U U' : List Value} {L L' : List (List Nat)} (ha : SR w5 a k U L wr) (hb : SR w5 b k' U' L' wr) (hg : wr.grownBy w' a.ownBlock) (hne : apartB a b) : SR w5 b k' U' L' w' := by
 have hty : ∀ g, a.ownBlock = some g → ∃ cs T fr, wr.heap[g]? = some (.cells cs T fr) ∧ T ≠ 9 := fun g hg' => by
  rcases ha.own.2 with ⟨rfl, _⟩ | ⟨g', cap, cur, rfl, _, hgb, _⟩
  ·cases hg'
  ·have e2 : g' = g := by injection hg'
   subst e2;exact ⟨_, _, _, hgb, by decide⟩
 exact ⟨hb.own.kept hg hne.ne, hb.pls.grown hg hty, hb.bl.grown hg hb.bl.size (fun g e => (ha.own.lt g e).1)⟩
theorem take_lwOf (X : List Nat) (k : Nat) (h : k < X.length) : (lwOf X).take (k + 1) = (lwOf X).take k ++ [polyL (X.getD k 0)] := by
 rw [List.take_succ_eq_append_getElem (by rw [lwOf_len]; exact h)]
 congr 2
 have := lwOf_get X k;rw [List.getD_eq_getElem?_getD, List.getElem?_eq_getElem (by rw [lwOf_len]; exact h)] at this;exact this
theorem rsum36_any (w : World) (N : Nt) (A Al Ah : Option Addr) (c cl ch n : Nat) (X Y : List Nat) (hn : N.n = (n : Int)) (hn20 : n ≤ 20) (hN : NtAt w w.heap.size A N.l) (hc : cchk N = 0) (hX : X.length = n + 1) (hY : Y.length = n + 1) (x0 : X.getD 0 0 = 0) (y0 : Y.getD 0 0 = 0)
  (hbX : ∀ i, X.getD i 0 ≤ 2 ^ 100) (hbY : ∀ i, Y.getD i 0 ≤ 2 ^ 100) (hL : Rd w w.heap.size Al (n + 1) (decF X)) (hH : Rd w w.heap.size Ah (n + 1) (decF Y)) :
  Calls Tryz.prog 44 #[ntV N A c, .slice Al (n + 1) cl, .slice Ah (n + 1) ch] w fun e w' => e = .returned (.string (dec (((RN 0).wit (WX X Y)).sum N))) ∧ Below w.heap.size w w' := by
 obtain ⟨ti, hti, ht0, ht1, ht2⟩ := info_parts info_poly;have hnum := RF_WX (X := X) (Y := Y) hn (by omega) (cchk_vld hc);have hsm := fun W Bl Bh dl dh hN hL hH => rsumX_any W N A Bl Bh c dl dh n X Y hn hn20 hN hc hX hY x0 y0 hbX hbY hL hH;generalize (RF (lwOf X) (lwOf Y)).sum N = p at hsm hnum;obtain ⟨V, hV⟩ : ∃ V, ((RN 0).wit (WX X Y)).sum N = V := ⟨_, rfl⟩;rw [hV] at hnum ⊢;clear hV;have HSM := zqh hsm;have HNUM := zqh hnum;have htX := fun k h => take_lwOf X k h;have htY := fun k h => take_lwOf Y k h;have hlX : (lwOf X).take (n + 1) = lwOf X := List.take_of_length_le (by rw [lwOf_len]; omega);have hlY : (lwOf Y).take (n + 1) = lwOf Y := List.take_of_length_le (by rw [lwOf_len]; omega);have HTX := zqh htX;have HTY := zqh htY;have HLX := zqh hlX;have HLY := zqh hlY;have HXl := zqh hX;have HYl := zqh hY;clear hsm hnum htX htY hlX hlY hX hY x0 y0 hbX hbY hc;obtain ⟨Nn, l⟩ := N;simp only at hn;subst hn;obtain ⟨ba, oa, rfl, hba, hca⟩ := hL (by omega);obtain ⟨bh, oh, rfl, hbh, hch⟩ := hH (by omega);have q0 := (Bag.zero w).new #[.int .i64 (n : Int), .slice A l.length c] 24 w.heap.size 2 rfl rfl;have HNT := zqh (fun W (hb : Below w.heap.size w W) => (hN.below hb).more hb.size);have HCA := zqh hca;have HCH := zqh hch;clear hca hch hL hH hN
 go_enter Tryz.func44, Tryz.ntmps44
 go_wp2_with fail
 obtain ⟨W1, hW1⟩ : ∃ W, w.alloc (.cells #[.int .i64 (n : Int), .slice A l.length c] 24) = W := ⟨_, rfl⟩;rw [hW1] at q0 ⊢;clear hW1
 go_loopw [7, 8, 9] (fun a b t wr => ∃ (k : Nat) (Ua Ub : List Value), k ≤ n + 1 ∧ t = .int .i64 (k : Int) ∧ SR W1 a k Ua ((lwOf X).take k) wr ∧ SR W1 b k Ub ((lwOf Y).take k) wr ∧ apartB a b) (fun _ _ t _ => n + 1 - (intOf t).toNat)
 case atStart => exact ⟨0, [], [], Nat.zero_le _, rfl, ⟨World.ownsRow_nil _ _ _ _, RPls.nil _, zqr _ _⟩, ⟨World.ownsRow_nil _ _ _ _, RPls.nil _, zqr _ _⟩, .inl rfl⟩
 case round =>
  obtain ⟨k, Ua, Ub, hk, rfl, hEa, hEb, hap⟩ := hrel;have q1 := q0.below hEa.bl;have m1 := q1.is0 0 (by decide) (.int .i64 (n : Int)) rfl;have m2 := q1.is0 1 (by decide) (.slice A l.length c) rfl;have hz := hEa.bl.size;by_cases hlt : k < n + 1
  ·have d1 : decide ((k : Int) ≤ (n : Int)) = true := decide_eq_true (by omega);have c1 := (q1.bl.cell (p := ⟨ba, oa + k, none⟩) hba).trans (HCA.out k hlt);unfold decF at c1;have htX := HTX.out k (by have := HXl.out; omega);have htY := HTY.out k (by have := HYl.out; omega);have hcy := HCH.out k hlt;unfold decF at hcy;obtain ⟨x, hx⟩ : ∃ x, X.getD k 0 = x := ⟨_, rfl⟩;obtain ⟨y, hy⟩ : ∃ y, Y.getD k 0 = y := ⟨_, rfl⟩;rw [hx] at c1 htX;rw [hy] at hcy htY;obtain ⟨px, hpx⟩ : ∃ p, polyL x = p := ⟨_, rfl⟩;obtain ⟨py, hpy⟩ : ∃ p, polyL y = p := ⟨_, rfl⟩;have hrx := fun W => rpoly_any W x;have hry := fun W => rpoly_any W y;rw [hpx] at htX hrx;rw [hpy] at htY hry;have HRX := zqh hrx;have HRY := zqh hry;have HTX1 := zqh htX;have HTY1 := zqh htY;have HCY := zqh hcy;clear hx hy hpx hpy hrx hry htX htY hcy
   have i0 : (0 : Int) ≤ (k : Int) := by omega
   have i1 : (k : Int) < (n : Int) + 1 := by omega
   have HAP := zqh hap;have HEA := zqh hEa;have HEB := zqh hEb;have HBH := zqh hbh;clear hEa hEb hap
   go_wp2_with fail
   refine (HRX.out _).mono ?_;rintro e w2 ⟨A2, c2, rfl, hc2, hr2, hb2⟩;have q2 := q1.below hb2;have hEa3 := (HEA.out.below hb2).alloc (.cells #[.slice A2 px.length c2] 103);have hEb3 := (HEB.out.below hb2).alloc (.cells #[.slice A2 px.length c2] 103);have hr3 := (hr2.below ((zqr _ _).alloc (zqn _) (.cells #[.slice A2 px.length c2] 103))).more (B' := (w2.alloc (.cells #[.slice A2 px.length c2] 103)).heap.size) (by simp);have hz3 := hEa3.bl.size;have hownA := hEa3.own;have HEA3 := zqh hEa3;have HEB3 := zqh hEb3;have HR3 := zqh hr3;clear m1 m2 c1 hb2 hr2 hr3 hEa3 hEb3
   go_wp2_with (
    at_builtin
    refine wpList_append_own2 _ rfl _ _ 105 rfl W1.heap.size 103 ti (.slice none 0 0) 1 24 Tryz.underlying105 hti ht0 ht1 ht2 rfl (by decide) _ _ _ rfl hownA ⟨w2.heap.size, 0, none⟩ 1 1 [.slice A2 px.length c2] rfl rfl newOne oneSlice (by unfold maxLen; omega) (by omega) hz3 ?_;intro v4 w4 hown4 hgr4 hwh4;have hEa4 := HEA3.out.next hc2 HR3.out hown4 hgr4;have hEb4 := SR.keep HEA3.out HEB3.out hgr4 HAP.out;have hap4 := HAP.out.next hwh4 (fun g hg => (HEB3.out.own.lt g hg).2);have q4 := q0.below hEa4.bl;have c2' := (q4.bl.cell (p := ⟨bh, oh + k, none⟩) HBH.out).trans HCY.out;have HEA4 := zqh hEa4;have HEB4 := zqh hEb4;have HAP4 := zqh hap4
    clear hownA hown4 hgr4 hwh4 hEa4 hEb4 hap4)
   refine (HRY.out _).mono ?_;rintro e w5 ⟨A5, c5, rfl, hc5, hr5, hb5⟩;have hEa6 := (HEA4.out.below hb5).alloc (.cells #[.slice A5 py.length c5] 103);have hEb6 := (HEB4.out.below hb5).alloc (.cells #[.slice A5 py.length c5] 103);have hr6 := (hr5.below ((zqr _ _).alloc (zqn _) (.cells #[.slice A5 py.length c5] 103))).more (B' := (w5.alloc (.cells #[.slice A5 py.length c5] 103)).heap.size) (by simp);have hz6 := hEb6.bl.size;have hownB := hEb6.own;have HEA6 := zqh hEa6;have HEB6 := zqh hEb6;have HR6 := zqh hr6;clear q4 c2' hb5 hr5 hr6 hEa6 hEb6
   go_wp2_with (
    at_builtin
    refine wpList_append_own2 _ rfl _ _ 105 rfl W1.heap.size 103 ti (.slice none 0 0) 1 24 Tryz.underlying105 hti ht0 ht1 ht2 rfl (by decide) _ _ _ rfl hownB ⟨w5.heap.size, 0, none⟩ 1 1 [.slice A5 py.length c5] rfl rfl newOne oneSlice (by unfold maxLen; omega) (by omega) hz6 ?_;intro v7 w7 hown7 hgr7 hwh7;have hEb7 := HEB6.out.next hc5 HR6.out hown7 hgr7;have hEa7 := SR.keep HEB6.out HEA6.out hgr7 HAP4.out.symm;have hap7 := HAP4.out.symm.next hwh7 (fun g hg => (HEA6.out.own.lt g hg).2);have HEA7 := zqh hEa7;have HEB7 := zqh hEb7;have HAP7 := zqh hap7
    clear hownB hown7 hgr7 hwh7 hEa7 hEb7 hap7)
   exact ⟨⟨k + 1, _, _, by omega, by go_num, by rw [HTX1.out]; exact HEA7.out, by rw [HTY1.out]; exact HEB7.out, HAP7.out.symm⟩, by simp [intOf]; omega⟩
  ·obtain rfl : k = n + 1 := by omega
   have d1 : decide (((n + 1 : Nat) : Int) ≤ (n : Int)) = false := decide_eq_false (by omega);have d2 : decide ((n : Int) + 1 ≤ (n : Int)) = false := decide_eq_false (by omega);rw [HLX.out] at hEa;rw [HLY.out] at hEb;obtain ⟨ga, ca, rfl, hga1, hga2, hra⟩ := hEa.rps (by omega);obtain ⟨gb, cb, rfl, hgb1, hgb2, hrb⟩ := hEb.rps (by omega);have HRA := zqh hra;have HRB := zqh hrb;clear hEa hEb hap hra hrb
   go_wp2_with fail
   refine (HSM.out _ _ _ ca cb (HNT.out _ q1.bl) HRA.out HRB.out).mono ?_;rintro e w8 ⟨A8, c8, rfl, hc8, hr8, hb8⟩;have q8 := q1.below hb8;have hV := numP_get HNUM.out;rcases Nat.eq_zero_or_pos p.length with h0 | h0
   ·have hV0 : V = 0 := by
     rw [← hV, List.getD_eq_getElem?_getD, List.getElem?_eq_none (by omega)]; rfl
    have hz0 : dec V = ⟨#[48]⟩ := by rw [hV0]; exact dec_zero
    have HZ := zqh hz0;have b9 : ((p.length : Int) == 0) = true := beq_iff_eq.2 (by omega);clear hV hV0 hz0 hr8 HNUM h0
    go_wp2_with fail
    refine bodyPost_ret (v := .string ⟨#[48]⟩) ?_ rfl ⟨by rw [HZ.out], q8.bl⟩;rw [results_tmp (t := 6) rfl]
    rfl
   ·obtain ⟨bp, op, rfl, hbp, hcp⟩ := hr8.rd h0;have c9 := hcp 0 h0;unfold decF at c9;rw [hV] at c9;simp only [Nat.add_zero] at c9;have b9 : ((p.length : Int) == 0) = false := beq_eq_false_iff_ne.2 (by omega)
    have j1 : (0 : Int) < (p.length : Int) := by omega
    clear hV hcp hr8 HNUM
    go_wp2_with fail
    go_ret
    exact ⟨rfl, q8.bl⟩
end Go.Proofs.YtgnobohfnhpkdaaGreatDoor
end
