import Derived.Test.YtmhllppjcilllaaGreatDoorAw
import Derived.Test.YtmhllppjcilllaaGreatDoorLy
import Derived.Test.YtmhllppjcilllaaGreatDoorBy
import Derived.Test.YtmhllppjcilllaaGreatDoorWc
set_option linter.unusedSimpArgs false
set_option linter.unusedVariables false
open Go Go.RowKit Cs
namespace Cs
open Go.Proofs.YtmhllppjcilllaaGreatDoor
theorem prt_small (lw : Nat) (F : Nat → Nat) (v j : Nat) : prt lw F v j ≤ 6 := by
 unfold prt;split
 ·omega
 ·split <;> omega
theorem qq_parts (n d m : Nat) (h1 : n ≤ m) (h2 : d ≤ m) (hm : 1 ≤ m) : (pq (qq n d)).1 ≤ m ∧ (pq (qq n d)).2 ≤ m := by
 constructor
 ·show qn (qq n d) ≤ m;rw [qn_qq];exact Nat.le_trans (Nat.div_le_self _ _) h1
 ·show (qq n d).den ≤ m;rw [den_qq];refine Nat.le_trans (Nat.div_le_self _ _) ?_
  unfold qd; split <;> omega
theorem awl_parts (lw : Nat) (F : Nat → Nat) (v : Nat) : (awl lw F v).1 ≤ 6 ∧ (awl lw F v).2 ≤ 6 := qq_parts _ _ 6 (prt_small _ _ _ _) (prt_small _ _ _ _) (by decide)
theorem awh_parts (lw : Nat) (F : Nat → Nat) (v : Nat) : (awh lw F v).1 ≤ 6 ∧ (awh lw F v).2 ≤ 6 := qq_parts _ _ 6 (prt_small _ _ _ _) (prt_small _ _ _ _) (by decide)
theorem nd2_small {x m : Nat} (h : x ≤ 7) : nd 2 x ≤ 3 := Nat.le_trans (nd_mono 2 (by decide) h) (by decide +kernel)
theorem pbits_small {p : Pr} (h1 : p.1 ≤ 7) (h2 : p.2 ≤ 7) : pbits p ≤ 6 := by
 unfold pbits;have a := nd2_small (m := 0) h1;have b : nd 2 (qd p.2) ≤ 3 := nd2_small (m := 0) (by unfold qd; split <;> omega);omega
theorem sumB_small {l : List Pr} (h : ∀ k, pbits (l.getD k (0, 0)) ≤ 6) : ∀ m, sumB l m ≤ 6 * m
 | 0 => zqn _
 | m + 1 => by
   show sumB l m + _ ≤ _;have := sumB_small h m;have := h (m + 1);omega
theorem map_getD (f : Nat → Pr) (m k : Nat) : ((List.range m).map f).getD k (0, 0) = if k < m then f k else (0, 0) := rng_get f (0, 0) m k
theorem small8 {x : Nat} (h : x ≤ 6) : n8 x ≤ 40000 := Nat.le_trans (n8_64 (by omega)) (by decide)
theorem small_in {n : Nat} {f g : Nat → Pr} (hf : ∀ v, Lp (f v) ∧ (f v).1 ≤ 6 ∧ (f v).2 ≤ 6) (hg : ∀ v, Lp (g v) ∧ (g v).1 ≤ 6 ∧ (g v).2 ≤ 6) : WtIn n ((List.range (n + 1)).map f) ((List.range (n + 1)).map g) := by
 have e : ∀ (f : Nat → Pr), (∀ v, Lp (f v) ∧ (f v).1 ≤ 6 ∧ (f v).2 ≤ 6) → ∀ k, Lp (((List.range (n + 1)).map f).getD k (0, 0)) ∧ S0 (((List.range (n + 1)).map f).getD k (0, 0)) := fun f hf k => by
  rw [map_getD];split
  ·exact ⟨(hf k).1, small8 (hf k).2.1, small8 (hf k).2.2⟩
  ·exact ⟨Lp.zero, small8 (by omega), small8 (by omega)⟩
 exact ⟨by simp, by simp, fun k => (e f hf k).1, fun k => (e g hg k).1, (e f hf 0).2, (e g hg 0).2, fun k => (e f hf k).2.sp, fun k => (e g hg k).2.sp⟩
theorem aw_ok (lw : Nat) (F : Nat → Nat) (v : Nat) : Lp (awl lw F v) ∧ (awl lw F v).1 ≤ 6 ∧ (awl lw F v).2 ≤ 6 := ⟨Lp.pq (qq_nonneg _ _), awl_parts lw F v⟩
theorem aw_okh (lw : Nat) (F : Nat → Nat) (v : Nat) : Lp (awh lw F v) ∧ (awh lw F v).1 ≤ 6 ∧ (awh lw F v).2 ≤ 6 := ⟨Lp.pq (qq_nonneg _ _), awh_parts lw F v⟩
theorem aw_in (lw : Nat) (F : Nat → Nat) (n : Nat) : WtIn n (awL lw F (n + 1)) (awH lw F (n + 1)) := small_in (aw_ok lw F) (aw_okh lw F)
theorem small_bits {n : Nat} {f g : Nat → Pr} (hn : n ≤ 128) (hf : ∀ v, (f v).1 ≤ 6 ∧ (f v).2 ≤ 6) (hg : ∀ v, (g v).1 ≤ 6 ∧ (g v).2 ≤ 6) : ¬ 16384 < sumB ((List.range (n + 1)).map f) n + sumB ((List.range (n + 1)).map g) n := by
 have e : ∀ (f : Nat → Pr), (∀ v, (f v).1 ≤ 6 ∧ (f v).2 ≤ 6) → sumB ((List.range (n + 1)).map f) n ≤ 6 * n := fun f hf => sumB_small (fun k => by
  rw [map_getD];split
  ·exact pbits_small (Nat.le_trans (hf k).1 (by decide)) (Nat.le_trans (hf k).2 (by decide))
  ·exact pbits_small (by decide) (by decide)) n
 have a := e f hf;have b := e g hg;omega
theorem aw_bits (lw : Nat) (F : Nat → Nat) (n : Nat) (hn : n ≤ 128) : ¬ 16384 < sumB (awL lw F (n + 1)) n + sumB (awH lw F (n + 1)) n := small_bits hn (awl_parts lw F) (awh_parts lw F)
theorem wfit_bits {N : Nt} {n : Nat} {lo hi : List Pr} (hb : ¬ 16384 < sumB lo n + sumB hi n) : wfit N n lo hi = cchk N := by
 unfold wfit;rw [if_neg hb];split
 ·rename_i h; exact h.symm
 ·rfl
theorem cchk_dcmp {N : Nt} (hd : dcmp N = true) (hv : vld N = true) : cchk N = 0 ∨ cchk N = 2 := by
 unfold cchk;rw [hv, hd];cases shortB N
 ·exact Or.inr rfl
 ·exact Or.inl rfl
section
variable {N : Nt} {n : Nat} {lo hi : List Pr}
theorem sum_sm (ok : WtOk n lo hi) (hv : vld N = true) (hd : dcmp N = true) (hs : shortB N = true) (hn : N.n = (n : Int)) : Sm smB (qp ((RP n lo hi).sum N)) := by
 obtain ⟨hn0, hn1, hl0, hl1⟩ := vld_bounds hv
 have := q_wide ok.wb hv hd hs hn N.l.length (zqn _) (N.l.length - 1) (by omega) (allTo N.n) (fun x hx => by
  have := own_sub hv N.l.length (N.l.length - 1) (by omega) (by omega) x hx;rw [allTo_bit]
  exact decide_eq_true (by omega)) 128
 rw [List.take_length, List.take_of_length_le (vl_length _)] at this;rw [RP_sum ok];exact this
theorem cross_eq {n d n' d' : Nat} (h : qq n d = qq n' d') : n * qd d' = n' * qd d :=
 Nat.le_antisymm (Nat.le_of_not_lt fun h1 => absurd ((qq_lt_iff n' d' n d).2 h1) (by rw [h]; exact Rat.lt_irrefl)) (Nat.le_of_not_lt fun h1 => absurd ((qq_lt_iff n d n' d').2 h1) (by rw [h]; exact Rat.lt_irrefl))
theorem Sp.canon {p : Pr} (h : Lp p) (hs : Sp p) : Sp (pq (qp p)) := by
 refine ⟨?_, ?_⟩
 ·show n8 (qn (qq p.1 p.2)) ≤ _
  rw [← h.1]; exact hs.1
 ·show n8 (qq p.1 p.2).den ≤ _;rcases h.2 with e | ⟨e1, e2⟩
  ·rw [← e]; exact hs.2
  ·rw [e1, e2, show qq 0 0 = 0 from rfl]; exact Nat.le_trans (n8_64 (by decide)) (by decide)
theorem Sp.sm {q : Rat} (h : Sm (2 * smB) q) : Sp (pq q) :=
 ⟨n8_pow _ (2 * smB) 100000 h.2.1 (by have := smB_le; omega), n8_pow _ (2 * smB) 100000 h.2.2 (by have := smB_le; omega)⟩
theorem div_form {a b : Rat} (a0 : 0 ≤ a) (b0 : 0 ≤ b) : a / b = qq (qn a * qd b.den) (qd a.den * qn b) ∨ a / b = 0 := by
 by_cases hz : qn b = 0
 ·refine Or.inr ?_
  have : b = 0 := by
   have h := qq_can b0
   rw [← h, hz]; simp [qq]
  rw [this, Rat.div_def, Rat.inv_zero, Rat.mul_zero]
 ·left
  rw [qq_div (qn a) a.den (qn b) b.den (by omega), qq_can a0, qq_can b0]
theorem div_nonneg' {a b : Rat} (ha : 0 ≤ a) (hb : 0 ≤ b) : 0 ≤ a / b := by
 rcases div_form ha hb with e | e
 ·rw [e]; exact qq_nonneg _ _
 ·rw [e]; exact Rat.le_refl
theorem Sm.div {a b : Rat} (ha : Sm smB a) (hb : Sm smB b) : Sm (2 * smB) (a / b) := by
 obtain ⟨a0, a1, a2⟩ := ha;obtain ⟨b0, b1, b2⟩ := hb;have e := div_form a0 b0;rcases e with e | e
 ·rw [e]
  have two : (2 : Nat) ^ (2 * smB) = 2 ^ smB * 2 ^ smB := by rw [← Nat.pow_add]; congr 1; omega
  refine Sm.of ?_ ?_
  ·rw [two, qd_of b.den_pos]; exact Nat.mul_lt_mul_of_lt_of_lt a1 b2
  ·have h1 : qd (qd a.den * qn b) ≤ max 1 (qd a.den * qn b) := by
    generalize qd a.den * qn b = z
    unfold qd; split <;> omega
   have h2 : qd a.den * qn b < 2 ^ (2 * smB) := by rw [two, qd_of a.den_pos]; exact Nat.mul_lt_mul_of_lt_of_lt a2 b1
   have h3 : 1 < 2 ^ (2 * smB) := Nat.one_lt_two_pow (by have := smB_eq; have := wB_eq; omega);omega
 ·rw [e];exact ⟨Rat.le_refl, by show qn 0 < _; exact Nat.two_pow_pos _, by show 1 < _; exact Nat.one_lt_two_pow (by have := smB_eq; have := wB_eq; omega)⟩
theorem lowP_at {k : Nat} (h1 : 1 ≤ k) (h2 : k ≤ n) : (lowP N n lo hi n).getD k (0, 0) = (RP n (wLo n lo [-(k : Int)]) (wHi n hi [-(k : Int)])).sum N := by
 unfold lowP;rw [map_getD, if_pos (by omega), if_neg (by omega)]
theorem highP_at {k : Nat} (h1 : 1 ≤ k) (h2 : k ≤ n) : (highP N n lo hi n).getD k (0, 0) = pq (qp ((RP n lo hi).sum N) - qp ((RP n (wLo n lo [-(k : Int)]) (wHi n hi [-(k : Int)])).sum N)) := by
 unfold highP;rw [map_getD, if_pos (by omega), if_neg (by omega)]
theorem lh_sum (hW : WtIn n lo hi) (hb : ¬ 16384 < sumB lo n + sumB hi n) (hv : vld N = true) (hd : dcmp N = true) (hs : shortB N = true) (hn : N.n = (n : Int)) {k : Nat} (h1 : 1 ≤ k) (h2 : k ≤ n) :
  qp ((lowP N n lo hi n).getD k (0, 0)) + qp ((highP N n lo hi n).getD k (0, 0)) = qp ((RP n lo hi).sum N) ∧ Sp ((lowP N n lo hi n).getD k (0, 0)) ∧ Sp ((highP N n lo hi n).getD k (0, 0)) := by
 rw [lowP_at h1 h2, highP_at h1 h2];have ha := part_add hW hb hv hd hn k h1 h2;have ok := hW.okT hb [-(k : Int)];have ok2 := hW.okT hb [(k : Int)]
 have e : qp ((RP n lo hi).sum N) - qp ((RP n (wLo n lo [-(k : Int)]) (wHi n hi [-(k : Int)])).sum N) = qp ((RP n (wLo n lo [(k : Int)]) (wHi n hi [(k : Int)])).sum N) := by rw [ha]; grind
 rw [e, qp_pq (qp_nonneg _)];exact ⟨by rw [ha]; exact Rat.add_comm _ _, sum_sp ok hv hd hs hn, (sum_sp ok2 hv hd hs hn).canon (RP_Lp ok2 N)⟩
theorem wLo_congr {lo : List Pr} {S T : List Int} (h : ∀ x, x ∈ S ↔ x ∈ T) : wLo n lo S = wLo n lo T := by
 unfold wLo
 exact List.map_congr_left fun v _ => by simp only [h]
theorem wHi_congr {hi : List Pr} {S T : List Int} (h : ∀ x, x ∈ S ↔ x ∈ T) : wHi n hi S = wHi n hi T := by
 unfold wHi
 exact List.map_congr_left fun v _ => by simp only [h]
theorem getD_ext {a b : List Pr} (hl : a.length = b.length) (h : ∀ k, a.getD k (0, 0) = b.getD k (0, 0)) : a = b :=
 List.ext_getElem hl fun k h1 h2 => by
  have := h k;rw [List.getD_eq_getElem?_getD, List.getD_eq_getElem?_getD, List.getElem?_eq_getElem h1, List.getElem?_eq_getElem h2] at this;exact this
theorem wLo_app {S T : List Int} : wLo n (wLo n lo S) T = wLo n lo (S ++ T) := by
 refine getD_ext (by simp [wLo]) fun k => ?_;rw [wLo_get, wLo_get, wLo_get];simp only [List.mem_append];by_cases hk : k < n + 1
 ·simp only [if_pos hk];by_cases h1 : (k : Int) ∈ T
  ·rw [if_pos h1, if_pos (Or.inr h1)]
  ·by_cases h2 : (k : Int) ∈ S
   ·rw [if_neg h1, if_pos h2, if_pos (Or.inl h2)]
   ·rw [if_neg h1, if_neg h2, if_neg (fun h => h.elim h2 h1)]
 ·simp only [if_neg hk]
theorem wHi_app {S T : List Int} : wHi n (wHi n hi S) T = wHi n hi (S ++ T) := by
 refine getD_ext (by simp [wHi]) fun k => ?_;rw [wHi_get, wHi_get, wHi_get];simp only [List.mem_append];by_cases hk : k < n + 1
 ·simp only [if_pos hk];by_cases h1 : -(k : Int) ∈ T
  ·rw [if_pos h1, if_pos (Or.inr h1)]
  ·by_cases h2 : -(k : Int) ∈ S
   ·rw [if_neg h1, if_pos h2, if_pos (Or.inl h2)]
   ·rw [if_neg h1, if_neg h2, if_neg (fun h => h.elim h2 h1)]
 ·simp only [if_neg hk]
def trmS (N : Nt) (n : Nat) (lo hi : List Pr) (t : List Int) : Pr := (RP n (wLo n lo t) (wHi n hi t)).sum N
theorem trm_split (hW : WtIn n lo hi) (hb : ¬ 16384 < sumB lo n + sumB hi n) (hv : vld N = true) (hd : dcmp N = true) (hn : N.n = (n : Int)) (t : List Int) {v : Nat} (h1 : 1 ≤ v) (h2 : v ≤ n) :
  qp (trmS N n lo hi t) = qp (trmS N n lo hi (t ++ [(v : Int)])) + qp (trmS N n lo hi ([-(v : Int), -(v : Int)] ++ t)) := by
 have hb2 : ¬ 16384 < sumB (wLo n lo t) n + sumB (wHi n hi t) n := by have := sumB_under (n := n) (lo := lo) (hi := hi) t n; omega
 have ha := part_add (hW.under t) hb2 hv hd hn v h1 h2;unfold trmS;rw [ha, wLo_app, wHi_app, wLo_app, wHi_app, wLo_congr (S := t ++ [-(v : Int)]) (T := [-(v : Int), -(v : Int)] ++ t) (fun x => by simp only [List.mem_append, List.mem_cons, List.not_mem_nil, or_false]; grind), wHi_congr (S := t ++ [-(v : Int)]) (T := [-(v : Int), -(v : Int)] ++ t) (fun x => by simp only [List.mem_append, List.mem_cons, List.not_mem_nil, or_false]; grind)]
def shP (N : Nt) (n : Nat) (lo hi : List Pr) (t : List Int) : Pr := pq (qp (trmS N n lo hi t) / qp ((RP n lo hi).sum N))
theorem shareR_ok {t : List Int} (ht : termB N.n t = true) (hE : wfit N n lo hi = 0) (h0 : ((RP n lo hi).sum N).1 ≠ 0) : shareR N n lo hi t = (shP N n lo hi t, 0) := by
 unfold shareR;rw [if_pos ht, if_pos hE, if_neg h0]
 rfl
theorem shareR_none {t : List Int} (ht : termB N.n t = true) (hE : wfit N n lo hi = 0) (h0 : ((RP n lo hi).sum N).1 = 0) : shareR N n lo hi t = ((0, 0), 3) := by
 unfold shareR;rw [if_pos ht, if_pos hE, if_pos h0]
theorem sh_split (hW : WtIn n lo hi) (hb : ¬ 16384 < sumB lo n + sumB hi n) (hv : vld N = true) (hd : dcmp N = true) (hn : N.n = (n : Int)) (t : List Int) {v : Nat} (h1 : 1 ≤ v) (h2 : v ≤ n) :
  qp (shP N n lo hi (t ++ [(v : Int)])) + qp (shP N n lo hi ([-(v : Int), -(v : Int)] ++ t)) = qp (shP N n lo hi t) := by
 unfold shP;rw [qp_pq (div_nonneg' (qp_nonneg _) (qp_nonneg _)), qp_pq (div_nonneg' (qp_nonneg _) (qp_nonneg _)), qp_pq (div_nonneg' (qp_nonneg _) (qp_nonneg _)), trm_split hW hb hv hd hn t h1 h2, Rat.div_def, Rat.div_def, Rat.div_def, Rat.add_mul]
theorem sh_sp (hW : WtIn n lo hi) (hb : ¬ 16384 < sumB lo n + sumB hi n) (hv : vld N = true) (hd : dcmp N = true) (hs : shortB N = true) (hn : N.n = (n : Int)) (t : List Int) : Lp (shP N n lo hi t) ∧ Sp (shP N n lo hi t) :=
 ⟨Lp.pq (div_nonneg' (qp_nonneg _) (qp_nonneg _)), Sp.sm ((sum_sm (hW.okT hb t) hv hd hs hn).div (sum_sm (hW.ok hb) hv hd hs hn))⟩
theorem qp_zero_iff {p : Pr} (h : Lp p) : qp p = 0 ↔ p.1 = 0 := by
 constructor
 ·intro e;have h1 := h.1;have e2 : qq p.1 p.2 = 0 := e;rw [e2] at h1;exact h1
 ·intro e;show qq p.1 p.2 = 0;unfold qq
  rw [e]; simp
theorem sh_whole (hW : WtIn n lo hi) (h0 : ((RP n lo hi).sum N).1 ≠ 0) (hb : ¬ 16384 < sumB lo n + sumB hi n) : shP N n lo hi [] = (1, 1) := by
 unfold shP trmS;rw [wLo_nil hW.ll, wHi_nil hW.lh, Rat.div_def, Rat.mul_inv_cancel _ (fun h => h0 ((qp_zero_iff (RP_Lp (hW.ok hb) N)).1 h))]
 rfl
def tmA (v pk sg : Nat) : Nat → List Int
 | 0 => []
 | k + 1 => if k + 1 ≠ v ∧ pk.testBit k = true then tmA v pk sg k ++ [if sg.testBit k then -((k + 1 : Nat) : Int) else ((k + 1 : Nat) : Int)] else tmA v pk sg k
theorem tmA_len (v pk sg : Nat) : ∀ k, (tmA v pk sg k).length ≤ k
 | 0 => zqn _
 | k + 1 => by
   have := tmA_len v pk sg k;unfold tmA;split
   ·simp; omega
   ·omega
theorem tmA_mem (v pk sg : Nat) (x : Int) : ∀ k, x ∈ tmA v pk sg k → ∃ j, j < k ∧ j + 1 ≠ v ∧ x = if sg.testBit j then -((j + 1 : Nat) : Int) else ((j + 1 : Nat) : Int)
 | 0, h => by cases h
 | k + 1, h => by
   unfold tmA at h;split at h
   ·rename_i hc;rcases List.mem_append.1 h with h | h
    ·obtain ⟨j, h1, h2⟩ := tmA_mem v pk sg x k h;exact ⟨j, by omega, h2⟩
    ·exact ⟨k, by omega, hc.1, by simpa using h⟩
   ·obtain ⟨j, h1, h2⟩ := tmA_mem v pk sg x k h;exact ⟨j, by omega, h2⟩
theorem litOk_of {x : Int} {n : Nat} (hn : n ≤ 128) (h : (1 ≤ x ∧ x ≤ (n : Int)) ∨ (x ≤ -1 ∧ -x ≤ (n : Int))) : litOk x (n : Int) = true := by
 unfold litOk litVar;rcases h with h | h
 ·rw [if_pos (by omega)]; simp; omega
 ·rw [if_neg (by omega), if_pos (by omega)]; simp; omega
theorem termB_of {n : Nat} {t : List Int} (h1 : ∀ x ∈ t, litOk x (n : Int) = true) (h2 : ∀ x ∈ t, -x ∉ t) : termB (n : Int) t = true := by
 unfold termB;rw [Bool.and_eq_true];refine ⟨List.all_eq_true.2 h1, ?_⟩;rw [decide_eq_false (fun ⟨x, h3, h4⟩ => h2 x h3 h4)]
 rfl
theorem tmA_ok {n v pk sg : Nat} (hn : n ≤ 128) (h1 : 1 ≤ v) (h2 : v ≤ n) : termB (n : Int) (tmA v pk sg n) = true ∧ termB (n : Int) (tmA v pk sg n ++ [(v : Int)]) = true ∧ termB (n : Int) ([-(v : Int), -(v : Int)] ++ tmA v pk sg n) = true := by
 have hm : ∀ x ∈ tmA v pk sg n, ((1 ≤ x ∧ x ≤ (n : Int)) ∨ (x ≤ -1 ∧ -x ≤ (n : Int))) ∧ x ≠ (v : Int) ∧ x ≠ -(v : Int) := fun x hx => by
  obtain ⟨j, h3, h4, rfl⟩ := tmA_mem v pk sg x n hx
  split <;> omega
 have hd : ∀ x ∈ tmA v pk sg n, -x ∉ tmA v pk sg n := fun x hx hy => by
  obtain ⟨j, h3, h4, e1⟩ := tmA_mem v pk sg x n hx;obtain ⟨i, h5, h6, e2⟩ := tmA_mem v pk sg (-x) n hy
  have e : i = j := by
   have a1 : x.natAbs = j + 1 := by rw [e1]; split <;> omega
   have a2 : (-x).natAbs = i + 1 := by rw [e2]; split <;> omega
   omega
  subst e;cases hb : sg.testBit i
  ·rw [hb] at e1 e2;simp only [Bool.false_eq_true, if_false] at e1 e2;omega
  ·rw [hb] at e1 e2;simp only [if_true] at e1 e2;omega
 refine ⟨termB_of (fun x hx => litOk_of hn (hm x hx).1) hd, termB_of (fun x hx => ?_) (fun x hx hy => ?_), termB_of (fun x hx => ?_) (fun x hx hy => ?_)⟩
 ·rcases List.mem_append.1 hx with h | h
  ·exact litOk_of hn (hm x h).1
  ·obtain rfl := List.mem_singleton.1 h;exact litOk_of hn (by omega)
 ·rcases List.mem_append.1 hx with h | h <;> rcases List.mem_append.1 hy with h' | h'
  ·exact hd x h h'
  ·have := List.mem_singleton.1 h'
   have := (hm x h).2; omega
  ·obtain rfl := List.mem_singleton.1 h;exact (hm _ h').2.2 rfl
  ·have := List.mem_singleton.1 h; have := List.mem_singleton.1 h'; omega
 ·rcases List.mem_append.1 hx with h | h
  ·have : x = -(v : Int) := by simpa using h
   exact litOk_of hn (by omega)
  ·exact litOk_of hn (hm x h).1
 ·rcases List.mem_append.1 hx with h | h <;> rcases List.mem_append.1 hy with h' | h'
  ·have : x = -(v : Int) := by simpa using h
   have : -x = -(v : Int) := by simpa using h'
   omega
  ·have e : x = -(v : Int) := by simpa using h
   subst e;rw [Int.neg_neg] at h';exact (hm _ h').2.1 rfl
  ·have : -x = -(v : Int) := by simpa using h'
   have e : x = (v : Int) := by omega
   exact (hm x h).2.1 e
  ·exact hd x h h'
end
end Cs
