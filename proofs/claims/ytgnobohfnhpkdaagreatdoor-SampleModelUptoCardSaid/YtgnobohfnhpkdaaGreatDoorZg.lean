/- Plain facts of the chapter's examples by weight: the readings of their texts, and what is drawn. Plain facts: whole weights are whole; what is drawn by weight is a model of a weight that is not 0. -/
import Derived.Test.YtgnobohfnhpkdaaGreatDoorZd
import Derived.Test.YtgnobohfnhpkdaaGreatDoorZa
import Derived.Test.YtgnobohfnhpkdaaGreatDoorYn
import Derived.Test.YtgnobohfnhpkdaaGreatDoorYs
section
set_option linter.unusedSimpArgs false
set_option linter.unusedVariables false
open Go Go.RowKit Cs
namespace Go.Proofs.YtgnobohfnhpkdaaGreatDoor
theorem rd_of (q : Rat) (s : ByteArray) (h0 : 0 ≤ q) (h1 : decN (qn q) ≤ 2000) (h2 : decN q.den ≤ 2000) (hs : qtext q = s) : rdO s = some q := by
  rw [← hs]; exact rdO_text h0 h1 h2
theorem rd0 : rdO ⟨#[48]⟩ = some 0 := rd_of 0 _ (by decide +kernel) (by decide +kernel) (by decide +kernel) (by decide +kernel)
theorem prT_of {s : ByteArray} {q : Rat} (h : rdO s = some q) {p : Pr} (hp : (qn q, q.den) = p) : prT s = p := by unfold prT; rw [h]; exact hp
theorem dec_lt (V k : Nat) (h : (dec V).size ≤ k) : V < 10 ^ k := by
  rw [dec_size] at h
  exact Nat.lt_of_lt_of_le (lt_pow_nd 10 V (by decide)) (Nat.pow_le_pow_right (by decide) (Nat.le_trans (nd_decN V) h))
theorem okT_lt {s : ByteArray} {q : Rat} (h : rdO s = some q) (hs : s.size ≤ 9) : qn q < 10 ^ 9 ∧ q.den < 10 ^ 9 := by
  obtain ⟨h0, e, _, _⟩ := rdO_spec h
  unfold qtext at e
  by_cases hd : q.den = 1
  · rw [if_pos hd] at e
    rw [e] at hs
    exact ⟨dec_lt _ _ hs, by rw [hd]; decide⟩
  · rw [if_neg hd] at e
    have : s.size = (dec (qn q)).size + 1 + (dec q.den).size := by rw [e, ByteArray.size_append, ByteArray.size_append]; rfl
    exact ⟨dec_lt _ _ (by omega), dec_lt _ _ (by omega)⟩
theorem n8_nine {V : Nat} (h : V < 10 ^ 9) : n8 V ≤ 4 := (n8_le 4 V).2 (Nat.lt_of_lt_of_le h (by decide))
theorem Tiny.nil : Tiny (0, 0) := ⟨by decide +kernel, by decide +kernel⟩
theorem okL_wg {L : List ByteArray} (h : okL L L.length) : WgOk (prL L) := fun k => by
  by_cases hk : k < L.length
  · rw [prL_get L k hk]
    obtain ⟨⟨q, hq⟩, hs⟩ := h k hk
    obtain ⟨h1, h2⟩ := okT_lt hq hs
    have e : prT (L.getD k ⟨#[]⟩) = (qn q, q.den) := prT_of hq rfl
    rw [e]
    exact ⟨Lp.pq (rdO_spec hq).1, Nat.le_trans (n8_nine h1) (by decide), Nat.le_trans (n8_nine h2) (by decide)⟩
  · have : (prL L).getD k (0, 0) = (0, 0) := by
      rw [List.getD_eq_getElem?_getD, List.getElem?_eq_none (by unfold prL; rw [List.length_map]; omega)]
      rfl
    rw [this]
    exact ⟨Lp.zero, Tiny.nil⟩
end Go.Proofs.YtgnobohfnhpkdaaGreatDoor
end
section
set_option linter.unusedSimpArgs false
set_option linter.unusedVariables false
open Go Go.RowKit Cs
namespace Cs
theorem qq_whole (n d k : Nat) : qq n d * ((qd d * k : Nat) : Rat) = ((n * k : Nat) : Rat) := by
  have e : qq n d * qq (qd d * k) 1 = qq (n * (qd d * k)) (qd d * qd 1) := (qq_mul _ _ _ _).symm
  rw [← qq_one (qd d * k), e, ← qq_one (n * k), qq_eq_iff]
  show n * (qd d * k) * qd 1 = n * k * qd (qd d * 1)
  rw [Nat.mul_one, qd_of (qd_pos d), show qd 1 = 1 from rfl]
  simp only [Nat.mul_one]
  rw [← Nat.mul_assoc, Nat.mul_right_comm]
theorem wMul_at (p : Pr) (k : Nat) : wMul p (qd p.2 * k) = (p.1 * k, 1) := by
  unfold wMul qp pq
  rw [qq_whole]
  rfl
theorem wLcm_left (p q : Pr) : wLcm p q = qd p.2 * (qd q.2 / Nat.gcd (qd p.2) (qd q.2)) := by
  unfold wLcm
  exact Nat.mul_div_assoc _ (Nat.gcd_dvd_right _ _)
theorem wLcm_right (p q : Pr) : wLcm p q = qd q.2 * (qd p.2 / Nat.gcd (qd p.2) (qd q.2)) := by
  unfold wLcm
  rw [Nat.mul_comm]
  exact Nat.mul_div_assoc _ (Nat.gcd_dvd_left _ _)
def fL (p q : Pr) : Nat := qd q.2 / Nat.gcd (qd p.2) (qd q.2)
def fH (p q : Pr) : Nat := qd p.2 / Nat.gcd (qd p.2) (qd q.2)
theorem wMul_left (p q : Pr) : wMul p (wLcm p q) = (p.1 * fL p q, 1) := by rw [wLcm_left, wMul_at]; rfl
theorem wMul_right (p q : Pr) : wMul q (wLcm p q) = (q.1 * fH p q, 1) := by rw [wLcm_right, wMul_at]; rfl
theorem wSt_at {n : Nat} {lo hi : List Pr} (hl : lo.length = n + 1) (hh : hi.length = n + 1) (k : Nat) :
    (wSt lo hi (n + 1)).1.getD k (0, 0) = (if k < n + 1 then ((lo.getD k (0, 0)).1 * fL (lo.getD k (0, 0)) (hi.getD k (0, 0)), 1) else (0, 0)) ∧
    (wSt lo hi (n + 1)).2.getD k (0, 0) = (if k < n + 1 then ((hi.getD k (0, 0)).1 * fH (lo.getD k (0, 0)) (hi.getD k (0, 0)), 1) else (0, 0)) := by
  obtain ⟨g1, g2⟩ := wSt_get lo hi (n + 1) hl hh (n + 1) (Nat.le_refl _) k
  rw [g1, g2]
  by_cases h : k < n + 1
  · rw [if_pos h, if_pos h, if_pos h, if_pos h, wMul_left, wMul_right]
    exact ⟨rfl, rfl⟩
  · rw [if_neg h, if_neg h, if_neg h, if_neg h]
    have o : ∀ L : List Pr, L.length = n + 1 → L.getD k (0, 0) = (0, 0) := fun L hL => by
      rw [List.getD_eq_getElem?_getD, List.getElem?_eq_none (by omega)]; rfl
    exact ⟨o lo hl, o hi hh⟩
theorem wSt_wh {n : Nat} {lo hi : List Pr} (h1 : WgOk lo) (h2 : WgOk hi) (hl : lo.length = n + 1) (hh : hi.length = n + 1) : WhIn (wSt lo hi (n + 1)).1 (wSt lo hi (n + 1)).2 := by
  have hin := wSt_in h1 h2 hl hh
  refine ⟨hin.pl, hin.ph, fun k => ?_, fun k => ?_⟩
  · rw [(wSt_at hl hh k).1]
    split
    · exact Nat.le_refl 1
    · exact Nat.zero_le _
  · rw [(wSt_at hl hh k).2]
    split
    · exact Nat.le_refl 1
    · exact Nat.zero_le _
theorem term_pos (W : Int → Nat) (a : Nat) : ∀ k, 0 < (RN 0).term W k a → ∀ i, i < k → 0 < (if a.testBit i then W ((i : Int) + 1) else W (-((i : Int) + 1)))
  | 0, _, i, hi => by omega
  | k + 1, h, i, hi => by
    have h' : 0 < (RN 0).term W k a * (if a.testBit k then W ((k : Int) + 1) else W (-((k : Int) + 1))) := h
    by_cases hik : i = k
    · subst hik
      exact Nat.pos_of_mul_pos_left h'
    · exact term_pos W a k (Nat.pos_of_mul_pos_right h') i (by omega)
theorem tkR_ok {N : Nt} {n : Nat} {lo hi : List Pr} {bs : List Nat} (he : (tkR N n lo hi bs).e = 0) (hok : (tkR N n lo hi bs).ok = true) :
    wfit N n lo hi = 0 ∧ totN N n lo hi ≠ 0 ∧ ∃ r u, drawN (totN N n lo hi) bs = some (r, u) ∧ (tkR N n lo hi bs).a = choiceN N n lo hi r := by
  unfold tkR at he hok ⊢
  by_cases h0 : wfit N n lo hi = 0
  · rw [if_pos h0] at he hok ⊢
    by_cases h1 : totN N n lo hi = 0
    · rw [if_pos h1] at he; exact absurd he (by decide)
    · rw [if_neg h1] at he hok ⊢
      refine ⟨h0, h1, ?_⟩
      cases hd : drawN (totN N n lo hi) bs with
      | none => rw [hd] at hok; exact absurd hok (by show ¬ false = true; decide)
      | some x => obtain ⟨r, u⟩ := x; exact ⟨r, u, rfl, rfl⟩
  · rw [if_neg h0] at he; exact absurd he h0
theorem wg_model {N : Nt} {n : Nat} (hn : N.n = (n : Int)) (hc : cchk N = 0) (hdet : ∀ s, s < 2 ^ n → detAt N s = true) {lo hi : List Pr} (h1 : WgOk lo) (h2 : WgOk hi) (bs : List Nat) (he : (wgR N lo hi bs).e = 0) (hok : (wgR N lo hi bs).ok = true) :
    lo.length = n + 1 ∧ hi.length = n + 1 ∧ (wgR N lo hi bs).a < 2 ^ n ∧ evB N (wgR N lo hi bs).a = true ∧
      ∀ v, v < n → (if (wgR N lo hi bs).a.testBit v = true then (hi.getD (v + 1) (0, 0)).1 else (lo.getD (v + 1) (0, 0)).1) ≠ 0 := by
  have hv := cchk_vld hc
  obtain ⟨hdc, _⟩ := cchk_zero hv hc
  have htn : N.n.toNat = n := by omega
  by_cases hlen : vld N = true ∧ (lo.length : Int) = N.n + 1 ∧ (hi.length : Int) = N.n + 1
  · obtain ⟨_, e1, e2⟩ := hlen
    have hl : lo.length = n + 1 := by omega
    have hh : hi.length = n + 1 := by omega
    unfold wgR at he hok ⊢
    by_cases hw : wchk N lo hi = 0
    · rw [if_pos hw, htn] at he hok ⊢
      obtain ⟨k0, k1, r, u, hd, ha⟩ := tkR_ok he hok
      rw [ha]
      have hr := (drawN_at hd).2.1
      have hwh := wSt_wh h1 h2 hl hh
      obtain ⟨c1, c2, _, _⟩ := choice_pos hv hdc hn hwh r hr
      generalize choiceN N n (wSt lo hi (n + 1)).1 (wSt lo hi (n + 1)).2 r = A at *
      have hm : 0 < mlt N A := Nat.pos_of_mul_pos_left c2
      have ht := Nat.pos_of_mul_pos_right c2
      refine ⟨hl, hh, c1, ?_, fun v hvn => ?_⟩
      · rw [mlt_ev hv _ (hdet _ c1)] at hm
        cases hb : evB N A
        · rw [hb] at hm; exact absurd hm (by decide)
        · rfl
      · have h := term_pos _ A n ht v hvn
        by_cases hb : A.testBit v = true
        · rw [if_pos hb] at h ⊢
          unfold WN plit at h
          have n1 : ((v : Int) + 1).natAbs = v + 1 := by omega
          rw [n1, if_pos ⟨by omega, by omega⟩, if_neg (by omega), (wSt_at hl hh (v + 1)).2, if_pos (by omega)] at h
          intro h0
          simp only [h0, Nat.zero_mul] at h
          exact absurd h (by decide)
        · rw [if_neg hb] at h ⊢
          unfold WN plit at h
          have n1 : (-((v : Int) + 1)).natAbs = v + 1 := by omega
          rw [n1, if_pos ⟨by omega, by omega⟩, if_pos (by omega), (wSt_at hl hh (v + 1)).1, if_pos (by omega)] at h
          intro h0
          simp only [h0, Nat.zero_mul] at h
          exact absurd h (by decide)
    · rw [if_neg hw] at he
      exact absurd he hw
  · unfold wgR at he
    have ec : wchk N lo hi = 1 := by unfold wchk; rw [if_neg hlen]
    rw [ec, if_neg (by decide)] at he
    exact absurd he (by decide)
end Cs
namespace Go.Proofs.YtgnobohfnhpkdaaGreatDoor
theorem prT_ne {s : ByteArray} (h : (prT s).1 ≠ 0) : s ≠ ⟨#[48]⟩ := fun e => by
  rw [e, prT_of rd0 (p := (0, 1)) (by decide +kernel)] at h
  exact h rfl
end Go.Proofs.YtgnobohfnhpkdaaGreatDoor
end
