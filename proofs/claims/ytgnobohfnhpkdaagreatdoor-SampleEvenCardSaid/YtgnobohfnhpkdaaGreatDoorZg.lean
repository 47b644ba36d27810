import Derived.Test.YtgnobohfnhpkdaaGreatDoorZd
import Derived.Test.YtgnobohfnhpkdaaGreatDoorZa
import Derived.Test.YtgnobohfnhpkdaaGreatDoorFw
import Derived.Test.YtgnobohfnhpkdaaGreatDoorYr
set_option linter.unusedSimpArgs false
set_option linter.unusedVariables false
section
open Go Go.RowKit Cs
namespace Go.Proofs.YtgnobohfnhpkdaaGreatDoor
theorem rd_of (q : Rat) (s : ByteArray) (h0 : 0 ≤ q) (h1 : decN (qn q) ≤ 2000) (h2 : decN q.den ≤ 2000) (hs : qtext q = s) : rdO s = some q := by
 rw [← hs]; exact rdO_text h0 h1 h2
theorem rd1 : rdO ⟨#[49]⟩ = some 1 := rd_of 1 _ (by decide +kernel) (by decide +kernel) (by decide +kernel) (by decide +kernel)
theorem prT_of {s : ByteArray} {q : Rat} (h : rdO s = some q) {p : Pr} (hp : (qn q, q.den) = p) : prT s = p := by unfold prT; rw [h]; exact hp
theorem dec_lt (V k : Nat) (h : (dec V).size ≤ k) : V < 10 ^ k := by
 rw [dec_size] at h;exact Nat.lt_of_lt_of_le (lt_pow_nd 10 V (by decide)) (Nat.pow_le_pow_right (by decide) (Nat.le_trans (nd_decN V) h))
theorem okT_lt {s : ByteArray} {q : Rat} (h : rdO s = some q) (hs : s.size ≤ 9) : qn q < 10 ^ 9 ∧ q.den < 10 ^ 9 := by
 obtain ⟨h0, e, _, _⟩ := rdO_spec h;unfold qtext at e;by_cases hd : q.den = 1
 ·rw [if_pos hd] at e;rw [e] at hs;exact ⟨dec_lt _ _ hs, by rw [hd]; decide⟩
 ·rw [if_neg hd] at e
  have : s.size = (dec (qn q)).size + 1 + (dec q.den).size := by rw [e, ByteArray.size_append, ByteArray.size_append]; rfl
  exact ⟨dec_lt _ _ (by omega), dec_lt _ _ (by omega)⟩
theorem n8_nine {V : Nat} (h : V < 10 ^ 9) : n8 V ≤ 4 := (n8_le 4 V).2 (Nat.lt_of_lt_of_le h (by decide))
theorem Tiny.nil : Tiny (0, 0) := ⟨by decide +kernel, by decide +kernel⟩
theorem okL_wg {L : List ByteArray} (h : okL L L.length) : WgOk (prL L) := fun k => by
 by_cases hk : k < L.length
 ·rw [prL_get L k hk];obtain ⟨⟨q, hq⟩, hs⟩ := h k hk;obtain ⟨h1, h2⟩ := okT_lt hq hs;have e : prT (L.getD k ⟨#[]⟩) = (qn q, q.den) := prT_of hq rfl;rw [e];exact ⟨Lp.pq (rdO_spec hq).1, Nat.le_trans (n8_nine h1) (by decide), Nat.le_trans (n8_nine h2) (by decide)⟩
 ·have : (prL L).getD k (0, 0) = (0, 0) := by
   rw [List.getD_eq_getElem?_getD, List.getElem?_eq_none (by unfold prL; rw [List.length_map]; omega)]
   rfl
  rw [this];exact ⟨Lp.zero, Tiny.nil⟩
end Go.Proofs.YtgnobohfnhpkdaaGreatDoor
end
section
open Go Go.RowKit Cs
namespace Cs
theorem qq_whole (n d k : Nat) : qq n d * ((qd d * k : Nat) : Rat) = ((n * k : Nat) : Rat) := by
 have e : qq n d * qq (qd d * k) 1 = qq (n * (qd d * k)) (qd d * qd 1) := (qq_mul _ _ _ _).symm;rw [← qq_one (qd d * k), e, ← qq_one (n * k), qq_eq_iff];show n * (qd d * k) * qd 1 = n * k * qd (qd d * 1);rw [Nat.mul_one, qd_of (qd_pos d), show qd 1 = 1 from rfl];simp only [Nat.mul_one];rw [← Nat.mul_assoc, Nat.mul_right_comm]
theorem wMul_at (p : Pr) (k : Nat) : wMul p (qd p.2 * k) = (p.1 * k, 1) := by
 unfold wMul qp pq;rw [qq_whole]
 rfl
theorem wLcm_left (p q : Pr) : wLcm p q = qd p.2 * (qd q.2 / Nat.gcd (qd p.2) (qd q.2)) := by
 unfold wLcm;exact Nat.mul_div_assoc _ (Nat.gcd_dvd_right _ _)
theorem wLcm_right (p q : Pr) : wLcm p q = qd q.2 * (qd p.2 / Nat.gcd (qd p.2) (qd q.2)) := by
 unfold wLcm;rw [Nat.mul_comm];exact Nat.mul_div_assoc _ (Nat.gcd_dvd_left _ _)
def fL (p q : Pr) : Nat := qd q.2 / Nat.gcd (qd p.2) (qd q.2)
def fH (p q : Pr) : Nat := qd p.2 / Nat.gcd (qd p.2) (qd q.2)
theorem wMul_left (p q : Pr) : wMul p (wLcm p q) = (p.1 * fL p q, 1) := by rw [wLcm_left, wMul_at]; rfl
theorem wMul_right (p q : Pr) : wMul q (wLcm p q) = (q.1 * fH p q, 1) := by rw [wLcm_right, wMul_at]; rfl
theorem wSt_at {n : Nat} {lo hi : List Pr} (hl : lo.length = n + 1) (hh : hi.length = n + 1) (k : Nat) :
  (wSt lo hi (n + 1)).1.getD k (0, 0) = (if k < n + 1 then ((lo.getD k (0, 0)).1 * fL (lo.getD k (0, 0)) (hi.getD k (0, 0)), 1) else (0, 0)) ∧
  (wSt lo hi (n + 1)).2.getD k (0, 0) = (if k < n + 1 then ((hi.getD k (0, 0)).1 * fH (lo.getD k (0, 0)) (hi.getD k (0, 0)), 1) else (0, 0)) := by
 obtain ⟨g1, g2⟩ := wSt_get lo hi (n + 1) hl hh (n + 1) (zqn _) k;rw [g1, g2];by_cases h : k < n + 1
 ·rw [if_pos h, if_pos h, if_pos h, if_pos h, wMul_left, wMul_right];exact ⟨rfl, rfl⟩
 ·rw [if_neg h, if_neg h, if_neg h, if_neg h]
  have o : ∀ L : List Pr, L.length = n + 1 → L.getD k (0, 0) = (0, 0) := fun L hL => by
   rw [List.getD_eq_getElem?_getD, List.getElem?_eq_none (by omega)]; rfl
  exact ⟨o lo hl, o hi hh⟩
theorem wSt_wh {n : Nat} {lo hi : List Pr} (h1 : WgOk lo) (h2 : WgOk hi) (hl : lo.length = n + 1) (hh : hi.length = n + 1) : WhIn (wSt lo hi (n + 1)).1 (wSt lo hi (n + 1)).2 := by
 have hin := wSt_in h1 h2 hl hh;refine ⟨hin.pl, hin.ph, fun k => ?_, fun k => ?_⟩
 ·rw [(wSt_at hl hh k).1];split
  ·exact Nat.le_refl 1
  ·exact Nat.zero_le _
 ·rw [(wSt_at hl hh k).2];split
  ·exact Nat.le_refl 1
  ·exact Nat.zero_le _
end Cs
end
