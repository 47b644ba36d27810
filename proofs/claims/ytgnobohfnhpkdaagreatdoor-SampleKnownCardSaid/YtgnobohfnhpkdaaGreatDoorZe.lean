/- Plain facts of the chapter's examples by weight: the readings of their texts, and what is drawn. -/
import Derived.Test.YtgnobohfnhpkdaaGreatDoorZd
import Derived.Test.YtgnobohfnhpkdaaGreatDoorZa
import Derived.Test.YtgnobohfnhpkdaaGreatDoorYn
set_option linter.unusedSimpArgs false
set_option linter.unusedVariables false
open Go Go.RowKit Cs
namespace Go.Proofs.YtgnobohfnhpkdaaGreatDoor
theorem rd_of (q : Rat) (s : ByteArray) (h0 : 0 ≤ q) (h1 : decN (qn q) ≤ 2000) (h2 : decN q.den ≤ 2000) (hs : qtext q = s) : rdO s = some q := by
  rw [← hs]; exact rdO_text h0 h1 h2
theorem rd0 : rdO ⟨#[48]⟩ = some 0 := rd_of 0 _ (by decide +kernel) (by decide +kernel) (by decide +kernel) (by decide +kernel)
theorem rd1 : rdO ⟨#[49]⟩ = some 1 := rd_of 1 _ (by decide +kernel) (by decide +kernel) (by decide +kernel) (by decide +kernel)
theorem rd34 : rdO ⟨#[51, 47, 52]⟩ = some (mkRat 3 4) := rd_of _ _ (by decide +kernel) (by decide +kernel) (by decide +kernel) (by decide +kernel)
theorem rd12 : rdO ⟨#[49, 47, 50]⟩ = some (mkRat 1 2) := rd_of _ _ (by decide +kernel) (by decide +kernel) (by decide +kernel) (by decide +kernel)
theorem rd14 : rdO ⟨#[49, 47, 52]⟩ = some (mkRat 1 4) := rd_of _ _ (by decide +kernel) (by decide +kernel) (by decide +kernel) (by decide +kernel)
def kLo : List ByteArray := [⟨#[48]⟩, ⟨#[51, 47, 52]⟩, ⟨#[49, 47, 50]⟩]
def kHi : List ByteArray := [⟨#[48]⟩, ⟨#[49, 47, 52]⟩, ⟨#[49, 47, 50]⟩]
def kSh : List ByteArray := [⟨#[48]⟩, ⟨#[49]⟩]
def kLoP : List Pr := [(0, 1), (3, 4), (1, 2)]
def kHiP : List Pr := [(0, 1), (1, 4), (1, 2)]
def kShP : List Pr := [(0, 1), (1, 1)]
theorem prT_of {s : ByteArray} {q : Rat} (h : rdO s = some q) {p : Pr} (hp : (qn q, q.den) = p) : prT s = p := by unfold prT; rw [h]; exact hp
theorem kLo_pr : prL kLo = kLoP := by
  unfold prL kLo kLoP
  simp only [List.map_cons, List.map_nil]
  rw [prT_of rd0 (p := (0, 1)) (by decide +kernel), prT_of rd34 (p := (3, 4)) (by decide +kernel), prT_of rd12 (p := (1, 2)) (by decide +kernel)]
theorem kHi_pr : prL kHi = kHiP := by
  unfold prL kHi kHiP
  simp only [List.map_cons, List.map_nil]
  rw [prT_of rd0 (p := (0, 1)) (by decide +kernel), prT_of rd14 (p := (1, 4)) (by decide +kernel), prT_of rd12 (p := (1, 2)) (by decide +kernel)]
theorem kSh_pr : prL kSh = kShP := by
  unfold prL kSh kShP
  simp only [List.map_cons, List.map_nil]
  rw [prT_of rd0 (p := (0, 1)) (by decide +kernel), prT_of rd1 (p := (1, 1)) (by decide +kernel)]
theorem kLo_ok : okL kLo kLo.length := fun i hi => by
  match i, hi with
  | 0, _ => exact ⟨⟨_, rd0⟩, by decide⟩
  | 1, _ => exact ⟨⟨_, rd34⟩, by decide⟩
  | 2, _ => exact ⟨⟨_, rd12⟩, by decide⟩
theorem kHi_ok : okL kHi kHi.length := fun i hi => by
  match i, hi with
  | 0, _ => exact ⟨⟨_, rd0⟩, by decide⟩
  | 1, _ => exact ⟨⟨_, rd14⟩, by decide⟩
  | 2, _ => exact ⟨⟨_, rd12⟩, by decide⟩
theorem kSh_ok : okL kSh kSh.length := fun i hi => by
  match i, hi with
  | 0, _ => exact ⟨⟨_, rd0⟩, by decide⟩
  | 1, _ => exact ⟨⟨_, rd1⟩, by decide⟩
theorem dec_lt (V k : Nat) (h : (dec V).size ≤ k) : V < 10 ^ k := by
  rw [dec_size] at h
  exact Nat.lt_of_lt_of_le (lt_pow_nd 10 V (by decide)) (Nat.pow_le_pow_right (by decide) (Nat.le_trans (nd_decN V) h))
/-- The numbers of a text of at most nine bytes are below a thousand million. -/
theorem okT_lt {s : ByteArray} {q : Rat} (h : rdO s = some q) (hs : s.size ≤ 9) : qn q < 10 ^ 9 ∧ q.den < 10 ^ 9 := by
  obtain ⟨h0, e, _, _⟩ := rdO_spec h
  unfold qtext at e
  by_cases hd : q.den = 1
  · rw [if_pos hd] at e
    rw [e] at hs
    exact ⟨dec_lt _ _ hs, by rw [hd]; decide⟩
  · rw [if_neg hd] at e
    have : s.size = (dec (qn q)).size + 1 + (dec q.den).size := by rw [e, ByteArray.size_append, ByteArray.size_append]; rfl
    exact ⟨dec_lt _ _ (by omega), dec_lt _ _ (by omega)⟩
theorem n8_nine {V : Nat} (h : V < 10 ^ 9) : n8 V ≤ 4 := (n8_le 4 V).2 (Nat.lt_of_lt_of_le h (by decide))
theorem Tiny.nil : Tiny (0, 0) := ⟨by decide +kernel, by decide +kernel⟩
theorem okL_wg {L : List ByteArray} (h : okL L L.length) : WgOk (prL L) := fun k => by
  by_cases hk : k < L.length
  · rw [prL_get L k hk]
    obtain ⟨⟨q, hq⟩, hs⟩ := h k hk
    obtain ⟨h1, h2⟩ := okT_lt hq hs
    have e : prT (L.getD k ⟨#[]⟩) = (qn q, q.den) := prT_of hq rfl
    rw [e]
    exact ⟨Lp.pq (rdO_spec hq).1, Nat.le_trans (n8_nine h1) (by decide), Nat.le_trans (n8_nine h2) (by decide)⟩
  · have : (prL L).getD k (0, 0) = (0, 0) := by
      rw [List.getD_eq_getElem?_getD, List.getElem?_eq_none (by unfold prL; rw [List.length_map]; omega)]
      rfl
    rw [this]
    exact ⟨Lp.zero, Tiny.nil⟩
theorem kLo_wg : WgOk kLoP := by rw [← kLo_pr]; exact okL_wg kLo_ok
theorem kHi_wg : WgOk kHiP := by rw [← kHi_pr]; exact okL_wg kHi_ok
theorem kSh_wg : WgOk kShP := by rw [← kSh_pr]; exact okL_wg kSh_ok
theorem k_wg : wgR chpN kLoP kHiP [64] = ⟨2, 3, true, 0⟩ := by decide +kernel
theorem k_short : wgR chpN kShP kShP [64] = Tk.no 1 := by decide +kernel
theorem k_none : dwR chpN [] = ⟨0, 0, false, 0⟩ := by decide +kernel
end Go.Proofs.YtgnobohfnhpkdaaGreatDoor
