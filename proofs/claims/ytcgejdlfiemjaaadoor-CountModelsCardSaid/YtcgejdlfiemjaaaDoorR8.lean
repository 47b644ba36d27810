/- What lies in memory while the reference's Sum runs, and its bounds. -/
import Derived.Test.YtcgejdlfiemjaaaDoorR7
set_option linter.unusedSimpArgs false
set_option linter.unusedVariables false
open Go Go.RowKit Cs
namespace Cs
section
variable {lw hw : List (List Nat)} {N : Nt}
theorem RF_pre_ev (W : WOK lw hw) (h : shortB N = true) (k : Nat) (hk : k ≤ N.l.length) (j : Nat) : ev ((scan ((RF lw hw).step (own N.l)) [] (N.l.take k)).getD j []) < big := by
  have h1 := ((RF_R1 W).all (own N.l) (N.l.take k)).2 j
  unfold Rg.all at h1
  refine Nat.lt_of_le_of_lt h1 ?_
  by_cases hj : j < k
  · rw [show R1.zero = 0 from rfl, scan_get _ _ _ _ _ hk hj]; exact shortB_all h j
  · rw [show R1.zero = 0 from rfl, List.getD_eq_getElem?_getD, List.getElem?_eq_none (by rw [scan_len _ _ _ hk]; omega)]
    exact Nat.lt_trans Nat.zero_lt_one big_one
theorem RF_part_ev (W : WOK lw hw) (h : shortB N = true) (k : Nat) (hk : k < N.l.length) (m : Nat) :
    ev ((N.l[k].ins.take m).foldl ((RF lw hw).in1 (own N.l) (scan ((RF lw hw).step (own N.l)) [] (N.l.take k)) N.l[k]) ((RF lw hw).start N.l[k])) < big := by
  have h1 := (RF_R1 W).fold ((RF_R1 W).all (own N.l) (N.l.take k)) (own N.l) N.l[k] (N.l[k].ins.take m) _ _ ((RF_R1 W).start N.l[k])
  unfold Rg.all at h1
  exact Nat.lt_of_le_of_lt h1 (shortB_part h k hk m)
theorem RF_pre_len (W : WOK lw hw) (hv : vld N = true) (hd : dcmp N = true) (k : Nat) (hk : k ≤ N.l.length) (j : Nat) : ((scan ((RF lw hw).step (own N.l)) [] (N.l.take k)).getD j []).length ≤ 1000 := by
  have h1 := ((RF_RC W).all (own N.l) (N.l.take k)).2 j
  unfold Rg.all at h1
  refine Nat.le_trans h1 ?_
  by_cases hj : j < k
  · have h2 := RC_all_len hv hd k hk j hj
    have h3 := crd_le ((own N.l).getD j 0)
    rw [show RC.zero = [] from rfl]
    omega
  · rw [show RC.zero = [] from rfl, List.getD_eq_getElem?_getD, List.getElem?_eq_none (by rw [scan_len _ _ _ hk]; omega)]
    simp
theorem RF_part_len (W : WOK lw hw) (hv : vld N = true) (hd : dcmp N = true) (k : Nat) (hk : k < N.l.length) (m : Nat) :
    ((N.l[k].ins.take m).foldl ((RF lw hw).in1 (own N.l) (scan ((RF lw hw).step (own N.l)) [] (N.l.take k)) N.l[k]) ((RF lw hw).start N.l[k])).length ≤ 1000 := by
  have h1 := (RF_RC W).fold ((RF_RC W).all (own N.l) (N.l.take k)) (own N.l) N.l[k] (N.l[k].ins.take m) _ _ ((RF_RC W).start N.l[k])
  unfold Rg.all at h1
  have h2 := RC_part_len hv hd k hk (scan (RC.step (own N.l)) [] (N.l.take k)) (scan_len _ _ _ (by omega)) (RC_all_len hv hd k (by omega)) m
  have h3 := crd_le ((own N.l).getD k 0)
  omega
end
end Cs
namespace Go.Proofs.YtcgejdlfiemjaaaDoor
/-- The values U are the polynomials L, in rows of strings. -/
def RPls (w : World) (U : List Value) (L : List (List Nat)) : Prop := U.length = L.length ∧ ∀ j, j < U.length → ∃ A c, U[j]? = some (Value.slice A (L.getD j []).length c) ∧ (L.getD j []).length ≤ c ∧ RdS w w.heap.size A (L.getD j [])
theorem RPls.below {w w' : World} {U : List Value} {L : List (List Nat)} (h : RPls w U L) (hb : Below w.heap.size w w') : RPls w' U L :=
  ⟨h.1, fun j hj => let ⟨A, c, h1, h2, h3⟩ := h.2 j hj; ⟨A, c, h1, h2, (h3.below hb).more hb.size⟩⟩
theorem RPls.nil (w : World) : RPls w [] [] := ⟨rfl, fun j hj => by simp at hj⟩
theorem RPls.snoc {w : World} {U : List Value} {L : List (List Nat)} {A : Option Addr} {c : Nat} {p : List Nat} (h : RPls w U L) (hc : p.length ≤ c) (hr : RdS w w.heap.size A p) : RPls w (U ++ [.slice A p.length c]) (L ++ [p]) := by
  refine ⟨by simp [h.1], fun j hj => ?_⟩
  have hLs : (L ++ [p]).getD j [] = if j = L.length then p else L.getD j [] := pgetD_snoc L p j
  rcases Nat.lt_or_ge j U.length with h1 | h1
  · obtain ⟨A', c', g1, g2, g3⟩ := h.2 j h1
    rw [hLs, if_neg (by have := h.1; omega)]
    exact ⟨A', c', by rw [List.getElem?_append_left h1]; exact g1, g2, g3⟩
  · have hje : j = U.length := by simp at hj; omega
    subst hje
    rw [hLs, if_pos h.1]
    exact ⟨A, c, by simp, hc, hr⟩
/-- An append to a row of another type leaves them. -/
theorem RdS.grown {w w' : World} {A : Option Addr} {p : List Nat} {row : Option Nat} (h : RdS w w.heap.size A p) (hg : w.grownBy w' row) (hty : ∀ b, row = some b → ∃ cs T fr, w.heap[b]? = some (.cells cs T fr) ∧ T ≠ 9) : RdS w' w'.heap.size A p := by
  have hne : 0 < p.length → ∀ b o, A = some ⟨b, o, none⟩ → b < w.heap.size ∧ some b ≠ row := fun hn b o e => by
    obtain ⟨cs, fr, hc⟩ := h.2 hn b o e
    refine ⟨(Array.getElem?_eq_some_iff.1 hc).1, fun er => ?_⟩
    obtain ⟨cs', T, fr', hc', hT⟩ := hty b er.symm
    rw [hc] at hc'
    injection hc' with hc'
    injection hc' with _ h2 _
    exact hT h2.symm
  refine ⟨fun hn => ?_, fun hn b o e => ?_⟩
  · obtain ⟨b, o, e, hb, hcs⟩ := h.1 hn
    exact ⟨b, o, e, Nat.lt_of_lt_of_le hb hg.size, fun i hi => hg.cell (hcs i hi) (hne hn b o e).2⟩
  · obtain ⟨cs, fr, hc⟩ := h.2 hn b o e
    obtain ⟨h1, h2⟩ := hne hn b o e
    exact ⟨cs, fr, by rw [hg.block b h1 h2]; exact hc⟩
theorem RPls.grown {w w' : World} {U : List Value} {L : List (List Nat)} {row : Option Nat} (h : RPls w U L) (hg : w.grownBy w' row) (hty : ∀ b, row = some b → ∃ cs T fr, w.heap[b]? = some (.cells cs T fr) ∧ T ≠ 9) : RPls w' U L :=
  ⟨h.1, fun j hj => let ⟨A, c, h1, h2, h3⟩ := h.2 j hj; ⟨A, c, h1, h2, h3.grown hg hty⟩⟩
theorem oneSlice {A : Option Addr} {n c : Nat} (u : Value) (h : u ∈ [Value.slice A n c]) : u.oneCell' = true := by
  simp at h; subst h; rfl
theorem info_poly : (Tryd.prog.info? 69).map (fun i => (i.zero, i.size, i.bytes)) = some (some (.slice none 0 0), 1, 24) := by kernel_rfl
end Go.Proofs.YtcgejdlfiemjaaaDoor
