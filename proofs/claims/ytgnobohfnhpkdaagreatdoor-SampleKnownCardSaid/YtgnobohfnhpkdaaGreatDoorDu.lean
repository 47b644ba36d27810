/- The walk of weigh.Total. -/
import Derived.Test.YtgnobohfnhpkdaaGreatDoorDt
set_option linter.unusedSimpArgs false
set_option linter.unusedVariables false
open Go Go.RowKit Cs
namespace Cs
theorem Lp_bits {p : Pr} (h : Lp p) : pbits p = nd 2 (qn (qp p)) + nd 2 (qp p).den := by
  unfold pbits qp
  rw [← h.1, h.qd]
theorem bitsW_sumB {n : Nat} {lo hi : List Pr} (hl : ∀ k, Lp (lo.getD k (0, 0))) (hh : ∀ k, Lp (hi.getD k (0, 0))) : ∀ m, m ≤ n → bitsW (Wq n lo hi) m = sumB lo m + sumB hi m
  | 0, _ => rfl
  | m + 1, h => by
    have ih := bitsW_sumB (n := n) hl hh m (by omega)
    have e1 : Wq n lo hi ((m + 1 : Nat) : Int) = qp (hi.getD (m + 1) (0, 0)) := by
      unfold Wq plit
      rw [Int.natAbs_natCast, if_pos ⟨by omega, h⟩, if_neg (by omega)]
    have e2 : Wq n lo hi (-((m + 1 : Nat) : Int)) = qp (lo.getD (m + 1) (0, 0)) := by
      unfold Wq plit
      rw [Int.natAbs_neg, Int.natAbs_natCast, if_pos ⟨by omega, h⟩, if_pos (by omega)]
    show bitsW (Wq n lo hi) m + _ + _ = (sumB lo m + _) + (sumB hi m + _)
    rw [e1, e2, ih, Lp_bits (hl (m + 1)), Lp_bits (hh (m + 1))]
    omega
/-- Weights as they may come. -/
structure WtIn (n : Nat) (lo hi : List Pr) : Prop where
  ll : lo.length = n + 1
  lh : hi.length = n + 1
  pl : ∀ k, Lp (lo.getD k (0, 0))
  ph : ∀ k, Lp (hi.getD k (0, 0))
  l0 : S0 (lo.getD 0 (0, 0))
  h0 : S0 (hi.getD 0 (0, 0))
  sl : ∀ k, Sp (lo.getD k (0, 0))
  sh : ∀ k, Sp (hi.getD k (0, 0))
theorem WtIn.ok {n : Nat} {lo hi : List Pr} (h : WtIn n lo hi) (hb : ¬ 16384 < sumB lo n + sumB hi n) : WtOk n lo hi :=
  ⟨h.ll, h.lh, h.pl, h.ph, h.l0, h.h0, by rw [bitsW_sumB h.pl h.ph n (Nat.le_refl _), wB_eq]; omega⟩
/-- The error of a valid net with the right numbers of weights. -/
def wfit (N : Nt) (n : Nat) (lo hi : List Pr) : Int := if cchk N = 0 then (if 16384 < sumB lo n + sumB hi n then 2 else 0) else cchk N
theorem cchk_zero {N : Nt} (hv : vld N = true) (h : cchk N = 0) : dcmp N = true ∧ shortB N = true := by
  unfold cchk at h
  rw [hv] at h
  simp at h
  cases hd : dcmp N
  · rw [hd] at h; simp at h
  · rw [hd] at h
    cases hs : shortB N
    · rw [hs] at h; simp at h
    · exact ⟨rfl, rfl⟩
theorem wfit_zero {N : Nt} {n : Nat} {lo hi : List Pr} (hv : vld N = true) (h : wfit N n lo hi = 0) : dcmp N = true ∧ shortB N = true ∧ ¬ 16384 < sumB lo n + sumB hi n := by
  unfold wfit at h
  by_cases h0 : cchk N = 0
  · rw [if_pos h0] at h
    obtain ⟨h1, h2⟩ := cchk_zero hv h0
    refine ⟨h1, h2, fun h3 => ?_⟩
    rw [if_pos h3] at h
    omega
  · rw [if_neg h0] at h
    exact absurd h h0
end Cs
namespace Go.Proofs.YtgnobohfnhpkdaaGreatDoor
set_option maxRecDepth 100000 in
set_option maxHeartbeats 4000000 in
/-- Total, where the numbers of weights are right. -/
theorem total_fit (w : World) (N : Nt) (A : Option Addr) (c cl ch n : Nat) (lo hi : List Pr) (Al Ah : Option Addr) (hN : NtAt w w.heap.size A N.l) (hv : vld N = true) (hn : N.n = (n : Int)) (hT : Tab w)
    (hin : ∀ k (hk : k < N.l.length), N.l[k].ins.length ≤ 1000000) (hW : WtIn n lo hi)
    (hlo : Rd w w.heap.size Al ((n + 1) * 2) (prsF lo)) (hhi : Rd w w.heap.size Ah ((n + 1) * 2) (prsF hi)) (hc1 : n + 1 ≤ cl) (hc2 : n + 1 ≤ ch) (S : Pr) (E : Int) (hE : E = wfit N n lo hi) (hS : S = if E = 0 then (RP n lo hi).sum N else (0, 0)) :
    Calls Tryz.prog 40 #[ntV N A c, wtsV Al Ah (n + 1) (n + 1) cl ch] w fun e w' => e = .returned (.tuple #[ratV S.1 S.2, .int .i64 E]) ∧ Below w.heap.size w w' := by
  have hck := fun W hN hT hlo hhi => wcheck_fit W N A c cl ch n lo hi Al Ah hN hv hn hT hlo hhi hW.sl hW.sh hc1 hc2 E hE
  have HCK := Lib.hid hck
  have hna := fun W h => newAdder_any W N A c h hv
  have HNA := Lib.hid hna
  have hbox := ((ntNew w N A c 24 _ rfl).alloc (.cells #[.slice Al (n + 1) cl, .slice Ah (n + 1) ch] 46)).alloc (.cells #[.string ⟨#[]⟩, .string ⟨#[]⟩] 74)
  have hwts := (arrNew (w.alloc (.cells #[.int .i64 N.n, .slice A N.l.length c] 24)) #[.slice Al (n + 1) cl, .slice Ah (n + 1) ch] 46 (w.heap.size + 1) 2 (by simp) rfl).alloc (.cells #[.string ⟨#[]⟩, .string ⟨#[]⟩] 74)
  have hres := ratZero ((w.alloc (.cells #[.int .i64 N.n, .slice A N.l.length c] 24)).alloc (.cells #[.slice Al (n + 1) cl, .slice Ah (n + 1) ch] 46)) 74 (w.heap.size + 1 + 1) (by simp)
  have hbl : Below w.heap.size w _ := (((Below.refl _ _).alloc (Nat.le_refl _) (.cells #[.int .i64 N.n, .slice A N.l.length c] 24)).alloc (by simp) (.cells #[.slice Al (n + 1) cl, .slice Ah (n + 1) ch] 46)).alloc (by simp; omega) (.cells #[.string ⟨#[]⟩, .string ⟨#[]⟩] 74)
  clear hck hna
  by_cases h0 : E = 0
  · subst h0
    rw [if_pos rfl] at hS
    obtain ⟨z1, z2, z3⟩ := wfit_zero hv hE.symm
    have hok := hW.ok z3
    have hsm := fun W ga go hA hlo hhi hT => wsum_any W N A c ga go n cl ch lo hi Al Ah hA hv z1 z2 hn hin hok hlo hhi hT
    rw [← hS] at hsm
    have HSM := Lib.hid hsm
    clear hsm hok z1 z2 z3 hS hE hW hin hv
    obtain ⟨Sn, Sd⟩ := S
    obtain ⟨Nn, l⟩ := N
    simp only at hn
    subst hn
    go_enter Tryz.func40, Tryz.ntmps40
    go_wp2_with (
      go_at_call 74
      (with_reducible refine (HCK.out _ ((hN.below hbl).more hbl.size) (hT.below hbl) ((hlo.below hbl).more hbl.size) ((hhi.below hbl).more hbl.size)).mono ?_)
      rintro e w5 ⟨rfl, hb5⟩
      replace hbox := rowBelow hbox hb5
      replace hwts := rowBelow hwts hb5
      replace hres := rowBelow hres hb5
      replace hbl := Cs.Below.trans' hbl hb5 hbl.size)
    replace hbox := hbox.drew
    replace hwts := hwts.drew
    replace hres := hres.drew
    replace hbl := hbl.drew
    obtain ⟨c1, c2⟩ := ntCells hbox
    have d1 : World.cell? _ ⟨w.heap.size + 1, 0, none⟩ = some (.slice Al (n + 1) cl) := hwts.cell (i := 0) (by omega)
    have d2 : World.cell? _ ⟨w.heap.size + 1, 1, none⟩ = some (.slice Ah (n + 1) ch) := hwts.cell (i := 1) (by omega)
    obtain ⟨e0, e1⟩ := ratCells hres
    have f0 := hres.frozen 0
    have f1 := hres.frozen 1
    have N1 : Hid (w.heap.size + 1 + 1 ≠ w.heap.size) := Lib.hid (by omega)
    have N2 : Hid (w.heap.size + 1 + 1 ≠ w.heap.size + 1) := Lib.hid (by omega)
    go_region_held3 (fun w' => w'.cell? ⟨w.heap.size, 0, none⟩ = some (.int .i64 (n : Int)) ∧ w'.cell? ⟨w.heap.size, 1, none⟩ = some (.slice A l.length c) ∧ w'.cell? ⟨w.heap.size + 1, 0, none⟩ = some (.slice Al (n + 1) cl) ∧ w'.cell? ⟨w.heap.size + 1, 1, none⟩ = some (.slice Ah (n + 1) ch))
      (first | exact ⟨c1, c2, d1, d2⟩ | exact ⟨putFar N1.out c1, putFar N1.out c2, putFar N2.out d1, putFar N2.out d2⟩ | go_keep)
      (first
        | (go_simp
           go_at_call 75
           (with_reducible refine (HNA.out _ ((hN.below hbl).more hbl.size)).mono ?_)
           rintro e w9 ⟨ga, go, rfl, hga, hAd, hb9⟩
           replace hbox := rowBelow hbox hb9
           replace hwts := rowBelow hwts hb9
           replace hres := rowBelow hres hb9
           replace hbl := Cs.Below.trans' hbl hb9 hbl.size
           obtain ⟨c1, c2⟩ := ntCells hbox
           have d1 : World.cell? _ ⟨w.heap.size + 1, 0, none⟩ = some (.slice Al (n + 1) cl) := hwts.cell (i := 0) (by omega)
           have d2 : World.cell? _ ⟨w.heap.size + 1, 1, none⟩ = some (.slice Ah (n + 1) ch) := hwts.cell (i := 1) (by omega)
           obtain ⟨e0, e1⟩ := ratCells hres
           have f0 := hres.frozen 0
           have f1 := hres.frozen 1)
        | (go_simp
           go_at_call 76
           (with_reducible refine (HSM.out _ ga go hAd ((hlo.below hbl).more hbl.size) ((hhi.below hbl).more hbl.size) (hT.below hbl)).mono ?_)
           rintro e w9 ⟨rfl, hb9⟩
           replace hbox := rowBelow hbox hb9
           replace hwts := rowBelow hwts hb9
           replace hres := rowBelow hres hb9
           replace hbl := Cs.Below.trans' hbl hb9 hbl.size
           obtain ⟨c1, c2⟩ := ntCells hbox
           have d1 : World.cell? _ ⟨w.heap.size + 1, 0, none⟩ = some (.slice Al (n + 1) cl) := hwts.cell (i := 0) (by omega)
           have d2 : World.cell? _ ⟨w.heap.size + 1, 1, none⟩ = some (.slice Ah (n + 1) ch) := hwts.cell (i := 1) (by omega)
           obtain ⟨e0, e1⟩ := ratCells hres
           have f0 := hres.frozen 0
           have f1 := hres.frozen 1))
    all_goals
      try go_wp2
      exact ret_rat_slot rfl Sn Sd rfl rfl (ratSet hres Sn Sd) rfl ⟨rfl, (hbl.setCell (by simp; omega) _).setCell (by simp; omega) _⟩
  · rw [if_neg h0] at hS
    subst hS
    have hb0 : (E == 0) = false := beq_eq_false_iff_ne.2 h0
    have hb1 : (E != 0) = true := by simp [bne, hb0]
    have hz : natB 0 = ⟨#[]⟩ := natB_zero
    have HZ := Lib.hid hz
    clear hE hz hW hin hv
    obtain ⟨Nn, l⟩ := N
    simp only at hn
    subst hn
    go_enter Tryz.func40, Tryz.ntmps40
    go_wp2_with (
      go_at_call 74
      (with_reducible refine (HCK.out _ ((hN.below hbl).more hbl.size) (hT.below hbl) ((hlo.below hbl).more hbl.size) ((hhi.below hbl).more hbl.size)).mono ?_)
      rintro e w5 ⟨rfl, hb5⟩
      replace hres := rowBelow hres hb5
      obtain ⟨c0, c1⟩ := ratCells hres
      have f0 := hres.frozen 0
      have f1 := hres.frozen 1
      replace hbl := Cs.Below.trans' hbl hb5 hbl.size)
    have hs := ratSet hres 0 0
    rw [HZ.out] at hs
    exact ret_rat_slot rfl 0 0 rfl rfl hs rfl ⟨rfl, (hbl.setCell (by simp; omega) _).setCell (by simp; omega) _⟩
end Go.Proofs.YtgnobohfnhpkdaaGreatDoor
