/- The walk of sample.Weighted. -/
import Derived.Test.YtgnobohfnhpkdaaGreatDoorZc
import Derived.Test.YtgnobohfnhpkdaaGreatDoorYl
import Derived.Test.YtgnobohfnhpkdaaGreatDoorTe
set_option linter.unusedSimpArgs false
set_option linter.unusedVariables false
open Go Go.RowKit Cs
namespace Cs
/-- Weights as they come out of texts: in lowest terms, of few bytes. -/
def WgOk (L : List Pr) : Prop := ∀ k, Lp (L.getD k (0, 0)) ∧ Tiny (L.getD k (0, 0))
theorem Tiny.s0 {p : Pr} (h : Tiny p) : S0 p := ⟨Nat.le_trans h.1 (by omega), Nat.le_trans h.2 (by omega)⟩
theorem WgOk.wtIn {n : Nat} {lo hi : List Pr} (h1 : WgOk lo) (h2 : WgOk hi) (hl : lo.length = n + 1) (hh : hi.length = n + 1) : WtIn n lo hi :=
  ⟨hl, hh, fun k => (h1 k).1, fun k => (h2 k).1, (h1 0).2.s0, (h2 0).2.s0, fun k => (h1 k).2.s0.sp, fun k => (h2 k).2.s0.sp⟩
theorem wMul_s0 {p : Pr} (hp : Tiny p) (a : Nat) (ha : n8 a ≤ 2000) : S0 (wMul p a) := by
  have e : qp p * ((a : Nat) : Rat) = qq (p.1 * a) (qd p.2 * qd 1) := by
    rw [qq_mul, qq_one]; rfl
  have h1 := n8_mul p.1 a
  have h2 := n8_qdT _ hp.2
  have h3 : qd p.2 * qd 1 = qd p.2 := by show qd p.2 * 1 = qd p.2; omega
  unfold S0 wMul pq
  rw [e, h3]
  constructor
  · show n8 (qn _) ≤ _
    exact Nat.le_trans (n8_mono (Go.Proofs.YtgnobohfnhpkdaaGreatDoor.qn_qq_le _ _)) (by have := hp.1; omega)
  · show n8 (Rat.den _) ≤ _
    exact Nat.le_trans (n8_mono (Go.Proofs.YtgnobohfnhpkdaaGreatDoor.den_qq_le _ _ (qd_pos _))) (by omega)
theorem wMul_lp (p : Pr) (a : Nat) : Lp (wMul p a) := Lp.pq (Rat.mul_nonneg (qp_nonneg p) (by exact_mod_cast Nat.zero_le a))
theorem wSt_in {n : Nat} {lo hi : List Pr} (h1 : WgOk lo) (h2 : WgOk hi) (hl : lo.length = n + 1) (hh : hi.length = n + 1) : WtIn n (wSt lo hi (n + 1)).1 (wSt lo hi (n + 1)).2 := by
  have g := wSt_get lo hi (n + 1) hl hh (n + 1) (Nat.le_refl _)
  have hlc := fun i => (n8_lcm (h1 i).2 (h2 i).2).2
  have a1 : ∀ i, Lp ((wSt lo hi (n + 1)).1.getD i (0, 0)) ∧ S0 ((wSt lo hi (n + 1)).1.getD i (0, 0)) := fun i => by
    rw [(g i).1]
    split
    · exact ⟨wMul_lp _ _, wMul_s0 (h1 i).2 _ (hlc i)⟩
    · exact ⟨(h1 i).1, (h1 i).2.s0⟩
  have a2 : ∀ i, Lp ((wSt lo hi (n + 1)).2.getD i (0, 0)) ∧ S0 ((wSt lo hi (n + 1)).2.getD i (0, 0)) := fun i => by
    rw [(g i).2]
    split
    · exact ⟨wMul_lp _ _, wMul_s0 (h2 i).2 _ (hlc i)⟩
    · exact ⟨(h2 i).1, (h2 i).2.s0⟩
  obtain ⟨l1, l2⟩ := wSt_len lo hi (n + 1)
  exact ⟨by omega, by omega, fun k => (a1 k).1, fun k => (a2 k).1, (a1 0).2, (a2 0).2, fun k => (a1 k).2.sp, fun k => (a2 k).2.sp⟩
/-- What Weighted returns. -/
def wgR (N : Nt) (lo hi : List Pr) (bs : List Nat) : Tk :=
  if wchk N lo hi = 0 then tkR N N.n.toNat (wSt lo hi (N.n.toNat + 1)).1 (wSt lo hi (N.n.toNat + 1)).2 bs else Tk.no (wchk N lo hi)
end Cs
namespace Go.Proofs.YtgnobohfnhpkdaaGreatDoor
set_option maxRecDepth 100000 in
set_option maxHeartbeats 4000000 in
/-- Total, where the net and the numbers of weights are refused. -/
theorem total_bad (w : World) (N : Nt) (A : Option Addr) (c cl ch : Nat) (lo hi : List Pr) (Al Ah : Option Addr) (hlen : N.l.length ≤ 140737488355328) (hN : NtAt w w.heap.size A N.l)
    (hbad : vld N = false ∨ (vld N = true ∧ ¬ (lo.length : Int) = N.n + 1) ∨ (vld N = true ∧ (lo.length : Int) = N.n + 1 ∧ ¬ (hi.length : Int) = N.n + 1)) :
    Calls Tryz.prog 40 #[ntV N A c, wtsV Al Ah lo.length hi.length cl ch] w fun e w' => e = .returned (.tuple #[ratV 0 0, .int .i64 1]) ∧ Below w.heap.size w w' := by
  have hck := fun W hN => wcheck_bad W N A c cl ch lo hi Al Ah hlen hN hbad
  have HCK := Lib.hid hck
  have hbl : Below w.heap.size w _ := (((Below.refl _ _).alloc (Nat.le_refl _) (.cells #[.int .i64 N.n, .slice A N.l.length c] 24)).alloc (by simp) (.cells #[.slice Al lo.length cl, .slice Ah hi.length ch] 46)).alloc (by simp; omega) (.cells #[.string ⟨#[]⟩, .string ⟨#[]⟩] 74)
  have hres := ratZero ((w.alloc (.cells #[.int .i64 N.n, .slice A N.l.length c] 24)).alloc (.cells #[.slice Al lo.length cl, .slice Ah hi.length ch] 46)) 74 (w.heap.size + 1 + 1) (by simp)
  clear hck hbad
  generalize lo.length = ml at *
  generalize hi.length = mh at *
  have hz : natB 0 = ⟨#[]⟩ := natB_zero
  have HZ := Lib.hid hz
  clear hz
  obtain ⟨Nn, l⟩ := N
  go_enter Tryz.func40, Tryz.ntmps40
  go_wp2_with (
    go_at_call 74
    (with_reducible refine (HCK.out _ ((hN.below hbl).more hbl.size)).mono ?_)
    rintro e w5 ⟨rfl, hb5⟩
    replace hres := rowBelow hres hb5
    obtain ⟨c0, c1⟩ := ratCells hres
    have f0 := hres.frozen 0
    have f1 := hres.frozen 1
    replace hbl := Cs.Below.trans' hbl hb5 hbl.size)
  have hs := ratSet hres 0 0
  rw [HZ.out] at hs
  exact ret_rat_slot rfl 0 0 rfl rfl hs rfl ⟨rfl, (hbl.setCell (by simp; omega) _).setCell (by simp; omega) _⟩
set_option maxRecDepth 100000 in
set_option maxHeartbeats 4000000 in
/-- Weighted, where Total returns an error. -/
theorem weighted_no (w : World) (Nn : Int) (ln : Nat) (A : Option Addr) (c cl ch ml mh lb cb : Nat) (Al Ah Ab : Option Addr) (E : Int) (h0 : E ≠ 0)
    (htot : ∀ W, Below w.heap.size w W → Calls Tryz.prog 40 #[.agg #[.int .i64 Nn, .slice A ln c], wtsV Al Ah ml mh cl ch] W fun e w' => e = .returned (.tuple #[ratV 0 0, .int .i64 E]) ∧ Below W.heap.size W w') :
    Calls Tryz.prog 21 #[.agg #[.int .i64 Nn, .slice A ln c], wtsV Al Ah ml mh cl ch, .slice Ab lb cb] w fun e w' => e = .returned (tkV (Tk.no E)) ∧ Below w.heap.size w w' := by
  have HT := Lib.hid htot
  have q0 := (((Bag.zero w).new #[.int .i64 Nn, .slice A ln c] 24 w.heap.size 2 rfl rfl).new #[.slice Al ml cl, .slice Ah mh ch] 46 (w.heap.size + 1) 2 (by simp) rfl).new #[.int .u64 0, .int .u64 0] 30 (w.heap.size + 1 + 1) 2 (by simp) rfl
  have hb0 : (E == 0) = false := beq_eq_false_iff_ne.2 h0
  have hb1 : (E != 0) = true := by simp [bne, hb0]
  clear htot h0
  go_enter Tryz.func21, Tryz.ntmps21
  go_wp2_with (
    go_at_call 40
    (with_reducible refine (HT.out _ q0.bl).mono ?_)
    rintro e w5 ⟨rfl, hb5⟩
    have q1 := q0.below hb5
    have s2 := (q1.rows (w.heap.size + 1 + 1, 30, 2, #[.int .u64 0, .int .u64 0]) (by simp)).lt
    have m20 := q1.is (w.heap.size + 1 + 1) 2 30 #[.int .u64 0, .int .u64 0] (by simp) 0 (by decide) (.int .u64 0) rfl
    have f20 := (q1.rows (w.heap.size + 1 + 1, 30, 2, #[.int .u64 0, .int .u64 0]) (by simp)).frozen 0
    have m21 := q1.is (w.heap.size + 1 + 1) 2 30 #[.int .u64 0, .int .u64 0] (by simp) 1 (by decide) (.int .u64 0) rfl
    have f21 := (q1.rows (w.heap.size + 1 + 1, 30, 2, #[.int .u64 0, .int .u64 0]) (by simp)).frozen 1
    simp only at s2
    clear hb5)
  exact ret_take rfl (Tk.no E) rfl rfl rfl rfl ((pairRow (q1.rows (w.heap.size + 1 + 1, 30, 2, #[.int .u64 0, .int .u64 0]) (by simp)) _ _).alloc _) (no_lo _ _) (no_hi _ _) rfl ⟨rfl, ((q1.bl.setCell (by simp <;> omega) _).setCell (by simp <;> omega) _).alloc (by rw [size_setCell, size_setCell]; exact q1.bl.size) _⟩
set_option maxRecDepth 100000 in
set_option maxHeartbeats 4000000 in
/-- Weighted, where Total returns a sum. -/
theorem weighted_go (w : World) (n ln : Nat) (A : Option Addr) (c cl ch lb cb Sn Sd : Nat) (Al Ah Ab : Option Addr) (T : Tk) (P1 P2 : Nat → Value) (WH : World → Nat → Nat → Prop)
    (htot : ∀ W, Below w.heap.size w W → Calls Tryz.prog 40 #[.agg #[.int .i64 (n : Int), .slice A ln c], wtsV Al Ah (n + 1) (n + 1) cl ch] W fun e w' => e = .returned (.tuple #[ratV Sn Sd, .int .i64 0]) ∧ Below W.heap.size W w')
    (hwh : ∀ W, Below w.heap.size w W → Calls Tryz.prog 41 #[wtsV Al Ah (n + 1) (n + 1) cl ch] W fun e w' => ∃ gl gh cgl cgh, e = .returned (wtsV (some ⟨gl, 0, none⟩) (some ⟨gh, 0, none⟩) (n + 1) (n + 1) cgl cgh) ∧ n + 1 ≤ cgl ∧ n + 1 ≤ cgh ∧
      Rd w' w'.heap.size (some ⟨gl, 0, none⟩) ((n + 1) * 2) P1 ∧ Rd w' w'.heap.size (some ⟨gh, 0, none⟩) ((n + 1) * 2) P2 ∧ Below W.heap.size W w')
    (htk : ∀ W gl gh cgl cgh, Below w.heap.size w W → n + 1 ≤ cgl → n + 1 ≤ cgh → Rd W W.heap.size (some ⟨gl, 0, none⟩) ((n + 1) * 2) P1 → Rd W W.heap.size (some ⟨gh, 0, none⟩) ((n + 1) * 2) P2 →
      Calls Tryz.prog 28 #[.agg #[.int .i64 (n : Int), .slice A ln c], wtsV (some ⟨gl, 0, none⟩) (some ⟨gh, 0, none⟩) (n + 1) (n + 1) cgl cgh, .slice Ab lb cb] W fun e w' => e = .returned (tkV T) ∧ Below W.heap.size W w') :
    Calls Tryz.prog 21 #[.agg #[.int .i64 (n : Int), .slice A ln c], wtsV Al Ah (n + 1) (n + 1) cl ch, .slice Ab lb cb] w fun e w' => e = .returned (tkV T) ∧ Below w.heap.size w w' := by
  obtain ⟨Ra, Ru, Ro, Re⟩ := T
  have HTV := Lib.hid (show tkV ⟨Ra, Ru, Ro, Re⟩ = .tuple #[setV Ra, .int .i64 (Ru : Int), .bool Ro, .int .i64 Re] from rfl)
  rw [HTV.out] at htk
  have HT := Lib.hid htot
  have HW := Lib.hid hwh
  have HK := Lib.hid htk
  have q0 := (((Bag.zero w).new #[.int .i64 (n : Int), .slice A ln c] 24 w.heap.size 2 rfl rfl).new #[.slice Al (n + 1) cl, .slice Ah (n + 1) ch] 46 (w.heap.size + 1) 2 (by simp) rfl).new #[.int .u64 0, .int .u64 0] 30 (w.heap.size + 1 + 1) 2 (by simp) rfl
  clear htot hwh htk
  go_enter Tryz.func21, Tryz.ntmps21
  go_wp2_with (
    go_at_call 40
    (with_reducible refine (HT.out _ q0.bl).mono ?_)
    rintro e w5 ⟨rfl, hb5⟩
    have q1 := q0.below hb5
    have s0 := (q1.rows (w.heap.size, 24, 2, #[.int .i64 (n : Int), .slice A ln c]) (by simp)).lt
    have m00 := q1.is (w.heap.size) 2 24 #[.int .i64 (n : Int), .slice A ln c] (by simp) 0 (by decide) (.int .i64 (n : Int)) rfl
    have m01 := q1.is (w.heap.size) 2 24 #[.int .i64 (n : Int), .slice A ln c] (by simp) 1 (by decide) (.slice A ln c) rfl
    simp only at s0
    have s1 := (q1.rows (w.heap.size + 1, 46, 2, #[.slice Al (n + 1) cl, .slice Ah (n + 1) ch]) (by simp)).lt
    have m10 := q1.is (w.heap.size + 1) 2 46 #[.slice Al (n + 1) cl, .slice Ah (n + 1) ch] (by simp) 0 (by decide) (.slice Al (n + 1) cl) rfl
    have m11 := q1.is (w.heap.size + 1) 2 46 #[.slice Al (n + 1) cl, .slice Ah (n + 1) ch] (by simp) 1 (by decide) (.slice Ah (n + 1) ch) rfl
    simp only at s1
    have s2 := (q1.rows (w.heap.size + 1 + 1, 30, 2, #[.int .u64 0, .int .u64 0]) (by simp)).lt
    have m20 := q1.is (w.heap.size + 1 + 1) 2 30 #[.int .u64 0, .int .u64 0] (by simp) 0 (by decide) (.int .u64 0) rfl
    have f20 := (q1.rows (w.heap.size + 1 + 1, 30, 2, #[.int .u64 0, .int .u64 0]) (by simp)).frozen 0
    have m21 := q1.is (w.heap.size + 1 + 1) 2 30 #[.int .u64 0, .int .u64 0] (by simp) 1 (by decide) (.int .u64 0) rfl
    have f21 := (q1.rows (w.heap.size + 1 + 1, 30, 2, #[.int .u64 0, .int .u64 0]) (by simp)).frozen 1
    simp only at s2
    clear hb5)
  have q2 := (q1.new #[.string (natB Sn), .string (natB Sd)] 74 _ 2 rfl rfl).drew
  have s0 := (q2.rows (w.heap.size, 24, 2, #[.int .i64 (n : Int), .slice A ln c]) (by simp)).lt
  have m00 := q2.is (w.heap.size) 2 24 #[.int .i64 (n : Int), .slice A ln c] (by simp) 0 (by decide) (.int .i64 (n : Int)) rfl
  have m01 := q2.is (w.heap.size) 2 24 #[.int .i64 (n : Int), .slice A ln c] (by simp) 1 (by decide) (.slice A ln c) rfl
  simp only at s0
  have s1 := (q2.rows (w.heap.size + 1, 46, 2, #[.slice Al (n + 1) cl, .slice Ah (n + 1) ch]) (by simp)).lt
  have m10 := q2.is (w.heap.size + 1) 2 46 #[.slice Al (n + 1) cl, .slice Ah (n + 1) ch] (by simp) 0 (by decide) (.slice Al (n + 1) cl) rfl
  have m11 := q2.is (w.heap.size + 1) 2 46 #[.slice Al (n + 1) cl, .slice Ah (n + 1) ch] (by simp) 1 (by decide) (.slice Ah (n + 1) ch) rfl
  simp only at s1
  have s2 := (q2.rows (w.heap.size + 1 + 1, 30, 2, #[.int .u64 0, .int .u64 0]) (by simp)).lt
  have m20 := q2.is (w.heap.size + 1 + 1) 2 30 #[.int .u64 0, .int .u64 0] (by simp) 0 (by decide) (.int .u64 0) rfl
  have f20 := (q2.rows (w.heap.size + 1 + 1, 30, 2, #[.int .u64 0, .int .u64 0]) (by simp)).frozen 0
  have m21 := q2.is (w.heap.size + 1 + 1) 2 30 #[.int .u64 0, .int .u64 0] (by simp) 1 (by decide) (.int .u64 0) rfl
  have f21 := (q2.rows (w.heap.size + 1 + 1, 30, 2, #[.int .u64 0, .int .u64 0]) (by simp)).frozen 1
  simp only at s2
  have N1 : Hid (w.heap.size + 1 + 1 ≠ w.heap.size) := Lib.hid (by omega)
  have N2 : Hid (w.heap.size + 1 + 1 ≠ w.heap.size + 1) := Lib.hid (by omega)
  go_region_held3 (fun w' => w'.cell? ⟨w.heap.size, 0, none⟩ = some (.int .i64 (n : Int)) ∧ w'.cell? ⟨w.heap.size, 1, none⟩ = some (.slice A ln c) ∧ w'.cell? ⟨w.heap.size + 1, 0, none⟩ = some (.slice Al (n + 1) cl) ∧ w'.cell? ⟨w.heap.size + 1, 1, none⟩ = some (.slice Ah (n + 1) ch))
    (first | exact ⟨m00, m01, m10, m11⟩ | exact ⟨putFar N1.out m00, putFar N1.out m01, putFar N2.out m10, putFar N2.out m11⟩ | go_keep)
    (first
      | (go_simp
         go_at_call 41
         (with_reducible refine (HW.out _ q2.bl).mono ?_)
         rintro e w9 ⟨gl, gh, cgl, cgh, rfl, hcl, hch, hrl, hrh, hb9⟩
         replace q2 := q2.below hb9
         clear hb9
         have s0 := (q2.rows (w.heap.size, 24, 2, #[.int .i64 (n : Int), .slice A ln c]) (by simp)).lt
         have m00 := q2.is (w.heap.size) 2 24 #[.int .i64 (n : Int), .slice A ln c] (by simp) 0 (by decide) (.int .i64 (n : Int)) rfl
         have m01 := q2.is (w.heap.size) 2 24 #[.int .i64 (n : Int), .slice A ln c] (by simp) 1 (by decide) (.slice A ln c) rfl
         simp only at s0
         have s1 := (q2.rows (w.heap.size + 1, 46, 2, #[.slice Al (n + 1) cl, .slice Ah (n + 1) ch]) (by simp)).lt
         have m10 := q2.is (w.heap.size + 1) 2 46 #[.slice Al (n + 1) cl, .slice Ah (n + 1) ch] (by simp) 0 (by decide) (.slice Al (n + 1) cl) rfl
         have m11 := q2.is (w.heap.size + 1) 2 46 #[.slice Al (n + 1) cl, .slice Ah (n + 1) ch] (by simp) 1 (by decide) (.slice Ah (n + 1) ch) rfl
         simp only at s1
         have s2 := (q2.rows (w.heap.size + 1 + 1, 30, 2, #[.int .u64 0, .int .u64 0]) (by simp)).lt
         have m20 := q2.is (w.heap.size + 1 + 1) 2 30 #[.int .u64 0, .int .u64 0] (by simp) 0 (by decide) (.int .u64 0) rfl
         have f20 := (q2.rows (w.heap.size + 1 + 1, 30, 2, #[.int .u64 0, .int .u64 0]) (by simp)).frozen 0
         have m21 := q2.is (w.heap.size + 1 + 1) 2 30 #[.int .u64 0, .int .u64 0] (by simp) 1 (by decide) (.int .u64 0) rfl
         have f21 := (q2.rows (w.heap.size + 1 + 1, 30, 2, #[.int .u64 0, .int .u64 0]) (by simp)).frozen 1
         simp only at s2)
      | (go_simp
         go_at_call 28
         (with_reducible refine (HK.out _ gl gh cgl cgh q2.bl hcl hch hrl hrh).mono ?_)
         rintro e w9 ⟨rfl, hb9⟩
         replace q2 := q2.below hb9
         clear hb9
         have s0 := (q2.rows (w.heap.size, 24, 2, #[.int .i64 (n : Int), .slice A ln c]) (by simp)).lt
         have m00 := q2.is (w.heap.size) 2 24 #[.int .i64 (n : Int), .slice A ln c] (by simp) 0 (by decide) (.int .i64 (n : Int)) rfl
         have m01 := q2.is (w.heap.size) 2 24 #[.int .i64 (n : Int), .slice A ln c] (by simp) 1 (by decide) (.slice A ln c) rfl
         simp only at s0
         have s1 := (q2.rows (w.heap.size + 1, 46, 2, #[.slice Al (n + 1) cl, .slice Ah (n + 1) ch]) (by simp)).lt
         have m10 := q2.is (w.heap.size + 1) 2 46 #[.slice Al (n + 1) cl, .slice Ah (n + 1) ch] (by simp) 0 (by decide) (.slice Al (n + 1) cl) rfl
         have m11 := q2.is (w.heap.size + 1) 2 46 #[.slice Al (n + 1) cl, .slice Ah (n + 1) ch] (by simp) 1 (by decide) (.slice Ah (n + 1) ch) rfl
         simp only at s1
         have s2 := (q2.rows (w.heap.size + 1 + 1, 30, 2, #[.int .u64 0, .int .u64 0]) (by simp)).lt
         have m20 := q2.is (w.heap.size + 1 + 1) 2 30 #[.int .u64 0, .int .u64 0] (by simp) 0 (by decide) (.int .u64 0) rfl
         have f20 := (q2.rows (w.heap.size + 1 + 1, 30, 2, #[.int .u64 0, .int .u64 0]) (by simp)).frozen 0
         have m21 := q2.is (w.heap.size + 1 + 1) 2 30 #[.int .u64 0, .int .u64 0] (by simp) 1 (by decide) (.int .u64 0) rfl
         have f21 := (q2.rows (w.heap.size + 1 + 1, 30, 2, #[.int .u64 0, .int .u64 0]) (by simp)).frozen 1
         simp only at s2))
  all_goals
    try go_wp2
    exact ret_take rfl (⟨Ra, Ru, Ro, Re⟩) rfl rfl rfl rfl (pairRow (q2.rows (w.heap.size + 1 + 1, 30, 2, #[.int .u64 0, .int .u64 0]) (by simp)) _ _) rfl rfl rfl ⟨rfl, (q2.bl.setCell (by simp <;> omega) _).setCell (by simp <;> omega) _⟩
/-- Weighted. -/
theorem weighted_any (w : World) (N : Nt) (A : Option Addr) (c cl ch lb cb : Nat) (lo hi : List Pr) (bs : List Nat) (Al Ah Ab : Option Addr) (hlen : N.l.length ≤ 140737488355328) (hN : NtAt w w.heap.size A N.l) (hT : Tab w)
    (hin : ∀ k (hk : k < N.l.length), N.l[k].ins.length ≤ 1000000) (hwl : WgOk lo) (hwh : WgOk hi) (hlo : Rd w w.heap.size Al (lo.length * 2) (prsF lo)) (hhi : Rd w w.heap.size Ah (hi.length * 2) (prsF hi)) (hc1 : lo.length ≤ cl) (hc2 : hi.length ≤ ch)
    (hl : bs.length = lb) (hl2 : lb ≤ 1000000) (hbs : Rd w w.heap.size Ab lb (byF bs)) (hb8 : ∀ i, bs.getD i 0 < 256) :
    Calls Tryz.prog 21 #[ntV N A c, wtsV Al Ah lo.length hi.length cl ch, .slice Ab lb cb] w fun e w' => e = .returned (tkV (wgR N lo hi bs)) ∧ Below w.heap.size w w' := by
  by_cases hok : vld N = true ∧ (lo.length : Int) = N.n + 1 ∧ (hi.length : Int) = N.n + 1
  · obtain ⟨hv, e1, e2⟩ := hok
    obtain ⟨hn0, hn1, hl0, hl1⟩ := vld_bounds hv
    obtain ⟨Nn, l⟩ := N
    obtain ⟨n, hn⟩ : ∃ n : Nat, Nn = (n : Int) := ⟨Nn.toNat, by simp only at hn0; omega⟩
    subst hn
    simp only at e1 e2 hn0 hn1 hl0 hl1 hlen hin
    have g1 : lo.length = n + 1 := by omega
    have g2 : hi.length = n + 1 := by omega
    have hW := hwl.wtIn hwh g1 g2
    have hW2 := wSt_in hwl hwh g1 g2
    rw [g1] at hlo hc1 ⊢
    rw [g2] at hhi hc2 ⊢
    have hn2 : n ≤ 128 := by omega
    have ec : wchk ⟨(n : Int), l⟩ lo hi = wfit ⟨(n : Int), l⟩ n lo hi := by
      unfold wchk wfit
      rw [if_pos ⟨hv, e1, e2⟩]
      rfl
    have ht := fun W (hb : Below w.heap.size w W) => total_fit W ⟨(n : Int), l⟩ A c cl ch n lo hi Al Ah ((hN.below hb).more hb.size) hv rfl (hT.below hb) hin hW ((hlo.below hb).more hb.size) ((hhi.below hb).more hb.size) hc1 hc2 _ _ rfl rfl
    unfold wgR
    rw [ec]
    by_cases h0 : wfit ⟨(n : Int), l⟩ n lo hi = 0
    · rw [if_pos h0]
      rw [h0] at ht
      obtain ⟨S, hS⟩ : ∃ S, (RP n lo hi).sum ⟨(n : Int), l⟩ = S := ⟨_, rfl⟩
      simp only [if_true, hS] at ht
      refine weighted_go w n l.length A c cl ch lb cb S.1 S.2 Al Ah Ab _ (prsF (wSt lo hi (n + 1)).1) (prsF (wSt lo hi (n + 1)).2) (fun _ _ _ => True) ht ?_ ?_
      · intro W hb
        exact whole_any W cl ch n lo hi Al Ah (by omega) g1 g2 (fun k => (hwl k).2) (fun k => (hwh k).2) ((hlo.below hb).more hb.size) ((hhi.below hb).more hb.size)
      · intro W gl gh cgl cgh hb k1 k2 r1 r2
        exact take_any W ⟨(n : Int), l⟩ A c cgl cgh n lb cb _ _ bs (some ⟨gl, 0, none⟩) (some ⟨gh, 0, none⟩) Ab ((hN.below hb).more hb.size) hv rfl hn2 (hT.below hb) hin hW2 r1 r2 k1 k2 hl hl2 ((hbs.below hb).more hb.size) hb8
    · rw [if_neg h0]
      rw [if_neg h0] at ht
      exact weighted_no w n l.length A c cl ch (n + 1) (n + 1) lb cb Al Ah Ab _ h0 ht
  · have hbad : vld N = false ∨ (vld N = true ∧ ¬ (lo.length : Int) = N.n + 1) ∨ (vld N = true ∧ (lo.length : Int) = N.n + 1 ∧ ¬ (hi.length : Int) = N.n + 1) := by
      cases hv : vld N
      · exact .inl rfl
      · by_cases e1 : (lo.length : Int) = N.n + 1
        · by_cases e2 : (hi.length : Int) = N.n + 1
          · exact absurd ⟨hv, e1, e2⟩ hok
          · exact .inr (.inr ⟨rfl, e1, e2⟩)
        · exact .inr (.inl ⟨rfl, e1⟩)
    have ec : wchk N lo hi = 1 := by unfold wchk; rw [if_neg hok]
    unfold wgR
    rw [ec, if_neg (by decide)]
    exact weighted_no w N.n N.l.length A c cl ch lo.length hi.length lb cb Al Ah Ab 1 (by decide) fun W hb => total_bad W N A c cl ch lo hi Al Ah hlen ((hN.below hb).more hb.size) hbad
end Go.Proofs.YtgnobohfnhpkdaaGreatDoor
