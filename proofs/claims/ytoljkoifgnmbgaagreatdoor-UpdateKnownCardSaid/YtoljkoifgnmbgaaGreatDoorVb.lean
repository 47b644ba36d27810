import Derived.Test.YtoljkoifgnmbgaaGreatDoorVo
set_option linter.unusedSimpArgs false
set_option linter.unusedVariables false
open Go Go.RowKit Cs
namespace Cs
def badN : Nt := ⟨1, [⟨2, 1, []⟩, ⟨3, 0, [0, 0]⟩]⟩
def badNA (b : Nat) : Array Value := #[.int .i64 2, .int .i64 1, .slice none 0 0, .int .i64 3, .int .i64 0, .slice (some ⟨b, 0, none⟩) 2 2]
theorem badN_at {w : World} {B g b : Nat} {t : TypeId} {s : TypeId} (hg : g < B) (h3 : b < B) (r3 : w.rowIs b s 2 (arrF #[.int .i64 0, .int .i64 0])) (hr : w.rowIs g t 6 (arrF (badNA b))) : NtAt w B (some ⟨g, 0, none⟩) badN.l := fun _ => by
 refine ⟨g, 0, rfl, hg, fun i hi => ?_⟩
 match i, hi with
 | 0, _ => exact ⟨hr.cell (i := 0) (by decide), hr.cell (i := 1) (by decide), ⟨none, 0, hr.cell (i := 2) (by decide), Rd.zero _ _ _ _⟩, (show r64 (2) by unfold r64; decide), (show r64 (1) by unfold r64; decide), (show ∀ i ∈ ([] : List Int), r64 i by unfold r64; decide), (show ([] : List Int).length ≤ 140737488355328 by decide)⟩
 | 1, _ => exact ⟨hr.cell (i := 3) (by decide), hr.cell (i := 4) (by decide), ⟨some ⟨b, 0, none⟩, 2, hr.cell (i := 5) (by decide), Rd.of_row (r3.congr fun j hj => by
    match j, hj with
    | 0, _ => rfl
    | 1, _ => rfl
    ) (zqn _) h3⟩, (show r64 (3) by unfold r64; decide), (show r64 (0) by unfold r64; decide), (show ∀ i ∈ ([0, 0] : List Int), r64 i by unfold r64; decide), (show ([0, 0] : List Int).length ≤ 140737488355328 by decide)⟩
theorem badN_v : vld badN = true := by decide +kernel
theorem badN_c : cchk badN = 210 := by decide +kernel
theorem nilN_v : vld ⟨0, []⟩ = false := by decide +kernel
end Cs
namespace Go.Proofs.YtoljkoifgnmbgaaGreatDoor
theorem kSh_in : WtIn 1 kShP kShP := few_in rfl rfl
 (fun p hp => by
   simp [kShP] at hp;rcases hp with rfl | rfl
   ·exact ⟨lp_of 0 _ (by decide +kernel) (by decide +kernel), by decide, by decide⟩
   ·exact ⟨lp_of 1 _ (by decide +kernel) (by decide +kernel), by decide, by decide⟩)
 (fun p hp => by
   simp [kShP] at hp;rcases hp with rfl | rfl
   ·exact ⟨lp_of 0 _ (by decide +kernel) (by decide +kernel), by decide, by decide⟩
   ·exact ⟨lp_of 1 _ (by decide +kernel) (by decide +kernel), by decide, by decide⟩)
theorem wt_s {w : World} {e : Ending} {w' : World} (h : WtsR w kSh kSh e w') : Below w.heap.size w w' ∧ ∃ Al Ah cl ch, e = .returned (.tuple #[wtsV Al Ah 2 2 cl ch, .bool true]) ∧ 2 ≤ cl ∧ 2 ≤ ch ∧
   Rd w' w'.heap.size Al (2 * 2) (prsF kShP) ∧ Rd w' w'.heap.size Ah (2 * 2) (prsF kShP) := by
 have := wt_get' h kSh_ok kSh_ok;rw [kSh_pr] at this;exact this
theorem str2' {w : World} {g : Nat} {t : TypeId} {a b : ByteArray} (h : w.rowIs g t 2 (arrF #[.string a, .string b])) : w.rowIs g t 2 (strF [a, b]) := h.congr (fun i hi => by
 match i, hi with
 | 0, _ => rfl
 | 1, _ => rfl)
theorem bad_shape (w : World) (g b c cl ch : Nat) (Al Ah : Option Addr) (hT : Tab w) (r3 : w.rowIs b 3 2 (arrF #[.int .i64 0, .int .i64 0])) (hr : w.rowIs g 76 6 (arrF (badNA b))) (h1 : 2 ≤ cl) (h2 : 2 ≤ ch) (hl : Rd w w.heap.size Al (2 * 2) (prsF kShP)) (hh : Rd w w.heap.size Ah (2 * 2) (prsF kShP)) :
  Calls Tryz.prog 15 #[.agg #[.int .i64 1, .slice (some ⟨g, 0, none⟩) 2 c], .agg #[.slice Al 2 cl, .slice Ah 2 ch]] w fun e w' => e = .returned (.tuple #[.pointer none, .int .i64 210]) ∧ Below w.heap.size w w' :=
 new_err w badN (some ⟨g, 0, none⟩) c 2 2 cl ch Al Ah 210 (by decide) fun W hb =>
  wcheck_fit W badN (some ⟨g, 0, none⟩) c cl ch 1 kShP kShP Al Ah (badN_at (Nat.lt_of_lt_of_le hr.lt hb.size) (Nat.lt_of_lt_of_le r3.lt hb.size) (rowBelow r3 hb) (rowBelow hr hb)) badN_v rfl (hT.below hb) ((hl.below hb).more hb.size) ((hh.below hb).more hb.size) kSh_in.sl kSh_in.sh h1 h2 210 (by rw [badN_c]; decide)
theorem bad_arg (w : World) (g b c : Nat) (r3 : w.rowIs b 3 2 (arrF #[.int .i64 0, .int .i64 0])) (hr : w.rowIs g 76 6 (arrF (badNA b))) :
  Calls Tryz.prog 15 #[.agg #[.int .i64 1, .slice (some ⟨g, 0, none⟩) 2 c], .agg #[.slice none 0 0, .slice none 0 0]] w fun e w' => e = .returned (.tuple #[.pointer none, .int .i64 1]) ∧ Below w.heap.size w w' :=
 new_err w badN (some ⟨g, 0, none⟩) c 0 0 0 0 none none 1 (by decide) fun W hb =>
  wcheck_bad W badN (some ⟨g, 0, none⟩) c 0 0 [] [] none none (by decide) (badN_at (Nat.lt_of_lt_of_le hr.lt hb.size) (Nat.lt_of_lt_of_le r3.lt hb.size) (rowBelow r3 hb) (rowBelow hr hb)) (.inr (.inl ⟨badN_v, by decide⟩))
theorem nil_arg (w : World) (cl ch : Nat) (Al Ah : Option Addr) :
  Calls Tryz.prog 15 #[.agg #[.int .i64 0, .slice none 0 0], .agg #[.slice Al 2 cl, .slice Ah 2 ch]] w fun e w' => e = .returned (.tuple #[.pointer none, .int .i64 1]) ∧ Below w.heap.size w w' :=
 new_err w ⟨0, []⟩ none 0 2 2 cl ch Al Ah 1 (by decide) fun W hb =>
  wcheck_bad W ⟨0, []⟩ none 0 cl ch kShP kShP Al Ah (by decide) (fun h => absurd h (by decide)) (.inl nilN_v)
theorem chp_tokm : TOk 2 [-2] := ⟨by decide, by decide⟩
theorem chp_cm : dec (sesC chpN 2 [-2]) = ⟨#[49]⟩ := by decide +kernel
theorem chp_wm : ptext (sesW chpN 2 kLoP kHiP [-2]).1 (sesW chpN 2 kLoP kHiP [-2]).2 = ⟨#[49, 47, 56]⟩ := by decide +kernel
section
variable {w W : World} {E : Nat} {g : Sg} {tv : Value}
theorem chp_arg3 {k : Int} (h : Lv w E g chpN 2 kLoP kHiP tv [] k W) : Calls Tryz.prog 22 #[.pointer (some ⟨g.b, 0, none⟩), .int .i64 3] W fun e w' => e = .returned (.int .i64 1) ∧ W = w' :=
 push_arg 3 (by decide) (by decide) h.ses (by decide +kernel) (by decide)
theorem chp_arg0 {k : Int} (h : Lv w E g chpN 2 kLoP kHiP tv [] k W) : Calls Tryz.prog 22 #[.pointer (some ⟨g.b, 0, none⟩), .int .i64 0] W fun e w' => e = .returned (.int .i64 1) ∧ W = w' :=
 push_arg 0 (by decide) (by decide) h.ses (by decide +kernel) (by decide)
theorem chp_pushm {k : Int} (h : Lv w E g chpN 2 kLoP kHiP tv [] k W) (hT : Tab w) : Calls Tryz.prog 22 #[.pointer (some ⟨g.b, 0, none⟩), .int .i64 (-2)] W fun e w' => e = .returned (.int .i64 0) ∧ ∃ tv', Lv w E g chpN 2 kLoP kHiP tv' [-2] 3 w' := by
 refine (Lv.push h (chp_ok TOk.nil (by decide) hT.lt) hT (by decide) (-2) (by decide) (by decide) (by decide)).mono ?_;rintro e w' ⟨h1, tv', h2⟩
 have e3 : ((tch chpN ((-2 : Int)).natAbs : Nat) : Int) = 3 := by
  have := chp_t2;show ((tch chpN 2 : Nat) : Int) = 3
  rw [this]; rfl
 rw [e3] at h2;exact ⟨h1, tv', h2⟩
theorem chp_twicem {k : Int} (h : Lv w E g chpN 2 kLoP kHiP tv [-2] k W) : Calls Tryz.prog 22 #[.pointer (some ⟨g.b, 0, none⟩), .int .i64 (-2)] W fun e w' => e = .returned (.int .i64 4) ∧ Lv w E g chpN 2 kLoP kHiP tv [-2] k w' :=
 (push_twice (-2) (by decide) (by decide) h.ses (by decide +kernel) rfl (by decide) (by decide) (by decide)).mono fun e w' h2 => ⟨h2.1, h.below h2.2⟩
theorem chp_showm (h : Lv w E g chpN 2 kLoP kHiP tv [-2] 3 W) (hT : Tab w) : Calls Tryz.prog 29 #[.pointer (some ⟨g.b, 0, none⟩), .string ⟨#[49]⟩, .string ⟨#[49, 47, 56]⟩, .int .i64 3] W fun e w' => e = .returned (.bool true) ∧ Lv w E g chpN 2 kLoP kHiP tv [-2] 3 w' :=
 (h.shows (chp_ok chp_tokm (by decide) hT.lt) hT _ _ 3 chp_cm chp_wm rfl).mono fun e w' h2 => ⟨h2.1, h.below h2.2⟩
theorem chp_term (h : Lv w E g chpN 2 kLoP kHiP tv [-2] 3 W) : Calls Tryz.prog 26 #[.pointer (some ⟨g.b, 0, none⟩)] W fun e w' => ∃ b o c, e = .returned (.slice (some ⟨b, o, none⟩) 1 c) ∧ w'.cell? ⟨b, o, none⟩ = some (.int .i64 (-2)) ∧ Below W.heap.size W w' := by
 refine (term_at h.ses (by decide +kernel) (by decide)).mono ?_;rintro e w' ⟨A, c, rfl, hr, hb⟩;obtain ⟨b, o, rfl, h1, h2⟩ := hr.rd (by decide);exact ⟨b, o, c, rfl, (h2 0 (by decide)).trans rfl, hb⟩
theorem chp_touch {k : Int} (h : Lv w E g chpN 2 kLoP kHiP tv [] k W) : Calls Tryz.prog 27 #[.pointer (some ⟨g.b, 0, none⟩)] W fun e w' => e = .returned (.int .i64 k) ∧ W = w' :=
 touched_at h.ses (by decide +kernel)
end
end Go.Proofs.YtoljkoifgnmbgaaGreatDoor
