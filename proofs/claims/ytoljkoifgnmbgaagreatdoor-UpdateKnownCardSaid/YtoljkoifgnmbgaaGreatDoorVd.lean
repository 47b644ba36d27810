import Derived.Test.YtoljkoifgnmbgaaGreatDoorVb
set_option linter.unusedSimpArgs false
set_option linter.unusedVariables false
set_option maxRecDepth 100000
set_option maxHeartbeats 8000000
open Go Go.RowKit Cs
namespace Go.Proofs.YtoljkoifgnmbgaaGreatDoor
structure BadAt (gi gn gb gw cl ch : Nat) (Al Ah : Option Addr) (W : World) : Prop where
 ri : W.rowIs gi 3 2 (arrF #[.int .i64 0, .int .i64 0])
 rn : W.rowIs gn 76 6 (arrF (badNA gi))
 rb : W.rowIs gb 24 2 (arrF #[.int .i64 1, .slice (some ⟨gn, 0, none⟩) 2 2])
 rw : W.rowIs gw 30 2 (arrF #[.slice Al 2 cl, .slice Ah 2 ch])
 c1 : 2 ≤ cl
 c2 : 2 ≤ ch
 rl : Rd W W.heap.size Al (2 * 2) (prsF kShP)
 rh : Rd W W.heap.size Ah (2 * 2) (prsF kShP)
section
variable {gi gn gb gw cl ch : Nat} {Al Ah : Option Addr} {W W' : World}
theorem BadAt.below (h : BadAt gi gn gb gw cl ch Al Ah W) (hb : Below W.heap.size W W') : BadAt gi gn gb gw cl ch Al Ah W' :=
 ⟨rowBelow h.ri hb, rowBelow h.rn hb, rowBelow h.rb hb, rowBelow h.rw hb, h.c1, h.c2, (h.rl.below hb).more hb.size, (h.rh.below hb).more hb.size⟩
theorem BadAt.cells (h : BadAt gi gn gb gw cl ch Al Ah W) : W.cell? ⟨gb, 0, none⟩ = some (.int .i64 1) ∧ W.cell? ⟨gb, 1, none⟩ = some (.slice (some ⟨gn, 0, none⟩) 2 2) ∧ W.cell? ⟨gw, 0, none⟩ = some (.slice Al 2 cl) ∧ W.cell? ⟨gw, 1, none⟩ = some (.slice Ah 2 ch) :=
 ⟨h.rb.cell (i := 0) (by decide), h.rb.cell (i := 1) (by decide), h.rw.cell (i := 0) (by decide), h.rw.cell (i := 1) (by decide)⟩
end
def badI : Obj := .cells #[.int .i64 0, .int .i64 0] 3
def badO (b : Nat) : Obj := .cells (badNA b) 76
def badB (b : Nat) : Obj := .cells #[.int .i64 1, .slice (some ⟨b, 0, none⟩) 2 2] 24
def badS : Obj := .cells #[.string ⟨#[48]⟩, .string ⟨#[49]⟩] 9
def badW (w : World) : World := ((((w.alloc badI).alloc (badO w.heap.size)).alloc (badB (w.heap.size + 1))).alloc badS).alloc badS
theorem badW_bl (w : World) : Below w.heap.size w (badW w) :=
 (((((Below.refl w.heap.size w).alloc (zqn _) badI).alloc (by simp) (badO w.heap.size)).alloc (by simp; omega) (badB (w.heap.size + 1))).alloc (by simp; omega) badS).alloc (by simp; omega) badS
theorem badW_at (w w9 : World) (Al Ah : Option Addr) (cl ch : Nat) (hb : Below (badW w).heap.size (badW w) w9) (h1 : 2 ≤ cl) (h2 : 2 ≤ ch) (h3 : Rd w9 w9.heap.size Al (2 * 2) (prsF kShP)) (h4 : Rd w9 w9.heap.size Ah (2 * 2) (prsF kShP)) :
  BadAt w.heap.size (w.heap.size + 1) (w.heap.size + 1 + 1) w9.heap.size cl ch Al Ah (w9.alloc (.cells #[.slice Al 2 cl, .slice Ah 2 ch] 30)) :=
 ⟨(rowBelow (((((arrNew w #[.int .i64 0, .int .i64 0] 3 w.heap.size 2 rfl rfl).alloc (badO w.heap.size)).alloc (badB (w.heap.size + 1))).alloc badS).alloc badS) hb).alloc _,
  (rowBelow ((((arrNew (w.alloc badI) (badNA w.heap.size) 76 (w.heap.size + 1) 6 (by simp) rfl).alloc (badB (w.heap.size + 1))).alloc badS).alloc badS) hb).alloc _,
  (rowBelow (((arrNew ((w.alloc badI).alloc (badO w.heap.size)) #[.int .i64 1, .slice (some ⟨w.heap.size + 1, 0, none⟩) 2 2] 24 (w.heap.size + 1 + 1) 2 (by simp) rfl).alloc badS).alloc badS) hb).alloc _,
  arrNew w9 _ _ _ _ rfl rfl, h1, h2, (h3.alloc (zqn _) _).more (by simp), (h4.alloc (zqn _) _).more (by simp)⟩
theorem badW_ws (w : World) : Calls Tryz.prog 14 #[.slice (some ⟨w.heap.size + 1 + 1 + 1, 0, none⟩) 2 2, .slice (some ⟨w.heap.size + 1 + 1 + 1 + 1, 0, none⟩) 2 2] (badW w) (WtsR (badW w) kSh kSh) := by
 have q1 := str2' ((arrNew (((w.alloc badI).alloc (badO w.heap.size)).alloc (badB (w.heap.size + 1))) #[.string ⟨#[48]⟩, .string ⟨#[49]⟩] 9 (w.heap.size + 1 + 1 + 1) 2 (by simp) rfl).alloc badS);have q2 := str2' (arrNew ((((w.alloc badI).alloc (badO w.heap.size)).alloc (badB (w.heap.size + 1))).alloc badS) #[.string ⟨#[48]⟩, .string ⟨#[49]⟩] 9 (w.heap.size + 1 + 1 + 1 + 1) 2 (by simp) rfl);exact weights_any (badW w) kSh kSh (some ⟨w.heap.size + 1 + 1 + 1, 0, none⟩) (some ⟨w.heap.size + 1 + 1 + 1 + 1, 0, none⟩) 2 2 (by decide) (by decide) (Rd.of_row q1 (zqn _) q1.lt) (Rd.of_row q2 (zqn _) q2.lt) (fun i => by match i with | 0 => decide | 1 => decide | i + 2 => exact Nat.zero_le _) (fun i => by match i with | 0 => decide | 1 => decide | i + 2 => exact Nat.zero_le _)
theorem uknown_any (w : World) (hT : Tab w) : Calls Tryz.prog 6 #[] w fun e w' => e = .returned (.bool true) ∧ Below w.heap.size w w' := by
 have HCH := zqh (chapter_any w hT);have HT : Hid (Tab w) := zqh hT;clear hT
 go_enter Tryz.func6, Tryz.ntmps6
 go_wp2_with (first
  | (go_at_call 28; (with_reducible refine HCH.out.mono ?_); rintro e w1 ⟨g, E, rfl, hs, hb⟩; have a0 := zqh (Lv.mk hs hb); clear hs hb HCH)
  | (go_at_call 22; (with_reducible refine (chp_arg3 a0.out).mono ?_); rintro e w0 ⟨rfl, rfl⟩)
  | (go_at_call 22; (with_reducible refine (chp_arg0 a0.out).mono ?_); rintro e w0 ⟨rfl, rfl⟩)
  | (go_at_call 27; (with_reducible refine (chp_touch a0.out).mono ?_); rintro e w0 ⟨rfl, rfl⟩)
  | (go_at_call 22; (with_reducible refine (chp_pushm a0.out HT.out).mono ?_); rintro e w0 ⟨rfl, tv1, hx⟩; have a1 := zqh hx; clear hx a0)
  | (go_at_call 22; (with_reducible refine (chp_twicem a1.out).mono ?_); rintro e w0 ⟨rfl, hx⟩; have a2 := zqh hx; clear hx a1)
  | (go_at_call 29; (with_reducible refine (chp_showm a2.out HT.out).mono ?_); rintro e w0 ⟨rfl, hx⟩; have a3 := zqh hx; have HWS := zqh (badW_ws w0); clear hx a2)
  | (go_at_call 14; refine HWS.out.mono ?_; rintro e w9 hwr; obtain ⟨hb9, Al, Ah, cl, ch, rfl, g1, g2, g3, g4⟩ := wt_s hwr; have x1 := zqh (badW_at w0 w9 Al Ah cl ch hb9 g1 g2 g3 g4); have a4 := zqh (a3.out.below ((zqx (badW_bl w0) hb9 (badW_bl w0).size).alloc (Nat.le_trans (badW_bl w0).size hb9.size) (.cells #[.slice Al 2 cl, .slice Ah 2 ch] 30))); obtain ⟨s1, s2, s3, s4⟩ := x1.out.cells; clear hwr hb9 HWS g1 g2 g3 g4 a3)
  | (go_at_call 15; (with_reducible refine (bad_shape _ _ _ _ _ _ _ _ (HT.out.below a4.out.bl) x1.out.ri x1.out.rn x1.out.c1 x1.out.c2 x1.out.rl x1.out.rh).mono ?_); rintro e w10 ⟨rfl, hb⟩; have x2 := zqh (x1.out.below hb); have a5 := zqh (a4.out.below hb); obtain ⟨t1, t2, t3, t4⟩ := x2.out.cells; clear hb s1 s2 s3 s4 a4 x1)
  | (go_at_call 15; (with_reducible refine (bad_arg _ _ _ _ x2.out.ri x2.out.rn).mono ?_); rintro e w11 ⟨rfl, hb⟩; have x3 := zqh (x2.out.below hb); have a6 := zqh (a5.out.below hb); obtain ⟨u1, u2, u3, u4⟩ := x3.out.cells; clear hb t1 t2 t3 t4 a5 x2)
  | (go_at_call 15; (with_reducible refine (nil_arg _ _ _ _ _).mono ?_); rintro e w12 ⟨rfl, hb⟩; have a7 := zqh (a6.out.below hb); clear hb u1 u2 u3 u4 a6 x3)
  | (go_at_call 26; (with_reducible refine (chp_term a7.out).mono ?_); rintro e w13 ⟨tb, tq, tc, rfl, htc, hb⟩; have a8 := zqh (a7.out.below hb); clear hb a7)
  | (go_at_call 13; (with_reducible refine (works_any _ (HT.out.below a8.out.bl)).mono ?_); rintro e w14 ⟨rfl, hb⟩; have a9 := zqh (a8.out.below hb); clear hb a8))
 all_goals
  go_ret
  exact ⟨rfl, a9.out.bl⟩
end Go.Proofs.YtoljkoifgnmbgaaGreatDoor
