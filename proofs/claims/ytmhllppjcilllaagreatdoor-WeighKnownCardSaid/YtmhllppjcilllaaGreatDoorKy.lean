import Derived.Test.YtmhllppjcilllaaGreatDoorSw
set_option linter.unusedSimpArgs false
set_option linter.unusedVariables false
set_option maxRecDepth 100000
set_option maxHeartbeats 8000000
open Go Go.RowKit Cs
namespace Cs
def trN : Nt := ⟨1, [⟨1, 0, []⟩]⟩
def trNA : Array Value := #[.int .i64 1, .int .i64 0, .slice none 0 0]
theorem trN_at {w : World} {B g : Nat} {t : TypeId} (hg : g < B) (hr : w.rowIs g t 3 (arrF (trNA ))) : NtAt w B (some ⟨g, 0, none⟩) trN.l := fun _ => by
 refine ⟨g, 0, rfl, hg, fun i hi => ?_⟩
 match i, hi with
 | 0, _ => exact ⟨hr.cell (i := 0) (by decide), hr.cell (i := 1) (by decide), ⟨none, 0, hr.cell (i := 2) (by decide), Rd.zero _ _ _ _⟩, (show r64 (1) by unfold r64; decide), (show r64 (0) by unfold r64; decide), (show ∀ i ∈ ([] : List Int), r64 i by unfold r64; decide), (show ([] : List Int).length ≤ 140737488355328 by decide)⟩
def flN : Nt := ⟨0, [⟨0, 0, []⟩]⟩
def flNA : Array Value := #[.int .i64 0, .int .i64 0, .slice none 0 0]
theorem flN_at {w : World} {B g : Nat} {t : TypeId} (hg : g < B) (hr : w.rowIs g t 3 (arrF (flNA ))) : NtAt w B (some ⟨g, 0, none⟩) flN.l := fun _ => by
 refine ⟨g, 0, rfl, hg, fun i hi => ?_⟩
 match i, hi with
 | 0, _ => exact ⟨hr.cell (i := 0) (by decide), hr.cell (i := 1) (by decide), ⟨none, 0, hr.cell (i := 2) (by decide), Rd.zero _ _ _ _⟩, (show r64 (0) by unfold r64; decide), (show r64 (0) by unfold r64; decide), (show ∀ i ∈ ([] : List Int), r64 i by unfold r64; decide), (show ([] : List Int).length ≤ 140737488355328 by decide)⟩
def shN : Nt := ⟨1, [⟨2, 1, []⟩, ⟨3, 0, [0, 0]⟩]⟩
def shNA (b1 : Nat) : Array Value := #[.int .i64 2, .int .i64 1, .slice none 0 0, .int .i64 3, .int .i64 0, .slice (some ⟨b1, 0, none⟩) 2 2]
theorem shN_at {w : World} {B g b1 : Nat} {t : TypeId} {s : TypeId} (hg : g < B) (h1 : b1 < B) (r1 : w.rowIs b1 s 2 (arrF #[.int .i64 0, .int .i64 0])) (hr : w.rowIs g t 6 (arrF (shNA b1))) : NtAt w B (some ⟨g, 0, none⟩) shN.l := fun _ => by
 refine ⟨g, 0, rfl, hg, fun i hi => ?_⟩
 match i, hi with
 | 0, _ => exact ⟨hr.cell (i := 0) (by decide), hr.cell (i := 1) (by decide), ⟨none, 0, hr.cell (i := 2) (by decide), Rd.zero _ _ _ _⟩, (show r64 (2) by unfold r64; decide), (show r64 (1) by unfold r64; decide), (show ∀ i ∈ ([] : List Int), r64 i by unfold r64; decide), (show ([] : List Int).length ≤ 140737488355328 by decide)⟩
 | 1, _ => exact ⟨hr.cell (i := 3) (by decide), hr.cell (i := 4) (by decide), ⟨some ⟨b1, 0, none⟩, 2, hr.cell (i := 5) (by decide), Rd.of_row (r1.congr fun j hj => by
    match j, hj with
    | 0, _ => rfl
    | 1, _ => rfl
    ) (zqn _) h1⟩, (show r64 (3) by unfold r64; decide), (show r64 (0) by unfold r64; decide), (show ∀ i ∈ ([0, 0] : List Int), r64 i by unfold r64; decide), (show ([0, 0] : List Int).length ≤ 140737488355328 by decide)⟩
end Cs
namespace Go.Proofs.YtmhllppjcilllaaGreatDoor
def KnE (W : World) (ga i : Nat) : Prop := ∃ (t : List Int) (At : Option Addr) (ct : Nat) (p : Pr) (s : ByteArray), W.cell? ⟨ga, i * 2, none⟩ = some (.slice At t.length ct) ∧ W.cell? ⟨ga, i * 2 + 1, none⟩ = some (.string s) ∧
 Rd W W.heap.size At t.length (intF t) ∧ t.length ≤ 1000000 ∧ (∀ x ∈ t, -9223372036854775808 ≤ x ∧ x ≤ 9223372036854775807) ∧ shareR smpN 3 smpL smpH t = (p, 0) ∧ ptext p.1 p.2 = s ∧ n8 p.1 ≤ 100000 ∧ n8 p.2 ≤ 100000
structure Kn (ga a b c : Nat) (W : World) : Prop where
 rg : W.rowIs ga 84 8 (arrF #[.slice (some ⟨a, 0, none⟩) 1 1, .string ⟨#[51, 47, 52]⟩, .slice none 0 0, .string ⟨#[49]⟩, .slice (some ⟨b, 0, none⟩) 2 2, .string ⟨#[48]⟩, .slice (some ⟨c, 0, none⟩) 2 2, .string ⟨#[53, 47, 56]⟩])
 ra : W.rowIs a 3 1 (arrF #[.int .i64 1])
 rb : W.rowIs b 3 2 (arrF #[.int .i64 (-2), .int .i64 (-1)])
 rc : W.rowIs c 3 2 (arrF #[.int .i64 2, .int .i64 2])
theorem Kn.below {ga a b c : Nat} {W W' : World} (h : Kn ga a b c W) (hb : Below W.heap.size W W') : Kn ga a b c W' := ⟨rowBelow h.rg hb, rowBelow h.ra hb, rowBelow h.rb hb, rowBelow h.rc hb⟩
theorem int1 {w : World} {g : Nat} {t : TypeId} {a : Int} (h : w.rowIs g t 1 (arrF #[.int .i64 a])) : w.rowIs g t 1 (intF [a]) := h.congr fun i hi => by
 match i, hi with
 | 0, _ => rfl
theorem Kn.elem {ga a b c : Nat} {W : World} (h : Kn ga a b c W) (i : Nat) (hi : i < 4) : KnE W ga i := by
 match i, hi with
 | 0, _ => exact ⟨[1], some ⟨a, 0, none⟩, 1, (3, 4), _, h.rg.cell (i := 0) (by decide), h.rg.cell (i := 1) (by decide), Rd.of_row (int1 h.ra) (zqn _) h.ra.lt, by decide, by decide, by decide +kernel, by decide +kernel, by decide +kernel, by decide +kernel⟩
 | 1, _ => exact ⟨[], none, 0, (1, 1), _, h.rg.cell (i := 2) (by decide), h.rg.cell (i := 3) (by decide), (fun hn => absurd hn (by decide)), by decide, by decide, by decide +kernel, by decide +kernel, by decide +kernel, by decide +kernel⟩
 | 2, _ => exact ⟨[-2, -1], some ⟨b, 0, none⟩, 2, (0, 1), _, h.rg.cell (i := 4) (by decide), h.rg.cell (i := 5) (by decide), Rd.of_row (int2 h.rb) (zqn _) h.rb.lt, by decide, by decide, by decide +kernel, by decide +kernel, by decide +kernel, by decide +kernel⟩
 | 3, _ => exact ⟨[2, 2], some ⟨c, 0, none⟩, 2, (5, 8), _, h.rg.cell (i := 6) (by decide), h.rg.cell (i := 7) (by decide), Rd.of_row (int2 h.rc) (zqn _) h.rc.lt, by decide, by decide, by decide +kernel, by decide +kernel, by decide +kernel, by decide +kernel⟩
theorem of91_any (w : World) : Calls Tryz.prog 29 #[.int .u64 9, .int .u64 1] w fun e w' => e = .returned (ratV 9 1) ∧ Below w.heap.size w w' := by
 have h := qlof_any w 9 1 (by decide) (by decide) (by decide);rw [show qn (qq 9 1) = 9 by decide +kernel, show (qq 9 1).den = 1 by decide +kernel] at h;exact h
theorem of81_any (w : World) : Calls Tryz.prog 29 #[.int .u64 8, .int .u64 1] w fun e w' => e = .returned (ratV 8 1) ∧ Below w.heap.size w w' := by
 have h := qlof_any w 8 1 (by decide) (by decide) (by decide);rw [show qn (qq 8 1) = 8 by decide +kernel, show (qq 8 1).den = 1 by decide +kernel] at h;exact h
theorem of14_any (w : World) : Calls Tryz.prog 29 #[.int .u64 1, .int .u64 4] w fun e w' => e = .returned (ratV 1 4) ∧ Below w.heap.size w w' := by
 have h := qlof_any w 1 4 (by decide) (by decide) (by decide);rw [show qn (qq 1 4) = 1 by decide +kernel, show (qq 1 4).den = 4 by decide +kernel] at h;exact h
theorem rat2 {w : World} {g n d n' d' : Nat} {t : TypeId} (h : w.rowIs g t 4 (arrF #[.string (natB n), .string (natB d), .string (natB n'), .string (natB d')])) : w.rowIs g t ((1 + 1) * 2) (prsF [(n, d), (n', d')]) := h.congr fun i hi => by
 match i, hi with
 | 0, _ => rfl
 | 1, _ => rfl
 | 2, _ => rfl
 | 3, _ => rfl
def trL : List Pr := [(9, 1), (1, 4)]
def trH : List Pr := [(8, 1), (1, 2)]
theorem tr_in : WtIn 1 trL trH := few_in rfl rfl
 (fun p hp => by
   simp [trL] at hp;rcases hp with rfl | rfl
   ·exact ⟨lp_of 9 _ (by decide +kernel) (by decide +kernel), by decide, by decide⟩
   ·exact ⟨lp_of (1 / 4) _ (by decide +kernel) (by decide +kernel), by decide, by decide⟩)
 (fun p hp => by
   simp [trH] at hp;rcases hp with rfl | rfl
   ·exact ⟨lp_of 8 _ (by decide +kernel) (by decide +kernel), by decide, by decide⟩
   ·exact ⟨lp_of (1 / 2) _ (by decide +kernel) (by decide +kernel), by decide, by decide⟩)
theorem one_in (n : Nat) : WtIn n (List.replicate (n + 1) (1, 1)) (List.replicate (n + 1) (1, 1)) := few_in (by simp) (by simp)
 (fun p hp => by obtain rfl := (List.mem_replicate.1 hp).2; exact ⟨lp_of 1 _ (by decide +kernel) (by decide +kernel), by decide, by decide⟩)
 (fun p hp => by obtain rfl := (List.mem_replicate.1 hp).2; exact ⟨lp_of 1 _ (by decide +kernel) (by decide +kernel), by decide, by decide⟩)
theorem sh_in : WtIn 1 [(0, 0), (0, 0)] [(0, 0), (0, 0)] := few_in rfl rfl
 (fun p hp => by simp at hp; subst hp; exact ⟨Lp.zero, by decide, by decide⟩)
 (fun p hp => by simp at hp; subst hp; exact ⟨Lp.zero, by decide, by decide⟩)
theorem prs_00 : ∀ i, prsF [(0, 0), (0, 0)] i = prsF [] i := fun i => by
 unfold prsF
 match i / 2 with
 | 0 => rfl
 | 1 => rfl
 | k + 2 => rfl
theorem tr_total {W : World} {b x y : Nat} (hT : Tab W) (hn : W.rowIs b 66 3 (arrF trNA)) (hx : W.rowIs x 33 4 (arrF #[.string (natB 9), .string (natB 1), .string (natB 1), .string (natB 4)])) (hy : W.rowIs y 33 4 (arrF #[.string (natB 8), .string (natB 1), .string (natB 1), .string (natB 2)])) :
  Calls Tryz.prog 16 #[.agg #[.int .i64 1, .slice (some ⟨b, 0, none⟩) 1 1], .agg #[.slice (some ⟨x, 0, none⟩) 2 2, .slice (some ⟨y, 0, none⟩) 2 2]] W fun e w' => e = .returned (.tuple #[ratV 3 4, .int .i64 0]) ∧ Below W.heap.size W w' :=
 total_fit W trN (some ⟨b, 0, none⟩) 1 2 2 1 trL trH _ _ (trN_at hn.lt hn) (by decide +kernel) rfl hT (by decide +kernel) tr_in (Rd.of_row (rat2 hx) (zqn _) hx.lt) (Rd.of_row (rat2 hy) (zqn _) hy.lt) (by decide) (by decide) (3, 4) 0 (by decide +kernel) (by decide +kernel)
theorem fl_share {W : World} {b x y : Nat} (hT : Tab W) (hn : W.rowIs b 66 3 (arrF flNA)) (hx : W.rowIs x 33 ((0 + 1) * 2) (prsF (List.replicate (0 + 1) (1, 1)))) (hy : W.rowIs y 33 ((0 + 1) * 2) (prsF (List.replicate (0 + 1) (1, 1)))) :
  Calls Tryz.prog 23 #[.agg #[.int .i64 0, .slice (some ⟨b, 0, none⟩) 1 1], .agg #[.slice (some ⟨x, 0, none⟩) 1 1, .slice (some ⟨y, 0, none⟩) 1 1], .slice none 0 0] W fun e w' => e = .returned (.tuple #[ratV 0 0, .int .i64 3]) ∧ Below W.heap.size W w' := by
 have := share_fit W flN (some ⟨b, 0, none⟩) 1 1 1 0 0 _ _ [] _ _ none (flN_at hn.lt hn) (by decide +kernel) rfl hT (by decide +kernel) (one_in 0) (Rd.of_row hx (zqn _) hx.lt) (Rd.of_row hy (zqn _) hy.lt) (by decide) (by decide) (fun h => absurd h (by decide)) (by decide) (by decide);rw [show shareR flN 0 (List.replicate (0 + 1) (1, 1)) (List.replicate (0 + 1) (1, 1)) [] = ((0, 0), 3) by decide +kernel] at this;exact this
theorem sh_total {W : World} {b x y : Nat} (hT : Tab W) (hn : NtAt W W.heap.size (some ⟨b, 0, none⟩) shN.l) (hx : W.rowIs x 33 ((1 + 1) * 2) (prsF [])) (hy : W.rowIs y 33 ((1 + 1) * 2) (prsF [])) :
  Calls Tryz.prog 16 #[.agg #[.int .i64 1, .slice (some ⟨b, 0, none⟩) 2 2], .agg #[.slice (some ⟨x, 0, none⟩) 2 2, .slice (some ⟨y, 0, none⟩) 2 2]] W fun e w' => e = .returned (.tuple #[ratV 0 0, .int .i64 210]) ∧ Below W.heap.size W w' :=
 total_fit W shN (some ⟨b, 0, none⟩) 2 2 2 1 [(0, 0), (0, 0)] [(0, 0), (0, 0)] _ _ hn (by decide +kernel) rfl hT (by decide +kernel) sh_in (Rd.of_row (hx.congr fun i _ => (prs_00 i).symm) (zqn _) hx.lt) (Rd.of_row (hy.congr fun i _ => (prs_00 i).symm) (zqn _) hy.lt) (by decide) (by decide) (0, 0) 210 (by decide +kernel) (by decide +kernel)
theorem known_any (w : World) (hT : Tab w) : Calls Tryz.prog 10 #[] w fun e w' => e = .returned (.bool true) ∧ Below w.heap.size w w' := by
 have HSA := zqh (sample_any w);have HT : Hid (Tab w) := zqh hT;clear hT
 go_enter Tryz.func10, Tryz.ntmps10
 go_upto_region 1 with (fail)
 go_cut [1, 2] from 17 to 20 (fun p q wx => ∃ gn b1 b2 Al Ah, p = .pointer (some ⟨b1, 0, none⟩) ∧ q = .pointer (some ⟨b2, 0, none⟩) ∧ Smw w b1 b2 gn Al Ah wx)
 case first =>
  go_wp2_with (go_at_call 41; (with_reducible refine HSA.out.mono ?_); rintro e w1 ⟨gn, Al, Ah, rfl, hnt, hrl, hrh, hb1⟩)
  all_goals
   go_meet
   have ra := arrNew w1 #[.int .i64 3, .slice (some ⟨gn, 0, none⟩) 7 7] 24 w1.heap.size 2 rfl rfl;have rb := arrNew (w1.alloc (.cells #[.int .i64 3, .slice (some ⟨gn, 0, none⟩) 7 7] 24)) #[.slice (some ⟨Al, 0, none⟩) 4 4, .slice (some ⟨Ah, 0, none⟩) 4 4] 39 (w1.heap.size + 1) 2 (by simp) rfl;have hb2 := ((Below.refl w1.heap.size w1).alloc (zqn _) (.cells #[.int .i64 3, .slice (some ⟨gn, 0, none⟩) 7 7] 24)).alloc (by simp) (.cells #[.slice (some ⟨Al, 0, none⟩) 4 4, .slice (some ⟨Ah, 0, none⟩) 4 4] 39);exact ⟨gn, w1.heap.size, w1.heap.size + 1, Al, Ah, rfl, rfl, ra.alloc _, rb, (hnt.below hb2).more hb2.size, (hrl.below hb2).more hb2.size, (hrh.below hb2).more hb2.size, zqx hb1 hb2 hb1.size⟩
 case rest =>
 obtain ⟨gn, b1, b2, Al, Ah, rfl, rfl, hs⟩ := hcut;have A1 := zqh hs;clear hs
 go_upto_region 2 with (fail)
 go_cut [28, 29, 30] from 21 to 30 (fun p q r wx => ∃ ga a b c, p = .slice (some ⟨ga, 0, none⟩) 4 4 ∧ q = .int .i64 4 ∧ r = .int .i64 0 ∧ Kn ga a b c wx ∧ Smw w b1 b2 gn Al Ah wx)
 case first =>
  have c1 := arrNew wc #[.int .i64 1] 3 wc.heap.size 1 rfl rfl;have c2 := arrNew (wc.alloc (.cells #[.int .i64 1] 3)) #[.int .i64 (-2), .int .i64 (-1)] 3 (wc.heap.size + 1) 2 (by simp) rfl;have c3 := arrNew ((wc.alloc (.cells #[.int .i64 1] 3)).alloc (.cells #[.int .i64 (-2), .int .i64 (-1)] 3)) #[.int .i64 2, .int .i64 2] 3 (wc.heap.size + 1 + 1) 2 (by simp) rfl;have hb := (((Below.refl wc.heap.size wc).alloc (zqn _) (.cells #[.int .i64 1] 3)).alloc (by simp) (.cells #[.int .i64 (-2), .int .i64 (-1)] 3)).alloc (by simp; omega) (.cells #[.int .i64 2, .int .i64 2] 3)
  go_wp2
  all_goals
   go_meet
   exact ⟨wc.heap.size + 1 + 1 + 1, wc.heap.size, wc.heap.size + 1, wc.heap.size + 1 + 1, by simp, rfl, rfl, ⟨arrNew _ _ _ _ _ (by simp) rfl, (((c1.alloc _).alloc _).alloc _), ((c2.alloc _).alloc _), c3.alloc _⟩, A1.out.below (hb.alloc (by simp; omega) _)⟩
 case rest =>
 obtain ⟨ga, a, b, c, rfl, rfl, rfl, hk, hs⟩ := hcut;clear A1
 go_upto_region 3 with (fail)
 go_loopw [30] (fun t wr => ∃ k : Nat, k ≤ 4 ∧ t = .int .i64 k ∧ Kn ga a b c wr ∧ Smw w b1 b2 gn Al Ah wr) (fun t _ => 4 - (intOf t).toNat)
 case atStart => exact ⟨0, by omega, rfl, hk, hs⟩
 case round =>
  clear hk hs;obtain ⟨k, hk, rfl, hkn, hs⟩ := hrel;by_cases hlt : k < 4
  ·obtain ⟨t, At, ct, p, s, x1, x2, ht, htl, hr, he, hp, hp1, hp2⟩ := hkn.elem k hlt;obtain ⟨g4, hg4⟩ : ∃ g, wr.heap.size = g := ⟨_, rfl⟩;have hbl := (Below.refl wr.heap.size wr).alloc (zqn _) (.cells #[.slice At t.length ct, .string s] 84);have r4 := arrNew wr #[.slice At t.length ct, .string s] 84 wr.heap.size 2 rfl rfl;have A3 := zqh (hs.below hbl);have hsh := A3.out.share HT.out t At ct ((ht.below hbl).more hbl.size) htl hr p 0 he;have HSH := zqh hsh;have HKN := zqh (hkn.below hbl);have HBL := zqh hbl;obtain ⟨s1, s2, s3, s4⟩ := A3.out.loads;obtain ⟨pn, pd⟩ := p
   have QT : Hid (∀ W, Calls Tryz.prog 28 #[ratV pn pd] W fun e w' => e = .returned (.string s) ∧ Below W.heap.size W w') := zqh fun W => by rw [← hp]; exact qtext_any W pn pd hp1 hp2
   have z1 : (wr.alloc (.cells #[.slice At t.length ct, .string s] 84)).cell? ⟨wr.heap.size, 0, none⟩ = some (.slice At t.length ct) := r4.cell (i := 0) (by decide);have z2 : (wr.alloc (.cells #[.slice At t.length ct, .string s] 84)).cell? ⟨wr.heap.size, 1, none⟩ = some (.string s) := r4.cell (i := 1) (by decide);have R4 := zqh r4;clear hkn hs hbl r4 hsh ht htl hr he hp hp1 hp2 hg4
   go_wp2_with (first
    | (go_at_call 23; (with_reducible refine HSH.out.mono ?_); rintro e w4 ⟨rfl, hb4⟩
       have r4 := rowBelow R4.out hb4;have A4 := zqh ((A3.out.below hb4).below ((zqr _ _).alloc (zqn _) (.cells #[.string (natB pn), .string (natB pd)] 33)));have K4 := zqh ((HKN.out.below hb4).below ((zqr _ _).alloc (zqn _) (.cells #[.string (natB pn), .string (natB pd)] 33)));have r5 := arrNew w4 #[.string (natB pn), .string (natB pd)] 33 w4.heap.size 2 rfl rfl;have r4' := r4.alloc (.cells #[.string (natB pn), .string (natB pd)] 33);have R4' := zqh r4';have y1 : (w4.alloc (.cells #[.string (natB pn), .string (natB pd)] 33)).cell? ⟨wr.heap.size, 0, none⟩ = some (.slice At t.length ct) := r4'.cell (i := 0) (by decide);have y2 : (w4.alloc (.cells #[.string (natB pn), .string (natB pd)] 33)).cell? ⟨wr.heap.size, 1, none⟩ = some (.string s) := r4'.cell (i := 1) (by decide);have y3 : (w4.alloc (.cells #[.string (natB pn), .string (natB pd)] 33)).cell? ⟨w4.heap.size, 0, none⟩ = some (.string (natB pn)) := r5.cell (i := 0) (by decide);have y4 : (w4.alloc (.cells #[.string (natB pn), .string (natB pd)] 33)).cell? ⟨w4.heap.size, 1, none⟩ = some (.string (natB pd)) := r5.cell (i := 1) (by decide)
       clear r4 r4' r5 A3 HKN HSH s1 s2 s3 s4 x1 x2 z1 z2 R4))
   go_region_with (go_at_call 28; (with_reducible refine (QT.out _).mono ?_); rintro e w5 ⟨rfl, hb5'⟩; have hb5 := zqx (Below.refl (w4.alloc (.cells #[.string (natB pn), .string (natB pd)] 33)).heap.size (w4.alloc (.cells #[.string (natB pn), .string (natB pd)] 33))).drew hb5' (zqn _); have y5 : w5.cell? ⟨wr.heap.size, 1, none⟩ = some (.string s) := (rowBelow R4'.out hb5).cell (i := 1) (by decide))
   all_goals
    try go_wp2
    go_roundw
    case rel => exact ⟨k + 1, by omega, by go_num, K4.out.below hb5, A4.out.below hb5⟩
    case measure => simp [intOf]; omega
  ·obtain rfl : k = 4 := by omega
   obtain ⟨s1, s2, s3, s4⟩ := hs.loads;have ra := arrNew wr #[.int .i64 1, .int .i64 (-1)] 3 wr.heap.size 2 rfl rfl;have A3 := zqh (hs.below ((zqr _ _).alloc (zqn _) (.cells #[.int .i64 1, .int .i64 (-1)] 3)));have hsh : Calls Tryz.prog 23 #[.agg #[.int .i64 3, .slice (some ⟨gn, 0, none⟩) 7 7], .agg #[.slice (some ⟨Al, 0, none⟩) 4 4, .slice (some ⟨Ah, 0, none⟩) 4 4], .slice (some ⟨wr.heap.size, 0, none⟩) 2 2] (wr.alloc (.cells #[.int .i64 1, .int .i64 (-1)] 3)) fun e w' => e = .returned (.tuple #[ratV 0 0, .int .i64 1]) ∧ Below ((wr.alloc (.cells #[.int .i64 1, .int .i64 (-1)] 3))).heap.size ((wr.alloc (.cells #[.int .i64 1, .int .i64 (-1)] 3))) w' := A3.out.share HT.out [1, -1] (some ⟨wr.heap.size, 0, none⟩) 2 (Rd.of_row (int2 ra) (zqn _) ra.lt) (by decide) (by decide) (0, 0) 1 (by decide +kernel);have HSH := zqh hsh;clear hs ra hsh hkn
   go_upto_region 9 with (fail)
   go_cut [7, 8] from 52 to 58 (fun p q wx => ∃ b7, p = .pointer (some ⟨b7, 0, none⟩) ∧ q = .int .i64 1 ∧ Below w.heap.size w wx)
   case first =>
    go_wp2_with (go_at_call 23; (with_reducible refine HSH.out.mono ?_); rintro e w4 ⟨rfl, hb4⟩)
    all_goals
     go_meet
     exact ⟨w4.heap.size, rfl, rfl, (zqx A3.out.bl hb4 A3.out.bl.size).alloc (Nat.le_trans A3.out.bl.size hb4.size) _⟩
   case rest =>
   obtain ⟨b7, rfl, rfl, hbl⟩ := hcut;clear s1 s2 s3 s4 HSH A3;have BL := zqh hbl;clear hbl
   go_upto_region 10 with (fail)
   go_cut [9, 10] from 59 to 72 (fun p q wx => ∃ b9, p = .pointer (some ⟨b9, 0, none⟩) ∧ q = .int .i64 0 ∧ wx.rowIs b9 33 2 (ratF 3 4) ∧ Below w.heap.size w wx)
   case first =>
    have q0 := (Bag.zero wc).new trNA 66 wc.heap.size 3 rfl rfl;have HT' := zqh (HT.out.below BL.out)
    go_wp2_with (first
     | (go_at_call 29; (with_reducible refine (of91_any _).mono ?_); rintro e y1 ⟨rfl, hb1⟩; have q1 := q0.below hb1; clear q0 hb1)
     | (go_at_call 29; (with_reducible refine (of14_any _).mono ?_); rintro e y2 ⟨rfl, hb2⟩; have q2 := (q1.below hb2).new #[.string (natB 9), .string (natB 1), .string (natB 1), .string (natB 4)] 33 y2.heap.size 4 rfl rfl; clear q1 hb2)
     | (go_at_call 29; (with_reducible refine (of81_any _).mono ?_); rintro e y3 ⟨rfl, hb3⟩; have q3 := q2.below hb3; clear q2 hb3)
     | (go_at_call 29; (with_reducible refine (of12_any _).mono ?_); rintro e y4 ⟨rfl, hb4⟩; have q4 := (q3.below hb4).new #[.string (natB 8), .string (natB 1), .string (natB 1), .string (natB 2)] 33 y4.heap.size 4 rfl rfl; clear q3 hb4)
     | (go_at_call 16; (with_reducible refine (tr_total (HT'.out.below q4.bl) (q4.rows (wc.heap.size, 66, 3, trNA) (by simp)) (q4.rows (y2.heap.size, 33, 4, #[.string (natB 9), .string (natB 1), .string (natB 1), .string (natB 4)]) (by simp)) q4.row0).mono ?_); rintro e y5 ⟨rfl, hb5⟩))
    all_goals
     go_meet
     exact ⟨y5.heap.size, rfl, rfl, (arrNew y5 _ _ _ _ rfl rfl).congr (ratF_arr 3 4), (zqx BL.out (zqx q4.bl hb5 q4.bl.size) BL.out.size).alloc (Nat.le_trans BL.out.size (Nat.le_trans q4.bl.size hb5.size)) _⟩
   case rest =>
   clear BL;obtain ⟨b9, rfl, rfl, r9, hbl⟩ := hcut;have BL := zqh hbl;have R9 := zqh r9;clear hbl r9
   go_upto_region 11 with (fail)
   go_cut [11, 12] from 73 to 76 (fun p q wx => ∃ bw x y, p = .pointer (some ⟨bw, 0, none⟩) ∧ q = .int .i64 0 ∧ wx.rowIs bw 39 2 (arrF #[.slice (some ⟨x, 0, none⟩) 1 1, .slice (some ⟨y, 0, none⟩) 1 1]) ∧ wx.rowIs x 33 ((0 + 1) * 2) (prsF (List.replicate (0 + 1) (1, 1))) ∧ wx.rowIs y 33 ((0 + 1) * 2) (prsF (List.replicate (0 + 1) (1, 1))) ∧ wx.rowIs b9 33 2 (ratF 3 4) ∧ Below w.heap.size w wx)
   case first =>
    have ho : Calls Tryz.prog 39 #[.int .i64 0] wc _ := ones_any wc 0 (by decide)
    go_wp2_with (go_at_call 39; (with_reducible refine ho.mono ?_); rintro e y1 ⟨x, y, rfl, _, _, _, rx, ry, hb1⟩)
    all_goals
     go_meet
     exact ⟨y1.heap.size, x, y, rfl, rfl, arrNew y1 _ _ _ _ rfl rfl, rx.alloc _, ry.alloc _, (rowBelow R9.out hb1).alloc _, (zqx BL.out hb1 BL.out.size).alloc (Nat.le_trans BL.out.size hb1.size) _⟩
   case rest =>
   clear BL R9;obtain ⟨bw, x, y, rfl, rfl, rw1, rx, ry, r9, hbl⟩ := hcut;have BL := zqh hbl;have R9 := zqh r9;have o1 : (wc.alloc (.cells #[.int .i64 0, .int .i64 0, .slice none 0 0] 66)).cell? ⟨bw, 0, none⟩ = some (.slice (some ⟨x, 0, none⟩) 1 1) := (rw1.alloc _).cell (i := 0) (by decide);have o2 : (wc.alloc (.cells #[.int .i64 0, .int .i64 0, .slice none 0 0] 66)).cell? ⟨bw, 1, none⟩ = some (.slice (some ⟨y, 0, none⟩) 1 1) := (rw1.alloc _).cell (i := 1) (by decide);have hbn := (Below.refl wc.heap.size wc).alloc (zqn _) (.cells #[.int .i64 0, .int .i64 0, .slice none 0 0] 66);have hfl := fl_share (HT.out.below (zqx BL.out hbn BL.out.size)) (arrNew wc #[.int .i64 0, .int .i64 0, .slice none 0 0] 66 wc.heap.size 3 rfl rfl) (rowBelow rx hbn) (rowBelow ry hbn);have HFL := zqh hfl;have BN := zqh (zqx BL.out hbn BL.out.size);have R9' := zqh (rowBelow r9 hbn);clear hbl r9 rw1 rx ry hbn hfl
   go_upto_region 12 with (fail)
   go_cut [13, 14] from 77 to 84 (fun p q wx => ∃ b13, p = .pointer (some ⟨b13, 0, none⟩) ∧ q = .int .i64 3 ∧ wx.rowIs b9 33 2 (ratF 3 4) ∧ Below w.heap.size w wx)
   case first =>
    go_wp2_with (go_at_call 23; (with_reducible refine HFL.out.mono ?_); rintro e y1 ⟨rfl, hb1⟩)
    all_goals
     go_meet
     exact ⟨y1.heap.size, rfl, rfl, (rowBelow R9'.out hb1).alloc _, (zqx BN.out hb1 BN.out.size).alloc (Nat.le_trans BN.out.size hb1.size) _⟩
   case rest =>
   clear BL R9 BN R9' HFL o1 o2;obtain ⟨b13, rfl, rfl, r9, hbl⟩ := hcut;have BL := zqh hbl;have R9 := zqh r9;clear hbl r9
   go_upto_region 13 with (fail)
   go_cut [15, 16] from 85 to 96 (fun p q wx => ∃ b15, p = .pointer (some ⟨b15, 0, none⟩) ∧ q = .int .i64 210 ∧ Below wc.heap.size wc wx)
   case first =>
    have hmk : ∀ u, (Instr.makeSlice 37 (.int .i64 2) (.int .i64 2)).run Tryz.prog u = .ok (.slice (some ⟨u.heap.size, 0, none⟩) 2 2) (u.alloc (.cells (madeCells #[.string ⟨#[]⟩, .string ⟨#[]⟩] (2 * 2)) 33)) := mk_rat 2 (by decide);have HMK := zqh hmk;clear hmk
    go_wp2_with fail
    refine wp_region_props_late (n := _) (PX := [zqu (.agg #[.int .i64 2, .int .i64 1, .slice none 0 0]),
       fun xl xv xw => ∃ X, xv = .slice (some ⟨X, 0, none⟩) 2 2 ∧ wc.heap.size ≤ X ∧ World.rowIs xw X 3 2 (arrF #[.int .i64 0, .int .i64 0]),
       fun xl xv xw => ∃ X, xv = .agg #[.int .i64 3, .int .i64 0, .slice (some ⟨X, 0, none⟩) 2 2] ∧ wc.heap.size ≤ X ∧ World.rowIs xw X 3 2 (arrF #[.int .i64 0, .int .i64 0]),
       fun xl xv xw => ∃ X, xv = .slice (some ⟨X, 0, none⟩) 2 2 ∧ NtAt xw (World.heap xw).size (some ⟨X, 0, none⟩) shN.l,
       fun xl xv xw => ∃ X, xv = .agg #[.int .i64 1, .slice (some ⟨X, 0, none⟩) 2 2] ∧ NtAt xw (World.heap xw).size (some ⟨X, 0, none⟩) shN.l,
       fun xl xv xw => ∃ X, xv = .slice (some ⟨X, 0, none⟩) 2 2 ∧ wc.heap.size ≤ X ∧ World.rowIs xw X 33 ((1 + 1) * 2) (prsF []),
       fun xl xv xw => ∃ X, xv = .slice (some ⟨X, 0, none⟩) 2 2 ∧ wc.heap.size ≤ X ∧ World.rowIs xw X 33 ((1 + 1) * 2) (prsF []),
       fun xl xv xw => ∃ X Y, xv = .agg #[.slice (some ⟨X, 0, none⟩) 2 2, .slice (some ⟨Y, 0, none⟩) 2 2] ∧ World.rowIs xw X 33 ((1 + 1) * 2) (prsF []) ∧ World.rowIs xw Y 33 ((1 + 1) * 2) (prsF []),
       zqu (.tuple #[ratV 0 0, .int .i64 210]),
       zqu (.tuple #[ratV 0 0, .int .i64 210]),
       zqu (ratV 0 0),
       zqu (.int .i64 210),
       fun xl xv xw => ∃ X, xv = .pointer (some ⟨X, 0, none⟩) ∧ wc.heap.size ≤ X ∧ World.rowIs xw X 33 2 (arrF #[.string ⟨#[]⟩, .string ⟨#[]⟩])])
      (AL := [1, 12]) (DP := [[], [], [1], [0, 2], [3], [], [], [5, 6], [4, 7], [8], [9], [9], []]) (L1 := [0, 1, 2, 3, 4, 5, 6, 7, 8, 9, 10, 12]) (ex := [11]) (by kernel_rfl) rfl (by kernel_rfl) (by kernel_rfl) (fun _ _ _ _ _ h => h) ?_ ?_ ?_ ?_
    ·refine zqg ?_ (zqg ?_ (zqg ?_ (zqg ?_ (zqg ?_ (zqg ?_ (zqg ?_ (zqg ?_ (zqg ?_ (zqg ?_ (zqg ?_ (zqg ?_ (zqg ?_ zqi))))))))))))
     ·exact fun _ _ _ _ h _ => h
     ·exact fun l v w w2 h hb => by obtain ⟨X, h1, h2, h3⟩ := h; exact ⟨X, h1, h2, rowBelow h3 hb⟩
     ·exact fun l v w w2 h hb => by obtain ⟨X, h1, h2, h3⟩ := h; exact ⟨X, h1, h2, rowBelow h3 hb⟩
     ·exact fun l v w w2 h hb => by obtain ⟨X, h1, h2⟩ := h; exact ⟨X, h1, (h2.below hb).more hb.size⟩
     ·exact fun l v w w2 h hb => by obtain ⟨X, h1, h2⟩ := h; exact ⟨X, h1, (h2.below hb).more hb.size⟩
     ·exact fun l v w w2 h hb => by obtain ⟨X, h1, h2, h3⟩ := h; exact ⟨X, h1, h2, rowBelow h3 hb⟩
     ·exact fun l v w w2 h hb => by obtain ⟨X, h1, h2, h3⟩ := h; exact ⟨X, h1, h2, rowBelow h3 hb⟩
     ·exact fun l v w w2 h hb => by obtain ⟨X, Y, h1, h2, h3⟩ := h; exact ⟨X, Y, h1, rowBelow h2 hb, rowBelow h3 hb⟩
     iterate 4 exact fun _ _ _ _ h _ => h
     ·exact fun l v w w2 h hb => by obtain ⟨X, h1, h2, h3⟩ := h; exact ⟨X, h1, h2, rowBelow h3 hb⟩
    ·refine zqg ?_ (zqg ?_ (zqg ?_ (zqg ?_ (zqg ?_ (zqg ?_ (zqg ?_ (zqg ?_ (zqg ?_ (zqg ?_ (zqg ?_ (zqg ?_ zqi)))))))))))
     ·refine zso rfl [] ?_;intro vs W hW hd K hK;clear hd
      try simp only [putsD, Act.put, zqa, zqb, zqc, zqd, zqe, zqf] at hK ⊢
      go_simp
      go_at_call 42
      (with_reducible first | refine (lit_any _ 1).mono ?_)
      rintro e w9 ⟨rfl, hb9⟩;exact hK.out _ _ (rfl) hb9 (fun h => absurd h (by decide))
     ·refine zso rfl [] ?_;intro vs W hW hd K hK;clear hd
      try simp only [putsD, Act.put, zqa, zqb, zqc, zqd, zqe, zqf] at hK ⊢
      go_simp
      exact hK.out _ _ ⟨W.heap.size, rfl, hW.size, arrNew _ _ _ _ _ rfl rfl⟩ ((zqr _ _).alloc (zqn _) _) (fun _ b hb => by simp [blkOf] at hb; subst hb; exact ⟨zqn _, by simp⟩)
     ·refine zso rfl [(1, some 87)] ?_;intro vs W hW hd K hK;obtain ⟨X87, d1, b87, r87⟩ : ∃ X, vs 1 = .slice (some ⟨X, 0, none⟩) 2 2 ∧ wc.heap.size ≤ X ∧ World.rowIs W X 3 2 (arrF #[.int .i64 0, .int .i64 0]) := hd 1 (by decide);clear hd
      try simp only [d1, putsD, Act.put, zqa, zqb, zqc, zqd, zqe, zqf] at hK ⊢
      go_simp
      exact hK.out _ _ ⟨X87, rfl, b87, r87⟩ (zqr _ _) (fun h => absurd h (by decide))
     ·refine zso rfl [(0, some 86), (2, some 88)] ?_;intro vs W hW hd K hK;have d0 : vs 0 = .agg #[.int .i64 2, .int .i64 1, .slice none 0 0] := hd 0 (by decide);obtain ⟨X88, d2, b88, r88⟩ : ∃ X, vs 2 = .agg #[.int .i64 3, .int .i64 0, .slice (some ⟨X, 0, none⟩) 2 2] ∧ wc.heap.size ≤ X ∧ World.rowIs W X 3 2 (arrF #[.int .i64 0, .int .i64 0]) := hd 2 (by decide);clear hd
      try simp only [d0, d2, putsD, Act.put, zqa, zqb, zqc, zqd, zqe, zqf] at hK ⊢
      go_simp
      exact hK.out _ _ ⟨W.heap.size, rfl, shN_at (by simp) (by have := r88.lt; simp; omega) (r88.alloc _) (arrNew W _ _ _ _ rfl rfl)⟩ ((zqr _ _).alloc (zqn _) _) (fun h => absurd h (by decide))
     ·refine zso rfl [(3, some 89)] ?_;intro vs W hW hd K hK;obtain ⟨X89, d3, r89⟩ : ∃ X, vs 3 = .slice (some ⟨X, 0, none⟩) 2 2 ∧ NtAt W (World.heap W).size (some ⟨X, 0, none⟩) shN.l := hd 3 (by decide);clear hd
      try simp only [d3, putsD, Act.put, zqa, zqb, zqc, zqd, zqe, zqf] at hK ⊢
      go_simp
      exact hK.out _ _ ⟨X89, rfl, r89⟩ (zqr _ _) (fun h => absurd h (by decide))
     ·refine zso rfl [] ?_;intro vs W hW hd K hK;clear hd
      try simp only [putsD, Act.put, zqa, zqb, zqc, zqd, zqe, zqf] at hK ⊢
      have hmk2 := HMK.out
      go_simp
      exact hK.out _ _ ⟨W.heap.size, rfl, hW.size, prsMade _ 2 _ _ rfl⟩ ((zqr _ _).alloc (zqn _) _) (fun h => absurd h (by decide))
     ·refine zso rfl [] ?_;intro vs W hW hd K hK;clear hd
      try simp only [putsD, Act.put, zqa, zqb, zqc, zqd, zqe, zqf] at hK ⊢
      have hmk2 := HMK.out
      go_simp
      exact hK.out _ _ ⟨W.heap.size, rfl, hW.size, prsMade _ 2 _ _ rfl⟩ ((zqr _ _).alloc (zqn _) _) (fun h => absurd h (by decide))
     ·refine zso rfl [(5, some 91), (6, some 92)] ?_;intro vs W hW hd K hK;obtain ⟨X91, d5, b91, r91⟩ : ∃ X, vs 5 = .slice (some ⟨X, 0, none⟩) 2 2 ∧ wc.heap.size ≤ X ∧ World.rowIs W X 33 ((1 + 1) * 2) (prsF []) := hd 5 (by decide);obtain ⟨X92, d6, b92, r92⟩ : ∃ X, vs 6 = .slice (some ⟨X, 0, none⟩) 2 2 ∧ wc.heap.size ≤ X ∧ World.rowIs W X 33 ((1 + 1) * 2) (prsF []) := hd 6 (by decide);clear hd
      try simp only [d5, d6, putsD, Act.put, zqa, zqb, zqc, zqd, zqe, zqf] at hK ⊢
      go_simp
      exact hK.out _ _ ⟨X91, X92, rfl, r91, r92⟩ (zqr _ _) (fun h => absurd h (by decide))
     ·refine zso rfl [(4, some 90), (7, some 93)] ?_;intro vs W hW hd K hK;obtain ⟨X90, d4, r90⟩ : ∃ X, vs 4 = .agg #[.int .i64 1, .slice (some ⟨X, 0, none⟩) 2 2] ∧ NtAt W (World.heap W).size (some ⟨X, 0, none⟩) shN.l := hd 4 (by decide);obtain ⟨X93, Y93, d7, r93, s93⟩ : ∃ X Y, vs 7 = .agg #[.slice (some ⟨X, 0, none⟩) 2 2, .slice (some ⟨Y, 0, none⟩) 2 2] ∧ World.rowIs W X 33 ((1 + 1) * 2) (prsF []) ∧ World.rowIs W Y 33 ((1 + 1) * 2) (prsF []) := hd 7 (by decide);clear hd
      try simp only [d4, d7, putsD, Act.put, zqa, zqb, zqc, zqd, zqe, zqf] at hK ⊢
      go_simp
      go_at_call 16
      (with_reducible first | refine (sh_total (HT.out.below (zqx BL.out hW BL.out.size)) r90 r93 s93).mono ?_)
      rintro e w9 ⟨rfl, hb9⟩;exact hK.out _ _ (rfl) hb9 (fun h => absurd h (by decide))
     ·refine zso rfl [(8, some 94)] ?_;intro vs W hW hd K hK;have d8 : vs 8 = .tuple #[ratV 0 0, .int .i64 210] := hd 8 (by decide);clear hd
      try simp only [d8, putsD, Act.put, zqa, zqb, zqc, zqd, zqe, zqf] at hK ⊢
      go_simp
      exact hK.out _ _ rfl (zqr _ _) (zqv rfl)
     ·refine zso rfl [(9, some 85)] ?_;intro vs W hW hd K hK;have d9 : vs 9 = .tuple #[ratV 0 0, .int .i64 210] := hd 9 (by decide);clear hd
      try simp only [d9, putsD, Act.put, zqa, zqb, zqc, zqd, zqe, zqf] at hK ⊢
      go_simp
      exact hK.out _ _ rfl (zqr _ _) (zqv rfl)
     ·refine zso rfl [] ?_;intro vs W hW hd K hK;clear hd
      try simp only [putsD, Act.put, zqa, zqb, zqc, zqd, zqe, zqf] at hK ⊢
      go_simp
      exact hK.out _ _ ⟨W.heap.size, rfl, hW.size, arrNew _ _ _ _ _ rfl rfl⟩ ((zqr _ _).alloc (zqn _) _) (fun _ b hb => by simp [blkOf] at hb; subst hb; exact ⟨zqn _, by simp⟩)
    ·refine zqg ?_ zqi
     ·refine YieldOk.intro rfl [(9, some 85)] (by kernel_rfl) (fun _ => .int .i64 210) rfl ?_;intro vs W hd;have d9 : vs 9 = .tuple #[ratV 0 0, .int .i64 210] := hd 9 (by decide);clear hd;refine ⟨rfl, fun w2 => ?_⟩
      try simp only [d9, putsD, Act.put, zqa, zqb, zqc, zqd, zqe, zqf]
      go_simp
    refine FinOk.intro [(0, some 86), (1, some 87), (2, some 88), (3, some 89), (4, some 90), (5, some 91), (6, some 92), (7, some 93), (8, some 94), (9, some 85), (10, some 95), (12, some 15), (11, some 96)] #[true, true, true, true, true, true, true, true, true, true, true, true, true, false, false] 2 (by kernel_rfl) (by kernel_rfl) (by kernel_rfl) ?_;intro vs Wf hW0 hd hbk hdis kf;have hW := zqw hW0;have d0 : vs 0 = .agg #[.int .i64 2, .int .i64 1, .slice none 0 0] := hd 0 (by decide);obtain ⟨X87, d1, b87, r87⟩ : ∃ X, vs 1 = .slice (some ⟨X, 0, none⟩) 2 2 ∧ wc.heap.size ≤ X ∧ World.rowIs Wf X 3 2 (arrF #[.int .i64 0, .int .i64 0]) := hd 1 (by decide);obtain ⟨X88, d2, b88, r88⟩ : ∃ X, vs 2 = .agg #[.int .i64 3, .int .i64 0, .slice (some ⟨X, 0, none⟩) 2 2] ∧ wc.heap.size ≤ X ∧ World.rowIs Wf X 3 2 (arrF #[.int .i64 0, .int .i64 0]) := hd 2 (by decide);obtain ⟨X89, d3, r89⟩ : ∃ X, vs 3 = .slice (some ⟨X, 0, none⟩) 2 2 ∧ NtAt Wf (World.heap Wf).size (some ⟨X, 0, none⟩) shN.l := hd 3 (by decide);obtain ⟨X90, d4, r90⟩ : ∃ X, vs 4 = .agg #[.int .i64 1, .slice (some ⟨X, 0, none⟩) 2 2] ∧ NtAt Wf (World.heap Wf).size (some ⟨X, 0, none⟩) shN.l := hd 4 (by decide);obtain ⟨X91, d5, b91, r91⟩ : ∃ X, vs 5 = .slice (some ⟨X, 0, none⟩) 2 2 ∧ wc.heap.size ≤ X ∧ World.rowIs Wf X 33 ((1 + 1) * 2) (prsF []) := hd 5 (by decide);obtain ⟨X92, d6, b92, r92⟩ : ∃ X, vs 6 = .slice (some ⟨X, 0, none⟩) 2 2 ∧ wc.heap.size ≤ X ∧ World.rowIs Wf X 33 ((1 + 1) * 2) (prsF []) := hd 6 (by decide);obtain ⟨X93, Y93, d7, r93, s93⟩ : ∃ X Y, vs 7 = .agg #[.slice (some ⟨X, 0, none⟩) 2 2, .slice (some ⟨Y, 0, none⟩) 2 2] ∧ World.rowIs Wf X 33 ((1 + 1) * 2) (prsF []) ∧ World.rowIs Wf Y 33 ((1 + 1) * 2) (prsF []) := hd 7 (by decide);have d8 : vs 8 = .tuple #[ratV 0 0, .int .i64 210] := hd 8 (by decide);have d9 : vs 9 = .tuple #[ratV 0 0, .int .i64 210] := hd 9 (by decide);have d10 : vs 10 = ratV 0 0 := hd 10 (by decide);obtain ⟨X15, d12, b15, r15⟩ : ∃ X, vs 12 = .pointer (some ⟨X, 0, none⟩) ∧ wc.heap.size ≤ X ∧ World.rowIs Wf X 33 2 (arrF #[.string ⟨#[]⟩, .string ⟨#[]⟩]) := hd 12 (by decide);have d11 : vs 11 = .int .i64 210 := hd 11 (by decide);have n87_15 : X87 ≠ X15 := fun h => hdis 1 (by decide) 12 (by decide) (by decide) rfl rfl X87 (by rw [d1]; rfl) (by rw [d12, h]; rfl);have n15_87 := Ne.symm n87_15;clear hd hbk hdis hW0
    try simp only [d0, d1, d2, d3, d4, d5, d6, d7, d8, d9, d10, d12, d11, putsD, Act.put, zqa, zqb, zqc, zqd, zqe, zqf]
    clear d0 d1 d2 d3 d4 d5 d6 d7 d8 d9 d10 d12 d11 vs;have l87 := r87.lt;have y87_0 := r87.frozen 0;have k87_0 := r87.cell (i := 0) (by decide);have y87_1 := r87.frozen 1;have k87_1 := r87.cell (i := 1) (by decide);have l15 := r15.lt;have y15_0 := r15.frozen 0;have k15_0 := r15.cell (i := 0) (by decide);have y15_1 := r15.frozen 1;have k15_1 := r15.cell (i := 1) (by decide);refine wpAny_one1 13 (by kernel_rfl) rfl (fun K hK => ?_)
    go_simp
    refine hK.out _ _ ?_;clear hK K
    try simp only [putsD, Act.put, zqa, zqb, zqc, zqd, zqe, zqf]
    refine wpAny_one1 14 (by kernel_rfl) rfl (fun K hK => ?_)
    go_simp
    refine hK.out _ _ ?_;clear hK K
    try simp only [putsD, Act.put, zqa, zqb, zqc, zqd, zqe, zqf]
    refine wpAny_end (by kernel_rfl) ?_ _
    all_goals
     try go_wp2
     go_meet
     exact ⟨X15, rfl, rfl, (hW.setCell (p := ⟨X15, 0, none⟩) b15 _).setCell (p := ⟨X15, 1, none⟩) b15 _⟩
   case rest =>
   obtain ⟨b15, rfl, rfl, hb⟩ := hcut;obtain ⟨c1, c2⟩ := ratCells (rowBelow R9.out hb);have BN := zqh (zqx BL.out hb BL.out.size);clear hb;have q1 := zqh fun W => qtext_any W 3 4 (by decide +kernel) (by decide +kernel);rw [show ptext 3 4 = ⟨#[51, 47, 52]⟩ by decide +kernel] at q1
   go_wp2_with (first
    | (go_at_call 28; (with_reducible refine (q1.out _).mono ?_); rintro e y1 ⟨rfl, hb1⟩; have B1 := zqh (zqx BN.out hb1 BN.out.size); clear hb1)
    | (go_at_call 15; (with_reducible refine (works_any _ (HT.out.below B1.out)).mono ?_); rintro e y2 ⟨rfl, hb2⟩; have B2 := zqh (zqx B1.out hb2 B1.out.size); clear hb2))
   all_goals
    go_ret
    exact ⟨rfl, B2.out⟩
end Go.Proofs.YtmhllppjcilllaaGreatDoor
