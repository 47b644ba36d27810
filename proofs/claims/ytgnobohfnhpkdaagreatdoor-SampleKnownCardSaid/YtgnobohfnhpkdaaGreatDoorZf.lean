/- The walk of SampleKnown. -/
import Derived.Test.YtgnobohfnhpkdaaGreatDoorZe
import Derived.Test.YtgnobohfnhpkdaaGreatDoorHp
set_option linter.unusedSimpArgs false
set_option linter.unusedVariables false
open Go Go.RowKit Cs
namespace Cs
def knT : Nt := ⟨0, [⟨1, 0, []⟩]⟩
def knTA : Array Value := #[.int .i64 1, .int .i64 0, .slice none 0 0]
theorem knT_at {w : World} {B g : Nat} {t : TypeId} (hg : g < B) (hr : w.rowIs g t 3 (arrF (knTA ))) : NtAt w B (some ⟨g, 0, none⟩) knT.l := fun _ => by
  refine ⟨g, 0, rfl, hg, fun i hi => ?_⟩
  match i, hi with
  | 0, _ => exact ⟨hr.cell (i := 0) (by decide), hr.cell (i := 1) (by decide), ⟨none, 0, hr.cell (i := 2) (by decide), Rd.zero _ _ _ _⟩, (show r64 (1) by unfold r64; decide), (show r64 (0) by unfold r64; decide), (show ∀ i ∈ ([] : List Int), r64 i by unfold r64; decide), (show ([] : List Int).length ≤ 140737488355328 by decide)⟩
def knF : Nt := ⟨0, [⟨0, 0, []⟩]⟩
def knFA : Array Value := #[.int .i64 0, .int .i64 0, .slice none 0 0]
theorem knF_at {w : World} {B g : Nat} {t : TypeId} (hg : g < B) (hr : w.rowIs g t 3 (arrF (knFA ))) : NtAt w B (some ⟨g, 0, none⟩) knF.l := fun _ => by
  refine ⟨g, 0, rfl, hg, fun i hi => ?_⟩
  match i, hi with
  | 0, _ => exact ⟨hr.cell (i := 0) (by decide), hr.cell (i := 1) (by decide), ⟨none, 0, hr.cell (i := 2) (by decide), Rd.zero _ _ _ _⟩, (show r64 (0) by unfold r64; decide), (show r64 (0) by unfold r64; decide), (show ∀ i ∈ ([] : List Int), r64 i by unfold r64; decide), (show ([] : List Int).length ≤ 140737488355328 by decide)⟩
end Cs
namespace Go.Proofs.YtgnobohfnhpkdaaGreatDoor
theorem byRow {w : World} {g : Nat} {t : TypeId} {b : Nat} (h : w.rowIs g t 1 (arrF #[.int .u8 (b : Int)])) : w.rowIs g t 1 (byF [b]) := h.congr (fun i hi => by
  obtain rfl : i = 0 := by omega
  rfl)
theorem str3 {w : World} {g : Nat} {t : TypeId} {a b c : ByteArray} (h : w.rowIs g t 3 (arrF #[.string a, .string b, .string c])) : w.rowIs g t 3 (strF [a, b, c]) := h.congr (fun i hi => by
  match i, hi with
  | 0, _ => rfl
  | 1, _ => rfl
  | 2, _ => rfl)
theorem str2 {w : World} {g : Nat} {t : TypeId} {a b : ByteArray} (h : w.rowIs g t 2 (arrF #[.string a, .string b])) : w.rowIs g t 2 (strF [a, b]) := h.congr (fun i hi => by
  match i, hi with
  | 0, _ => rfl
  | 1, _ => rfl)
theorem setV0 : setV 0 = .agg #[.int .u64 0, .int .u64 0] := by
  unfold setV
  rw [show ((lo 0 : Nat) : Int) = 0 by unfold lo; omega, show ((hi 0 : Nat) : Int) = 0 by unfold hi; omega]
theorem setV2 : setV 2 = .agg #[.int .u64 2, .int .u64 0] := by
  unfold setV
  rw [show ((lo 2 : Nat) : Int) = 2 by unfold lo; omega, show ((hi 2 : Nat) : Int) = 0 by unfold hi; omega]
theorem kT_dw : dwR knT [] = ⟨0, 0, true, 0⟩ := by decide +kernel
theorem kF_dw : dwR knF [] = Tk.no 3 := by decide +kernel
theorem kZ_dw : dwR ⟨0, []⟩ [] = Tk.no 1 := by decide +kernel
theorem one_ins {N : Nt} (h : ∀ x ∈ N.l, x.ins.length ≤ 1000000) : ∀ k (hk : k < N.l.length), N.l[k].ins.length ≤ 1000000 := fun k hk => h _ (List.getElem_mem hk)
theorem no_byte : ∀ i, ([] : List Nat).getD i 0 < 256 := fun i => by simp
theorem wt_get {w : World} {lo hi : List ByteArray} {e : Ending} {w' : World} (h : WtsR w lo hi e w') (h1 : okL lo lo.length) (h2 : okL hi hi.length) : Below w.heap.size w w' ∧ ∃ Al Ah cl ch, e = .returned (.tuple #[wtsV Al Ah lo.length hi.length cl ch, .bool (decide (lo.length ≤ 140) && decide (hi.length ≤ 140))]) ∧ lo.length ≤ cl ∧ hi.length ≤ ch ∧
      Rd w' w'.heap.size Al (lo.length * 2) (prsF (prL lo)) ∧ Rd w' w'.heap.size Ah (hi.length * 2) (prsF (prL hi)) := by
  obtain ⟨hb, ⟨hn, _⟩ | ⟨_, h⟩⟩ := h
  · exact absurd ⟨h1, h2⟩ hn
  · exact ⟨hb, h⟩
set_option maxRecDepth 100000 in
set_option maxHeartbeats 8000000 in
theorem sknown_any (w : World) (hT : Tab w) : Calls Tryz.prog 9 #[] w fun e w' => e = .returned (.bool true) ∧ Below w.heap.size w w' := by
  have hcp := fun W => chapter_any W
  have hd1 : ∀ W g, NtAt W W.heap.size (some ⟨g, 0, none⟩) chpN.l → Tab W → Calls Tryz.prog 12 #[ntV chpN (some ⟨g, 0, none⟩) 5, .slice none 0 0] W fun e w' => e = .returned (.tuple #[.agg #[.int .u64 0, .int .u64 0], .int .i64 0, .bool false, .int .i64 0]) ∧ Below W.heap.size W w' := fun W g hN hT => by
    have := sdraw_any W chpN (some ⟨g, 0, none⟩) 5 0 0 [] none (by decide) hN hT chp_ins rfl (by decide) (Rd.zero _ _ _ _) no_byte
    rw [k_none] at this
    unfold tkV at this
    rw [setV0] at this
    exact this
  have hd2 : ∀ W g, NtAt W W.heap.size (some ⟨g, 0, none⟩) knT.l → Tab W → Calls Tryz.prog 12 #[.agg #[.int .i64 0, .slice (some ⟨g, 0, none⟩) 1 1], .slice none 0 0] W fun e w' => e = .returned (.tuple #[.agg #[.int .u64 0, .int .u64 0], .int .i64 0, .bool true, .int .i64 0]) ∧ Below W.heap.size W w' := fun W g hN hT => by
    have := sdraw_any W knT (some ⟨g, 0, none⟩) 1 0 0 [] none (by decide) hN hT (one_ins (by decide)) rfl (by decide) (Rd.zero _ _ _ _) no_byte
    rw [kT_dw] at this
    unfold tkV at this
    rw [setV0] at this
    exact this
  have hd3 : ∀ W g, NtAt W W.heap.size (some ⟨g, 0, none⟩) knF.l → Tab W → Calls Tryz.prog 12 #[.agg #[.int .i64 0, .slice (some ⟨g, 0, none⟩) 1 1], .slice none 0 0] W fun e w' => e = .returned (.tuple #[.agg #[.int .u64 0, .int .u64 0], .int .i64 0, .bool false, .int .i64 3]) ∧ Below W.heap.size W w' := fun W g hN hT => by
    have := sdraw_any W knF (some ⟨g, 0, none⟩) 1 0 0 [] none (by decide) hN hT (one_ins (by decide)) rfl (by decide) (Rd.zero _ _ _ _) no_byte
    rw [kF_dw] at this
    unfold tkV Tk.no at this
    rw [setV0] at this
    exact this
  have hd4 : ∀ W, Tab W → Calls Tryz.prog 12 #[.agg #[.int .i64 0, .slice none 0 0], .slice none 0 0] W fun e w' => e = .returned (.tuple #[.agg #[.int .u64 0, .int .u64 0], .int .i64 0, .bool false, .int .i64 1]) ∧ Below W.heap.size W w' := fun W hT => by
    have := sdraw_any W ⟨0, []⟩ none 0 0 0 [] none (by decide) (fun h => absurd h (by decide)) hT (one_ins (by decide)) rfl (by decide) (Rd.zero _ _ _ _) no_byte
    rw [kZ_dw] at this
    unfold tkV Tk.no at this
    rw [setV0] at this
    exact this
  have hwt6 : ∀ Al Ah cl ch, 3 ≤ cl → 3 ≤ ch → ∀ W g gb, NtAt W W.heap.size (some ⟨g, 0, none⟩) chpN.l → Tab W → Rd W W.heap.size Al (kLo.length * 2) (prsF (prL kLo)) → Rd W W.heap.size Ah (kHi.length * 2) (prsF (prL kHi)) → Rd W W.heap.size (some ⟨gb, 0, none⟩) 1 (byF [64]) →
      Calls Tryz.prog 21 #[ntV chpN (some ⟨g, 0, none⟩) 5, .agg #[.slice Al 3 cl, .slice Ah 3 ch], .slice (some ⟨gb, 0, none⟩) 1 1] W fun e w' => e = .returned (.tuple #[.agg #[.int .u64 2, .int .u64 0], .int .i64 3, .bool true, .int .i64 0]) ∧ Below W.heap.size W w' := fun Al Ah cl ch k1 k2 W g gb hN hT r1 r2 r3 => by
    rw [kLo_pr] at r1
    rw [kHi_pr] at r2
    have := weighted_any W chpN (some ⟨g, 0, none⟩) 5 cl ch 1 1 kLoP kHiP [64] Al Ah (some ⟨gb, 0, none⟩) (by decide) hN hT chp_ins kLo_wg kHi_wg r1 r2 k1 k2 rfl (by decide) r3 (one_byte 64 (by decide))
    rw [k_wg] at this
    unfold tkV at this
    rw [setV2] at this
    exact this
  have hwt8 : ∀ Al Ah cl ch, 2 ≤ cl → 2 ≤ ch → ∀ W g gb, NtAt W W.heap.size (some ⟨g, 0, none⟩) chpN.l → Tab W → Rd W W.heap.size Al (kSh.length * 2) (prsF (prL kSh)) → Rd W W.heap.size Ah (kSh.length * 2) (prsF (prL kSh)) → Rd W W.heap.size (some ⟨gb, 0, none⟩) 1 (byF [64]) →
      Calls Tryz.prog 21 #[ntV chpN (some ⟨g, 0, none⟩) 5, .agg #[.slice Al 2 cl, .slice Ah 2 ch], .slice (some ⟨gb, 0, none⟩) 1 1] W fun e w' => e = .returned (.tuple #[.agg #[.int .u64 0, .int .u64 0], .int .i64 0, .bool false, .int .i64 1]) ∧ Below W.heap.size W w' := fun Al Ah cl ch k1 k2 W g gb hN hT r1 r2 r3 => by
    rw [kSh_pr] at r1 r2
    have := weighted_any W chpN (some ⟨g, 0, none⟩) 5 cl ch 1 1 kShP kShP [64] Al Ah (some ⟨gb, 0, none⟩) (by decide) hN hT chp_ins kSh_wg kSh_wg r1 r2 k1 k2 rfl (by decide) r3 (one_byte 64 (by decide))
    rw [k_short] at this
    unfold tkV Tk.no at this
    rw [setV0] at this
    exact this
  have hs6 : ∀ W a b ca cb, Rd W W.heap.size a 3 (strF kLo) → Rd W W.heap.size b 3 (strF kHi) → Calls Tryz.prog 20 #[.slice a 3 ca, .slice b 3 cb] W (WtsR W kLo kHi) := fun W a b ca cb h1 h2 =>
    weights_any W kLo kHi a b ca cb (by decide) (by decide) h1 h2 (fun i => by match i with | 0 => decide | 1 => decide | 2 => decide | i + 3 => exact Nat.zero_le _) (fun i => by match i with | 0 => decide | 1 => decide | 2 => decide | i + 3 => exact Nat.zero_le _)
  have hs8 : ∀ W a b ca cb, Rd W W.heap.size a 2 (strF kSh) → Rd W W.heap.size b 2 (strF kSh) → Calls Tryz.prog 20 #[.slice a 2 ca, .slice b 2 cb] W (WtsR W kSh kSh) := fun W a b ca cb h1 h2 =>
    weights_any W kSh kSh a b ca cb (by decide) (by decide) h1 h2 (fun i => by match i with | 0 => decide | 1 => decide | i + 2 => exact Nat.zero_le _) (fun i => by match i with | 0 => decide | 1 => decide | i + 2 => exact Nat.zero_le _)
  have he0 : ∀ w, (Op.equalIn 10000 30 (.agg #[.int .u64 0, .int .u64 0]) (.agg #[.int .u64 0, .int .u64 0])).run Tryz.prog w = .ok true w := fun w => by kernel_rfl
  have he2 : ∀ w, (Op.equalIn 10000 30 (.agg #[.int .u64 2, .int .u64 0]) (.agg #[.int .u64 2, .int .u64 0])).run Tryz.prog w = .ok true w := fun w => by kernel_rfl
  have HCP := Lib.hid hcp
  have HD1 := Lib.hid hd1
  have HD2 := Lib.hid hd2
  have HD3 := Lib.hid hd3
  have HD4 := Lib.hid hd4
  have HW6 := Lib.hid hwt6
  have HW8 := Lib.hid hwt8
  have HS6 := Lib.hid hs6
  have HS8 := Lib.hid hs8
  have HE0 := Lib.hid he0
  have HE2 := Lib.hid he2
  clear hcp hd1 hd2 hd3 hd4 hwt6 hwt8 hs6 hs8 he0 he2
  go_enter Tryz.func9, Tryz.ntmps9
  go_wp2_with fail
  refine (HCP.out _).mono ?_
  rintro e w1 ⟨g, rfl, hnt, hb1⟩
  have q1 := Bag.start hb1
  go_wp2_with fail
  refine (HD1.out _ g hnt (hT.below q1.bl)).mono ?_
  rintro e w2 ⟨rfl, hb2⟩
  have q2 := q1.below hb2
  have q3 := (q2.alloc (.cells #[.int .u64 0, .int .u64 0] 30)).new #[.int .i64 1, .int .i64 0, .slice none 0 0] 56 (w2.heap.size + 1) 3 (by simp) rfl
  clear hnt hb1 hb2
  go_wp2_with fail
  refine (HD2.out _ (w2.heap.size + 1) (knT_at q3.lt0 q3.row0) (hT.below q3.bl)).mono ?_
  rintro e w4 ⟨rfl, hb4⟩
  have q5 := ((q3.below hb4).tail.new #[.int .u64 0, .int .u64 0] 30 w4.heap.size 2 rfl rfl).new #[.int .i64 0, .int .i64 0, .slice none 0 0] 56 (w4.heap.size + 1) 3 (by simp) rfl
  clear hb4
  go_wp2_with fail
  refine (HD3.out _ (w4.heap.size + 1) (knF_at q5.lt0 q5.row0) (hT.below q5.bl)).mono ?_
  rintro e w6 ⟨rfl, hb6⟩
  have q7 := (q5.below hb6).tail.alloc (.cells #[.int .u64 0, .int .u64 0] 30)
  clear hb6
  go_wp2_with fail
  refine (HD4.out _ (hT.below q7.bl)).mono ?_
  rintro e w8 ⟨rfl, hb8⟩
  have q8 := (q7.below hb8).alloc (.cells #[.int .u64 0, .int .u64 0] 30)
  have q9 := q8.new #[.string ⟨#[48]⟩, .string ⟨#[51, 47, 52]⟩, .string ⟨#[49, 47, 50]⟩] 9 (w8.heap.size + 1) 3 (by simp) rfl
  have q10 := q9.new #[.string ⟨#[48]⟩, .string ⟨#[49, 47, 52]⟩, .string ⟨#[49, 47, 50]⟩] 9 (w8.heap.size + 1 + 1) 3 (by simp) rfl
  have rr1 : Rd _ _ (some ⟨w8.heap.size + 1, 0, none⟩) 3 (strF kLo) := Rd.of_row (str3 q10.tail.row0) (Nat.le_refl _) q10.tail.lt0
  have rr2 : Rd _ _ (some ⟨w8.heap.size + 1 + 1, 0, none⟩) 3 (strF kHi) := Rd.of_row (str3 q10.row0) (Nat.le_refl _) q10.lt0
  have RR1 := Lib.hid rr1
  have RR2 := Lib.hid rr2
  clear hb8 rr1 rr2
  go_wp2_with fail
  refine (HS6.out _ _ _ _ _ RR1.out RR2.out).mono ?_
  intro e w13 hws
  obtain ⟨hb13, Al6, Ah6, cl6, ch6, rfl, hc1, hc2, hrl6, hrh6⟩ : Below _ _ w13 ∧ ∃ Al Ah cl ch, e = .returned (.tuple #[wtsV Al Ah 3 3 cl ch, .bool true]) ∧ 3 ≤ cl ∧ 3 ≤ ch ∧ Rd w13 w13.heap.size Al (kLo.length * 2) (prsF (prL kLo)) ∧ Rd w13 w13.heap.size Ah (kHi.length * 2) (prsF (prL kHi)) := wt_get hws kLo_ok kHi_ok
  have q13 := ((q10.below hb13).tail.tail).new #[.slice Al6 3 cl6, .slice Ah6 3 ch6] 46 w13.heap.size 2 rfl rfl
  replace hrl6 := hrl6.alloc (Nat.le_refl _) (.cells #[.slice Al6 3 cl6, .slice Ah6 3 ch6] 46)
  replace hrh6 := hrh6.alloc (Nat.le_refl _) (.cells #[.slice Al6 3 cl6, .slice Ah6 3 ch6] 46)
  have HWT6 := Lib.hid (HW6.out Al6 Ah6 cl6 ch6 hc1 hc2)
  clear hb13 hws RR1 RR2 q10 q9 q8 q7 q5 q3 q2 q1 hc1 hc2
  go_wp2_with fail
  obtain ⟨V6, hV6⟩ : ∃ V, w13.alloc (.cells #[.slice Al6 3 cl6, .slice Ah6 3 ch6] 46) = V := ⟨_, rfl⟩
  rw [hV6] at q13 hrl6 hrh6 ⊢
  replace hrl6 := hrl6.more (B' := V6.heap.size) (by rw [← hV6]; simp)
  replace hrh6 := hrh6.more (B' := V6.heap.size) (by rw [← hV6]; simp)
  clear hV6
  have s1 := q13.is0 0 (by decide) (.slice Al6 3 cl6) rfl
  have s2 := q13.is0 1 (by decide) (.slice Ah6 3 ch6) rfl
  have lb6 := q13.lt0
  have hT6 := hT.below q13.bl
  have HS : Hid (∀ W, Below V6.heap.size V6 W → W.cell? ⟨w13.heap.size, 0, none⟩ = some (.slice Al6 3 cl6) ∧ W.cell? ⟨w13.heap.size, 1, none⟩ = some (.slice Ah6 3 ch6)) := Lib.hid fun W hb => ⟨(hb.cell (p := ⟨w13.heap.size, 0, none⟩) lb6).trans s1, (hb.cell (p := ⟨w13.heap.size, 1, none⟩) lb6).trans s2⟩
  refine wp_region_props_late (n := _) (PX := [fun xl xv xw => ∃ g, xv = ntV chpN (some ⟨g, 0, none⟩) 5 ∧ NtAt xw (xw).heap.size (some ⟨g, 0, none⟩) chpN.l,
        fun xl xv xw => xv = .agg #[.slice Al6 3 cl6, .slice Ah6 3 ch6],
        fun xl xv xw => ∃ X, xv = .slice (some ⟨X, 0, none⟩) 1 1 ∧ V6.heap.size ≤ X ∧ World.rowIs xw X 5 1 (arrF #[.int .u8 64]),
        fun xl xv xw => xv = .tuple #[.agg #[.int .u64 2, .int .u64 0], .int .i64 3, .bool true, .int .i64 0],
        fun xl xv xw => xv = .tuple #[.agg #[.int .u64 2, .int .u64 0], .int .i64 3, .bool true, .int .i64 0],
        fun xl xv xw => xv = .agg #[.int .u64 2, .int .u64 0],
        fun xl xv xw => xv = .int .i64 3,
        fun xl xv xw => xv = .bool true,
        fun xl xv xw => xv = .int .i64 0,
        fun xl xv xw => ∃ X, xv = .pointer (some ⟨X, 0, none⟩) ∧ V6.heap.size ≤ X ∧ World.rowIs xw X 30 2 (arrF #[.int .u64 0, .int .u64 0])])
      (AL := [2, 9]) (DP := [[], [], [], [0, 1, 2], [3], [4], [4], [4], [4], []]) (L1 := [0, 1, 2, 3, 4, 5, 9]) (ex := [6, 7, 8]) (by kernel_rfl) rfl (by kernel_rfl) (by kernel_rfl) (fun _ _ _ _ _ h => h) ?_ ?_ ?_ ?_
  · refine List.forall_mem_cons.2 ⟨?_, List.forall_mem_cons.2 ⟨?_, List.forall_mem_cons.2 ⟨?_, List.forall_mem_cons.2 ⟨?_, List.forall_mem_cons.2 ⟨?_, List.forall_mem_cons.2 ⟨?_, List.forall_mem_cons.2 ⟨?_, List.forall_mem_cons.2 ⟨?_, List.forall_mem_cons.2 ⟨?_, List.forall_mem_cons.2 ⟨?_, List.forall_mem_nil _⟩⟩⟩⟩⟩⟩⟩⟩⟩⟩
    · exact fun l v w w2 h hb => by obtain ⟨g, h1, h2⟩ := h; exact ⟨g, h1, (h2.below hb).more hb.size⟩
    · exact fun _ _ _ _ h _ => h
    · exact fun l v w w2 h hb => by obtain ⟨X, h1, h2, h3⟩ := h; exact ⟨X, h1, h2, rowBelow h3 hb⟩
    · exact fun _ _ _ _ h _ => h
    · exact fun _ _ _ _ h _ => h
    · exact fun _ _ _ _ h _ => h
    · exact fun _ _ _ _ h _ => h
    · exact fun _ _ _ _ h _ => h
    · exact fun _ _ _ _ h _ => h
    · exact fun l v w w2 h hb => by obtain ⟨X, h1, h2, h3⟩ := h; exact ⟨X, h1, h2, rowBelow h3 hb⟩
  · refine List.forall_mem_cons.2 ⟨?_, List.forall_mem_cons.2 ⟨?_, List.forall_mem_cons.2 ⟨?_, List.forall_mem_cons.2 ⟨?_, List.forall_mem_cons.2 ⟨?_, List.forall_mem_cons.2 ⟨?_, List.forall_mem_cons.2 ⟨?_, List.forall_mem_nil _⟩⟩⟩⟩⟩⟩⟩
    · refine StepOk.intro rfl [] (by kernel_rfl) ?_
      intro vs W hW0 hd K hK
      have hW : Below V6.heap.size V6 W := Cs.Below.trans' (belowDrewN (Below.refl _ _) 1) hW0 (Nat.le_refl _)
      clear hd
      try simp only [putsD, Act.put, List.getElem_toArray, List.getElem_cons_succ, List.getElem_cons_zero, List.setIfInBounds_toArray, List.set_cons_zero, List.set_cons_succ] at hK ⊢
      go_simp
      go_at_call 23
      (with_reducible first | refine (HCP.out _).mono ?_)
      rintro e w9 ⟨g9, rfl, hnt9, hb9⟩
      exact hK.out _ _ (⟨g9, rfl, hnt9⟩) hb9 (fun h => absurd h (by decide))
    · refine StepOk.intro rfl [] (by kernel_rfl) ?_
      intro vs W hW0 hd K hK
      have hW : Below V6.heap.size V6 W := Cs.Below.trans' (belowDrewN (Below.refl _ _) 1) hW0 (Nat.le_refl _)
      clear hd
      try simp only [putsD, Act.put, List.getElem_toArray, List.getElem_cons_succ, List.getElem_cons_zero, List.setIfInBounds_toArray, List.set_cons_zero, List.set_cons_succ] at hK ⊢
      obtain ⟨m1, m2⟩ := HS.out W hW
      go_simp
      exact hK.out _ _ rfl (Below.refl _ _) (fun h => absurd h (by decide))
    · refine StepOk.intro rfl [] (by kernel_rfl) ?_
      intro vs W hW0 hd K hK
      have hW : Below V6.heap.size V6 W := Cs.Below.trans' (belowDrewN (Below.refl _ _) 1) hW0 (Nat.le_refl _)
      clear hd
      try simp only [putsD, Act.put, List.getElem_toArray, List.getElem_cons_succ, List.getElem_cons_zero, List.setIfInBounds_toArray, List.set_cons_zero, List.set_cons_succ] at hK ⊢
      go_simp
      exact hK.out _ _ ⟨W.heap.size, rfl, hW.size, arrNew _ _ _ _ _ rfl rfl⟩ ((Below.refl _ _).alloc (Nat.le_refl _) _) (fun _ b hb => by simp [blkOf] at hb; subst hb; exact ⟨Nat.le_refl _, by simp⟩)
    · refine StepOk.intro rfl [(0, some 68), (1, some 69), (2, some 70)] (by kernel_rfl) ?_
      intro vs W hW0 hd K hK
      have hW : Below V6.heap.size V6 W := Cs.Below.trans' (belowDrewN (Below.refl _ _) 1) hW0 (Nat.le_refl _)
      obtain ⟨g, d0, hnt⟩ : ∃ g, vs 0 = ntV chpN (some ⟨g, 0, none⟩) 5 ∧ NtAt W (W).heap.size (some ⟨g, 0, none⟩) chpN.l := hd 0 (by decide)
      have d1 : vs 1 = .agg #[.slice Al6 3 cl6, .slice Ah6 3 ch6] := hd 1 (by decide)
      obtain ⟨X70, d2, b70, r70⟩ : ∃ X, vs 2 = .slice (some ⟨X, 0, none⟩) 1 1 ∧ V6.heap.size ≤ X ∧ World.rowIs W X 5 1 (arrF #[.int .u8 64]) := hd 2 (by decide)
      clear hd
      try simp only [d0, d1, d2, putsD, Act.put, List.getElem_toArray, List.getElem_cons_succ, List.getElem_cons_zero, List.setIfInBounds_toArray, List.set_cons_zero, List.set_cons_succ] at hK ⊢
      go_simp
      go_at_call 21
      (with_reducible first | refine (HWT6.out W g X70 hnt (hT6.below hW) ((hrl6.below hW).more hW.size) ((hrh6.below hW).more hW.size) (Rd.of_row (byRow r70) (Nat.le_refl _) r70.lt)).mono ?_)
      rintro e w9 ⟨rfl, hb9⟩
      exact hK.out _ _ (rfl) hb9 (fun h => absurd h (by decide))
    · refine StepOk.intro rfl [(3, some 71)] (by kernel_rfl) ?_
      intro vs W hW0 hd K hK
      have hW : Below V6.heap.size V6 W := Cs.Below.trans' (belowDrewN (Below.refl _ _) 1) hW0 (Nat.le_refl _)
      have d3 : vs 3 = .tuple #[.agg #[.int .u64 2, .int .u64 0], .int .i64 3, .bool true, .int .i64 0] := hd 3 (by decide)
      clear hd
      try simp only [d3, putsD, Act.put, List.getElem_toArray, List.getElem_cons_succ, List.getElem_cons_zero, List.setIfInBounds_toArray, List.set_cons_zero, List.set_cons_succ] at hK ⊢
      go_simp
      exact hK.out _ _ rfl (Below.refl _ _) (fun h => absurd h (by decide))
    · refine StepOk.intro rfl [(4, some 67)] (by kernel_rfl) ?_
      intro vs W hW0 hd K hK
      have hW : Below V6.heap.size V6 W := Cs.Below.trans' (belowDrewN (Below.refl _ _) 1) hW0 (Nat.le_refl _)
      have d4 : vs 4 = .tuple #[.agg #[.int .u64 2, .int .u64 0], .int .i64 3, .bool true, .int .i64 0] := hd 4 (by decide)
      clear hd
      try simp only [d4, putsD, Act.put, List.getElem_toArray, List.getElem_cons_succ, List.getElem_cons_zero, List.setIfInBounds_toArray, List.set_cons_zero, List.set_cons_succ] at hK ⊢
      go_simp
      exact hK.out _ _ rfl (Below.refl _ _) (fun h => absurd h (by decide))
    · refine StepOk.intro rfl [] (by kernel_rfl) ?_
      intro vs W hW0 hd K hK
      have hW : Below V6.heap.size V6 W := Cs.Below.trans' (belowDrewN (Below.refl _ _) 1) hW0 (Nat.le_refl _)
      clear hd
      try simp only [putsD, Act.put, List.getElem_toArray, List.getElem_cons_succ, List.getElem_cons_zero, List.setIfInBounds_toArray, List.set_cons_zero, List.set_cons_succ] at hK ⊢
      go_simp
      exact hK.out _ _ ⟨W.heap.size, rfl, hW.size, arrNew _ _ _ _ _ rfl rfl⟩ ((Below.refl _ _).alloc (Nat.le_refl _) _) (fun _ b hb => by simp [blkOf] at hb; subst hb; exact ⟨Nat.le_refl _, by simp⟩)
  · refine List.forall_mem_cons.2 ⟨?_, List.forall_mem_cons.2 ⟨?_, List.forall_mem_cons.2 ⟨?_, List.forall_mem_nil _⟩⟩⟩
    · refine YieldOk.intro rfl [(4, some 67)] (by kernel_rfl) (fun _ => .int .i64 3) rfl ?_
      intro vs W hd
      have d4 : vs 4 = .tuple #[.agg #[.int .u64 2, .int .u64 0], .int .i64 3, .bool true, .int .i64 0] := hd 4 (by decide)
      clear hd
      refine ⟨rfl, fun w2 => ?_⟩
      try simp only [d4, putsD, Act.put, List.getElem_toArray, List.getElem_cons_succ, List.getElem_cons_zero, List.setIfInBounds_toArray, List.set_cons_zero, List.set_cons_succ]
      go_simp
    · refine YieldOk.intro rfl [(4, some 67)] (by kernel_rfl) (fun _ => .bool true) rfl ?_
      intro vs W hd
      have d4 : vs 4 = .tuple #[.agg #[.int .u64 2, .int .u64 0], .int .i64 3, .bool true, .int .i64 0] := hd 4 (by decide)
      clear hd
      refine ⟨rfl, fun w2 => ?_⟩
      try simp only [d4, putsD, Act.put, List.getElem_toArray, List.getElem_cons_succ, List.getElem_cons_zero, List.setIfInBounds_toArray, List.set_cons_zero, List.set_cons_succ]
      go_simp
    · refine YieldOk.intro rfl [(4, some 67)] (by kernel_rfl) (fun _ => .int .i64 0) rfl ?_
      intro vs W hd
      have d4 : vs 4 = .tuple #[.agg #[.int .u64 2, .int .u64 0], .int .i64 3, .bool true, .int .i64 0] := hd 4 (by decide)
      clear hd
      refine ⟨rfl, fun w2 => ?_⟩
      try simp only [d4, putsD, Act.put, List.getElem_toArray, List.getElem_cons_succ, List.getElem_cons_zero, List.setIfInBounds_toArray, List.set_cons_zero, List.set_cons_succ]
      go_simp
  refine FinOk.intro [(0, some 68), (1, some 69), (2, some 70), (3, some 71), (4, some 67), (5, some 72), (9, some 19), (6, some 73), (7, some 74), (8, some 75)] #[true, true, true, true, true, true, true, true, true, true, false, false, false, false] 4 (by kernel_rfl) (by kernel_rfl) (by kernel_rfl) ?_
  intro vs Wf hW0 hd hbk hdis kf
  have hW : Below V6.heap.size V6 Wf := Cs.Below.trans' (belowDrewN (Below.refl _ _) 1) hW0 (Nat.le_refl _)
  obtain ⟨g, d0, hnt⟩ : ∃ g, vs 0 = ntV chpN (some ⟨g, 0, none⟩) 5 ∧ NtAt Wf (Wf).heap.size (some ⟨g, 0, none⟩) chpN.l := hd 0 (by decide)
  have d1 : vs 1 = .agg #[.slice Al6 3 cl6, .slice Ah6 3 ch6] := hd 1 (by decide)
  obtain ⟨X70, d2, b70, r70⟩ : ∃ X, vs 2 = .slice (some ⟨X, 0, none⟩) 1 1 ∧ V6.heap.size ≤ X ∧ World.rowIs Wf X 5 1 (arrF #[.int .u8 64]) := hd 2 (by decide)
  have d3 : vs 3 = .tuple #[.agg #[.int .u64 2, .int .u64 0], .int .i64 3, .bool true, .int .i64 0] := hd 3 (by decide)
  have d4 : vs 4 = .tuple #[.agg #[.int .u64 2, .int .u64 0], .int .i64 3, .bool true, .int .i64 0] := hd 4 (by decide)
  have d5 : vs 5 = .agg #[.int .u64 2, .int .u64 0] := hd 5 (by decide)
  obtain ⟨X19, d9, b19, r19⟩ : ∃ X, vs 9 = .pointer (some ⟨X, 0, none⟩) ∧ V6.heap.size ≤ X ∧ World.rowIs Wf X 30 2 (arrF #[.int .u64 0, .int .u64 0]) := hd 9 (by decide)
  have d6 : vs 6 = .int .i64 3 := hd 6 (by decide)
  have d7 : vs 7 = .bool true := hd 7 (by decide)
  have d8 : vs 8 = .int .i64 0 := hd 8 (by decide)
  have n70_19 : X70 ≠ X19 := fun h => hdis 2 (by decide) 9 (by decide) (by decide) rfl rfl X70 (by rw [d2]; rfl) (by rw [d9, h]; rfl)
  have n19_70 := Ne.symm n70_19
  clear hd hbk hdis hW0
  try simp only [d0, d1, d2, d3, d4, d5, d9, d6, d7, d8, putsD, Act.put, List.getElem_toArray, List.getElem_cons_succ, List.getElem_cons_zero, List.setIfInBounds_toArray, List.set_cons_zero, List.set_cons_succ]
  clear d0 d1 d2 d3 d4 d5 d9 d6 d7 d8 vs
  clear HS
  have l70 := r70.lt
  have y70_0 := r70.frozen 0
  have k70_0 := r70.cell (i := 0) (by decide)
  have l19 := r19.lt
  have y19_0 := r19.frozen 0
  have k19_0 := r19.cell (i := 0) (by decide)
  have y19_1 := r19.frozen 1
  have k19_1 := r19.cell (i := 1) (by decide)
  refine wpAny_one1 10 (by kernel_rfl) rfl (fun K hK => ?_)
  go_simp
  refine hK.out _ _ ?_
  clear hK K
  try simp only [putsD, Act.put, List.getElem_toArray, List.getElem_cons_succ, List.getElem_cons_zero, List.setIfInBounds_toArray, List.set_cons_zero, List.set_cons_succ]
  refine wpAny_one1 11 (by kernel_rfl) rfl (fun K hK => ?_)
  go_simp
  refine hK.out _ _ ?_
  clear hK K
  try simp only [putsD, Act.put, List.getElem_toArray, List.getElem_cons_succ, List.getElem_cons_zero, List.setIfInBounds_toArray, List.set_cons_zero, List.set_cons_succ]
  refine wpAny_one1 12 (by kernel_rfl) rfl (fun K hK => ?_)
  go_simp
  refine hK.out _ _ ?_
  clear hK K
  try simp only [putsD, Act.put, List.getElem_toArray, List.getElem_cons_succ, List.getElem_cons_zero, List.setIfInBounds_toArray, List.set_cons_zero, List.set_cons_succ]
  refine wpAny_one1 13 (by kernel_rfl) rfl (fun K hK => ?_)
  go_simp
  refine hK.out _ _ ?_
  clear hK K
  try simp only [putsD, Act.put, List.getElem_toArray, List.getElem_cons_succ, List.getElem_cons_zero, List.setIfInBounds_toArray, List.set_cons_zero, List.set_cons_succ]
  refine wpAny_end (by kernel_rfl) ?_ _
  have q14 := (q13.below ((hW.setCell (p := ⟨X19, 0, none⟩) b19 (.int .u64 2)).setCell (p := ⟨X19, 1, none⟩) b19 (.int .u64 0))).tail.cons (pairRow r19 (.int .u64 2) (.int .u64 0))
  clear hW r19 b19 y19_0 y19_1 k19_0 k19_1 l19 s1 s2 lb6 hT6 HWT6 hrl6 hrh6 q13
  generalize (Wf.setCell ⟨X19, 0, none⟩ (.int .u64 2)).setCell ⟨X19, 1, none⟩ (.int .u64 0) = w15 at q14 ⊢
  have q16 := q14.new #[.string ⟨#[48]⟩, .string ⟨#[49]⟩] 9 w15.heap.size 2 rfl rfl
  have q17 := q16.new #[.string ⟨#[48]⟩, .string ⟨#[49]⟩] 9 (w15.heap.size + 1) 2 (by simp) rfl
  have rr1 : Rd _ _ (some ⟨w15.heap.size, 0, none⟩) 2 (strF kSh) := Rd.of_row (str2 q17.tail.row0) (Nat.le_refl _) q17.tail.lt0
  have rr2 : Rd _ _ (some ⟨w15.heap.size + 1, 0, none⟩) 2 (strF kSh) := Rd.of_row (str2 q17.row0) (Nat.le_refl _) q17.lt0
  have RR1 := Lib.hid rr1
  have RR2 := Lib.hid rr2
  clear rr1 rr2
  go_wp2_with fail
  refine (HS8.out _ _ _ _ _ RR1.out RR2.out).mono ?_
  intro e w21 hws
  obtain ⟨hb21, Al8, Ah8, cl8, ch8, rfl, hc1, hc2, hrl8, hrh8⟩ : Below _ _ w21 ∧ ∃ Al Ah cl ch, e = .returned (.tuple #[wtsV Al Ah 2 2 cl ch, .bool true]) ∧ 2 ≤ cl ∧ 2 ≤ ch ∧ Rd w21 w21.heap.size Al (kSh.length * 2) (prsF (prL kSh)) ∧ Rd w21 w21.heap.size Ah (kSh.length * 2) (prsF (prL kSh)) := wt_get hws kSh_ok kSh_ok
  have q21 := ((q17.below hb21).tail.tail).new #[.slice Al8 2 cl8, .slice Ah8 2 ch8] 46 w21.heap.size 2 rfl rfl
  replace hrl8 := hrl8.alloc (Nat.le_refl _) (.cells #[.slice Al8 2 cl8, .slice Ah8 2 ch8] 46)
  replace hrh8 := hrh8.alloc (Nat.le_refl _) (.cells #[.slice Al8 2 cl8, .slice Ah8 2 ch8] 46)
  have HWT8 := Lib.hid (HW8.out Al8 Ah8 cl8 ch8 hc1 hc2)
  clear hb21 hws RR1 RR2 q17 q16 q14 hc1 hc2
  go_wp2_with fail
  obtain ⟨V8, hV8⟩ : ∃ V, w21.alloc (.cells #[.slice Al8 2 cl8, .slice Ah8 2 ch8] 46) = V := ⟨_, rfl⟩
  rw [hV8] at q21 hrl8 hrh8 ⊢
  replace hrl8 := hrl8.more (B' := V8.heap.size) (by rw [← hV8]; simp)
  replace hrh8 := hrh8.more (B' := V8.heap.size) (by rw [← hV8]; simp)
  clear hV8
  have s1 := q21.is0 0 (by decide) (.slice Al8 2 cl8) rfl
  have s2 := q21.is0 1 (by decide) (.slice Ah8 2 ch8) rfl
  have lb8 := q21.lt0
  have hT8 := hT.below q21.bl
  have HS : Hid (∀ W, Below V8.heap.size V8 W → W.cell? ⟨w21.heap.size, 0, none⟩ = some (.slice Al8 2 cl8) ∧ W.cell? ⟨w21.heap.size, 1, none⟩ = some (.slice Ah8 2 ch8)) := Lib.hid fun W hb => ⟨(hb.cell (p := ⟨w21.heap.size, 0, none⟩) lb8).trans s1, (hb.cell (p := ⟨w21.heap.size, 1, none⟩) lb8).trans s2⟩
  refine wp_region_props_late (n := _) (PX := [fun xl xv xw => ∃ g, xv = ntV chpN (some ⟨g, 0, none⟩) 5 ∧ NtAt xw (xw).heap.size (some ⟨g, 0, none⟩) chpN.l,
        fun xl xv xw => xv = .agg #[.slice Al8 2 cl8, .slice Ah8 2 ch8],
        fun xl xv xw => ∃ X, xv = .slice (some ⟨X, 0, none⟩) 1 1 ∧ V8.heap.size ≤ X ∧ World.rowIs xw X 5 1 (arrF #[.int .u8 64]),
        fun xl xv xw => xv = .tuple #[.agg #[.int .u64 0, .int .u64 0], .int .i64 0, .bool false, .int .i64 1],
        fun xl xv xw => xv = .tuple #[.agg #[.int .u64 0, .int .u64 0], .int .i64 0, .bool false, .int .i64 1],
        fun xl xv xw => xv = .agg #[.int .u64 0, .int .u64 0],
        fun xl xv xw => xv = .int .i64 0,
        fun xl xv xw => xv = .bool false,
        fun xl xv xw => xv = .int .i64 1,
        fun xl xv xw => ∃ X, xv = .pointer (some ⟨X, 0, none⟩) ∧ V8.heap.size ≤ X ∧ World.rowIs xw X 30 2 (arrF #[.int .u64 0, .int .u64 0])])
      (AL := [2, 9]) (DP := [[], [], [], [0, 1, 2], [3], [4], [4], [4], [4], []]) (L1 := [0, 1, 2, 3, 4, 5, 9]) (ex := [6, 7, 8]) (by kernel_rfl) rfl (by kernel_rfl) (by kernel_rfl) (fun _ _ _ _ _ h => h) ?_ ?_ ?_ ?_
  · refine List.forall_mem_cons.2 ⟨?_, List.forall_mem_cons.2 ⟨?_, List.forall_mem_cons.2 ⟨?_, List.forall_mem_cons.2 ⟨?_, List.forall_mem_cons.2 ⟨?_, List.forall_mem_cons.2 ⟨?_, List.forall_mem_cons.2 ⟨?_, List.forall_mem_cons.2 ⟨?_, List.forall_mem_cons.2 ⟨?_, List.forall_mem_cons.2 ⟨?_, List.forall_mem_nil _⟩⟩⟩⟩⟩⟩⟩⟩⟩⟩
    · exact fun l v w w2 h hb => by obtain ⟨g, h1, h2⟩ := h; exact ⟨g, h1, (h2.below hb).more hb.size⟩
    · exact fun _ _ _ _ h _ => h
    · exact fun l v w w2 h hb => by obtain ⟨X, h1, h2, h3⟩ := h; exact ⟨X, h1, h2, rowBelow h3 hb⟩
    · exact fun _ _ _ _ h _ => h
    · exact fun _ _ _ _ h _ => h
    · exact fun _ _ _ _ h _ => h
    · exact fun _ _ _ _ h _ => h
    · exact fun _ _ _ _ h _ => h
    · exact fun _ _ _ _ h _ => h
    · exact fun l v w w2 h hb => by obtain ⟨X, h1, h2, h3⟩ := h; exact ⟨X, h1, h2, rowBelow h3 hb⟩
  · refine List.forall_mem_cons.2 ⟨?_, List.forall_mem_cons.2 ⟨?_, List.forall_mem_cons.2 ⟨?_, List.forall_mem_cons.2 ⟨?_, List.forall_mem_cons.2 ⟨?_, List.forall_mem_cons.2 ⟨?_, List.forall_mem_cons.2 ⟨?_, List.forall_mem_nil _⟩⟩⟩⟩⟩⟩⟩
    · refine StepOk.intro rfl [] (by kernel_rfl) ?_
      intro vs W hW0 hd K hK
      have hW : Below V8.heap.size V8 W := Cs.Below.trans' (belowDrewN (Below.refl _ _) 1) hW0 (Nat.le_refl _)
      clear hd
      try simp only [putsD, Act.put, List.getElem_toArray, List.getElem_cons_succ, List.getElem_cons_zero, List.setIfInBounds_toArray, List.set_cons_zero, List.set_cons_succ] at hK ⊢
      go_simp
      go_at_call 23
      (with_reducible first | refine (HCP.out _).mono ?_)
      rintro e w9 ⟨g9, rfl, hnt9, hb9⟩
      exact hK.out _ _ (⟨g9, rfl, hnt9⟩) hb9 (fun h => absurd h (by decide))
    · refine StepOk.intro rfl [] (by kernel_rfl) ?_
      intro vs W hW0 hd K hK
      have hW : Below V8.heap.size V8 W := Cs.Below.trans' (belowDrewN (Below.refl _ _) 1) hW0 (Nat.le_refl _)
      clear hd
      try simp only [putsD, Act.put, List.getElem_toArray, List.getElem_cons_succ, List.getElem_cons_zero, List.setIfInBounds_toArray, List.set_cons_zero, List.set_cons_succ] at hK ⊢
      obtain ⟨m1, m2⟩ := HS.out W hW
      go_simp
      exact hK.out _ _ rfl (Below.refl _ _) (fun h => absurd h (by decide))
    · refine StepOk.intro rfl [] (by kernel_rfl) ?_
      intro vs W hW0 hd K hK
      have hW : Below V8.heap.size V8 W := Cs.Below.trans' (belowDrewN (Below.refl _ _) 1) hW0 (Nat.le_refl _)
      clear hd
      try simp only [putsD, Act.put, List.getElem_toArray, List.getElem_cons_succ, List.getElem_cons_zero, List.setIfInBounds_toArray, List.set_cons_zero, List.set_cons_succ] at hK ⊢
      go_simp
      exact hK.out _ _ ⟨W.heap.size, rfl, hW.size, arrNew _ _ _ _ _ rfl rfl⟩ ((Below.refl _ _).alloc (Nat.le_refl _) _) (fun _ b hb => by simp [blkOf] at hb; subst hb; exact ⟨Nat.le_refl _, by simp⟩)
    · refine StepOk.intro rfl [(0, some 83), (1, some 84), (2, some 85)] (by kernel_rfl) ?_
      intro vs W hW0 hd K hK
      have hW : Below V8.heap.size V8 W := Cs.Below.trans' (belowDrewN (Below.refl _ _) 1) hW0 (Nat.le_refl _)
      obtain ⟨g, d0, hnt⟩ : ∃ g, vs 0 = ntV chpN (some ⟨g, 0, none⟩) 5 ∧ NtAt W (W).heap.size (some ⟨g, 0, none⟩) chpN.l := hd 0 (by decide)
      have d1 : vs 1 = .agg #[.slice Al8 2 cl8, .slice Ah8 2 ch8] := hd 1 (by decide)
      obtain ⟨X85, d2, b85, r85⟩ : ∃ X, vs 2 = .slice (some ⟨X, 0, none⟩) 1 1 ∧ V8.heap.size ≤ X ∧ World.rowIs W X 5 1 (arrF #[.int .u8 64]) := hd 2 (by decide)
      clear hd
      try simp only [d0, d1, d2, putsD, Act.put, List.getElem_toArray, List.getElem_cons_succ, List.getElem_cons_zero, List.setIfInBounds_toArray, List.set_cons_zero, List.set_cons_succ] at hK ⊢
      go_simp
      go_at_call 21
      (with_reducible first | refine (HWT8.out W g X85 hnt (hT8.below hW) ((hrl8.below hW).more hW.size) ((hrh8.below hW).more hW.size) (Rd.of_row (byRow r85) (Nat.le_refl _) r85.lt)).mono ?_)
      rintro e w9 ⟨rfl, hb9⟩
      exact hK.out _ _ (rfl) hb9 (fun h => absurd h (by decide))
    · refine StepOk.intro rfl [(3, some 86)] (by kernel_rfl) ?_
      intro vs W hW0 hd K hK
      have hW : Below V8.heap.size V8 W := Cs.Below.trans' (belowDrewN (Below.refl _ _) 1) hW0 (Nat.le_refl _)
      have d3 : vs 3 = .tuple #[.agg #[.int .u64 0, .int .u64 0], .int .i64 0, .bool false, .int .i64 1] := hd 3 (by decide)
      clear hd
      try simp only [d3, putsD, Act.put, List.getElem_toArray, List.getElem_cons_succ, List.getElem_cons_zero, List.setIfInBounds_toArray, List.set_cons_zero, List.set_cons_succ] at hK ⊢
      go_simp
      exact hK.out _ _ rfl (Below.refl _ _) (fun h => absurd h (by decide))
    · refine StepOk.intro rfl [(4, some 82)] (by kernel_rfl) ?_
      intro vs W hW0 hd K hK
      have hW : Below V8.heap.size V8 W := Cs.Below.trans' (belowDrewN (Below.refl _ _) 1) hW0 (Nat.le_refl _)
      have d4 : vs 4 = .tuple #[.agg #[.int .u64 0, .int .u64 0], .int .i64 0, .bool false, .int .i64 1] := hd 4 (by decide)
      clear hd
      try simp only [d4, putsD, Act.put, List.getElem_toArray, List.getElem_cons_succ, List.getElem_cons_zero, List.setIfInBounds_toArray, List.set_cons_zero, List.set_cons_succ] at hK ⊢
      go_simp
      exact hK.out _ _ rfl (Below.refl _ _) (fun h => absurd h (by decide))
    · refine StepOk.intro rfl [] (by kernel_rfl) ?_
      intro vs W hW0 hd K hK
      have hW : Below V8.heap.size V8 W := Cs.Below.trans' (belowDrewN (Below.refl _ _) 1) hW0 (Nat.le_refl _)
      clear hd
      try simp only [putsD, Act.put, List.getElem_toArray, List.getElem_cons_succ, List.getElem_cons_zero, List.setIfInBounds_toArray, List.set_cons_zero, List.set_cons_succ] at hK ⊢
      go_simp
      exact hK.out _ _ ⟨W.heap.size, rfl, hW.size, arrNew _ _ _ _ _ rfl rfl⟩ ((Below.refl _ _).alloc (Nat.le_refl _) _) (fun _ b hb => by simp [blkOf] at hb; subst hb; exact ⟨Nat.le_refl _, by simp⟩)
  · refine List.forall_mem_cons.2 ⟨?_, List.forall_mem_cons.2 ⟨?_, List.forall_mem_cons.2 ⟨?_, List.forall_mem_nil _⟩⟩⟩
    · refine YieldOk.intro rfl [(4, some 82)] (by kernel_rfl) (fun _ => .int .i64 0) rfl ?_
      intro vs W hd
      have d4 : vs 4 = .tuple #[.agg #[.int .u64 0, .int .u64 0], .int .i64 0, .bool false, .int .i64 1] := hd 4 (by decide)
      clear hd
      refine ⟨rfl, fun w2 => ?_⟩
      try simp only [d4, putsD, Act.put, List.getElem_toArray, List.getElem_cons_succ, List.getElem_cons_zero, List.setIfInBounds_toArray, List.set_cons_zero, List.set_cons_succ]
      go_simp
    · refine YieldOk.intro rfl [(4, some 82)] (by kernel_rfl) (fun _ => .bool false) rfl ?_
      intro vs W hd
      have d4 : vs 4 = .tuple #[.agg #[.int .u64 0, .int .u64 0], .int .i64 0, .bool false, .int .i64 1] := hd 4 (by decide)
      clear hd
      refine ⟨rfl, fun w2 => ?_⟩
      try simp only [d4, putsD, Act.put, List.getElem_toArray, List.getElem_cons_succ, List.getElem_cons_zero, List.setIfInBounds_toArray, List.set_cons_zero, List.set_cons_succ]
      go_simp
    · refine YieldOk.intro rfl [(4, some 82)] (by kernel_rfl) (fun _ => .int .i64 1) rfl ?_
      intro vs W hd
      have d4 : vs 4 = .tuple #[.agg #[.int .u64 0, .int .u64 0], .int .i64 0, .bool false, .int .i64 1] := hd 4 (by decide)
      clear hd
      refine ⟨rfl, fun w2 => ?_⟩
      try simp only [d4, putsD, Act.put, List.getElem_toArray, List.getElem_cons_succ, List.getElem_cons_zero, List.setIfInBounds_toArray, List.set_cons_zero, List.set_cons_succ]
      go_simp
  refine FinOk.intro [(0, some 83), (1, some 84), (2, some 85), (3, some 86), (4, some 82), (5, some 87), (9, some 25), (6, some 88), (7, some 89), (8, some 90)] #[true, true, true, true, true, true, true, true, true, true, false, false, false, false] 4 (by kernel_rfl) (by kernel_rfl) (by kernel_rfl) ?_
  intro vs Wf hW0 hd hbk hdis kf
  have hW : Below V8.heap.size V8 Wf := Cs.Below.trans' (belowDrewN (Below.refl _ _) 1) hW0 (Nat.le_refl _)
  obtain ⟨g, d0, hnt⟩ : ∃ g, vs 0 = ntV chpN (some ⟨g, 0, none⟩) 5 ∧ NtAt Wf (Wf).heap.size (some ⟨g, 0, none⟩) chpN.l := hd 0 (by decide)
  have d1 : vs 1 = .agg #[.slice Al8 2 cl8, .slice Ah8 2 ch8] := hd 1 (by decide)
  obtain ⟨X85, d2, b85, r85⟩ : ∃ X, vs 2 = .slice (some ⟨X, 0, none⟩) 1 1 ∧ V8.heap.size ≤ X ∧ World.rowIs Wf X 5 1 (arrF #[.int .u8 64]) := hd 2 (by decide)
  have d3 : vs 3 = .tuple #[.agg #[.int .u64 0, .int .u64 0], .int .i64 0, .bool false, .int .i64 1] := hd 3 (by decide)
  have d4 : vs 4 = .tuple #[.agg #[.int .u64 0, .int .u64 0], .int .i64 0, .bool false, .int .i64 1] := hd 4 (by decide)
  have d5 : vs 5 = .agg #[.int .u64 0, .int .u64 0] := hd 5 (by decide)
  obtain ⟨X25, d9, b25, r25⟩ : ∃ X, vs 9 = .pointer (some ⟨X, 0, none⟩) ∧ V8.heap.size ≤ X ∧ World.rowIs Wf X 30 2 (arrF #[.int .u64 0, .int .u64 0]) := hd 9 (by decide)
  have d6 : vs 6 = .int .i64 0 := hd 6 (by decide)
  have d7 : vs 7 = .bool false := hd 7 (by decide)
  have d8 : vs 8 = .int .i64 1 := hd 8 (by decide)
  have n85_25 : X85 ≠ X25 := fun h => hdis 2 (by decide) 9 (by decide) (by decide) rfl rfl X85 (by rw [d2]; rfl) (by rw [d9, h]; rfl)
  have n25_85 := Ne.symm n85_25
  clear hd hbk hdis hW0
  try simp only [d0, d1, d2, d3, d4, d5, d9, d6, d7, d8, putsD, Act.put, List.getElem_toArray, List.getElem_cons_succ, List.getElem_cons_zero, List.setIfInBounds_toArray, List.set_cons_zero, List.set_cons_succ]
  clear d0 d1 d2 d3 d4 d5 d9 d6 d7 d8 vs
  clear HS
  have l85 := r85.lt
  have y85_0 := r85.frozen 0
  have k85_0 := r85.cell (i := 0) (by decide)
  have l25 := r25.lt
  have y25_0 := r25.frozen 0
  have k25_0 := r25.cell (i := 0) (by decide)
  have y25_1 := r25.frozen 1
  have k25_1 := r25.cell (i := 1) (by decide)
  refine wpAny_one1 10 (by kernel_rfl) rfl (fun K hK => ?_)
  go_simp
  refine hK.out _ _ ?_
  clear hK K
  try simp only [putsD, Act.put, List.getElem_toArray, List.getElem_cons_succ, List.getElem_cons_zero, List.setIfInBounds_toArray, List.set_cons_zero, List.set_cons_succ]
  refine wpAny_one1 11 (by kernel_rfl) rfl (fun K hK => ?_)
  go_simp
  refine hK.out _ _ ?_
  clear hK K
  try simp only [putsD, Act.put, List.getElem_toArray, List.getElem_cons_succ, List.getElem_cons_zero, List.setIfInBounds_toArray, List.set_cons_zero, List.set_cons_succ]
  refine wpAny_one1 12 (by kernel_rfl) rfl (fun K hK => ?_)
  go_simp
  refine hK.out _ _ ?_
  clear hK K
  try simp only [putsD, Act.put, List.getElem_toArray, List.getElem_cons_succ, List.getElem_cons_zero, List.setIfInBounds_toArray, List.set_cons_zero, List.set_cons_succ]
  refine wpAny_one1 13 (by kernel_rfl) rfl (fun K hK => ?_)
  go_simp
  refine hK.out _ _ ?_
  clear hK K
  try simp only [putsD, Act.put, List.getElem_toArray, List.getElem_cons_succ, List.getElem_cons_zero, List.setIfInBounds_toArray, List.set_cons_zero, List.set_cons_succ]
  refine wpAny_end (by kernel_rfl) ?_ _
  have q22 := (q21.below ((hW.setCell (p := ⟨X25, 0, none⟩) b25 (.int .u64 0)).setCell (p := ⟨X25, 1, none⟩) b25 (.int .u64 0))).tail
  clear hW r25 b25 y25_0 y25_1 k25_0 k25_1 l25 s1 s2 lb8 hT8 HWT8 hrl8 hrh8 q21
  generalize (Wf.setCell ⟨X25, 0, none⟩ (.int .u64 0)).setCell ⟨X25, 1, none⟩ (.int .u64 0) = w23 at q22 ⊢
  have c1 := q22.is0 0 (by decide) (.int .u64 2) rfl
  have c2 := q22.is0 1 (by decide) (.int .u64 0) rfl
  have c3 := q22.tail.is0 0 (by decide) (.int .u64 0) rfl
  have c4 := q22.tail.is0 1 (by decide) (.int .u64 0) rfl
  have he0 := HE0.out
  have he2 := HE2.out
  have hTT := hT.below q22.bl
  go_wp2_with (
    go_at_call 11
    (with_reducible refine (works_any _ hTT).mono ?_)
    rintro e w30 ⟨rfl, hb30⟩
    have hbl := Cs.Below.trans' q22.bl hb30 q22.bl.size)
  go_ret
  exact ⟨rfl, hbl⟩
end Go.Proofs.YtgnobohfnhpkdaaGreatDoor
