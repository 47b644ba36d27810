/- A net of the chapter, as plain data. The walks of the law's own functions: chapter, Few, Same. The walk of the law's own check of the chapter's net. -/
import Derived.Test.YtcgejdlfiemjaaaDoorB1
import Derived.Test.YtcgejdlfiemjaaaDoorByCard
import Derived.Test.YtcgejdlfiemjaaaDoorR4
set_option linter.unusedSimpArgs false
set_option linter.unusedVariables false
/-! A net of the chapter, as plain data. -/
section
namespace Cs
open Go Go.RowKit
/-- The cells of a row that lies there written out. -/
def arrF (a : Array Value) (i : Nat) : Value := a.getD i undef
theorem arrNew (w : World) (a : Array Value) (t : TypeId) (g n : Nat) (hg : w.heap.size = g) (hn : a.size = n) : (w.alloc (.cells a t)).rowIs g t n (arrF a) := by
  subst hg; subst hn
  exact World.rowIs_alloc w a t (arrF a) fun i hi => by unfold arrF; rw [Array.getD_eq_getD_getElem?, Array.getElem?_eq_getElem hi]; rfl
def chapN : Nt := ⟨3, [⟨2, 1, []⟩, ⟨2, -1, []⟩, ⟨2, 2, []⟩, ⟨2, 3, []⟩, ⟨3, 0, [0, 3]⟩, ⟨3, 0, [1, 2]⟩, ⟨4, 0, [4, 5]⟩]⟩
def chapNA (b4 b5 b6 : Nat) : Array Value := #[.int .i64 2, .int .i64 1, .slice none 0 0, .int .i64 2, .int .i64 (-1), .slice none 0 0, .int .i64 2, .int .i64 2, .slice none 0 0, .int .i64 2, .int .i64 3, .slice none 0 0, .int .i64 3, .int .i64 0, .slice (some ⟨b4, 0, none⟩) 2 2, .int .i64 3, .int .i64 0, .slice (some ⟨b5, 0, none⟩) 2 2, .int .i64 4, .int .i64 0, .slice (some ⟨b6, 0, none⟩) 2 2]
theorem chapN_at {w : World} {B g b4 b5 b6 : Nat} {t : TypeId} {s : TypeId} (hg : g < B) (h4 : b4 < B) (r4 : w.rowIs b4 s 2 (arrF #[.int .i64 0, .int .i64 3])) (h5 : b5 < B) (r5 : w.rowIs b5 s 2 (arrF #[.int .i64 1, .int .i64 2])) (h6 : b6 < B) (r6 : w.rowIs b6 s 2 (arrF #[.int .i64 4, .int .i64 5])) (hr : w.rowIs g t 21 (arrF (chapNA b4 b5 b6))) : NtAt w B (some ⟨g, 0, none⟩) chapN.l := fun _ => by
  refine ⟨g, 0, rfl, hg, fun i hi => ?_⟩
  match i, hi with
  | 0, _ => exact ⟨hr.cell (i := 0) (by decide), hr.cell (i := 1) (by decide), ⟨none, 0, hr.cell (i := 2) (by decide), Rd.zero _ _ _ _⟩, (show r64 (2) by unfold r64; decide), (show r64 (1) by unfold r64; decide), (show ∀ i ∈ ([] : List Int), r64 i by unfold r64; decide), (show ([] : List Int).length ≤ 140737488355328 by decide)⟩
  | 1, _ => exact ⟨hr.cell (i := 3) (by decide), hr.cell (i := 4) (by decide), ⟨none, 0, hr.cell (i := 5) (by decide), Rd.zero _ _ _ _⟩, (show r64 (2) by unfold r64; decide), (show r64 (-1) by unfold r64; decide), (show ∀ i ∈ ([] : List Int), r64 i by unfold r64; decide), (show ([] : List Int).length ≤ 140737488355328 by decide)⟩
  | 2, _ => exact ⟨hr.cell (i := 6) (by decide), hr.cell (i := 7) (by decide), ⟨none, 0, hr.cell (i := 8) (by decide), Rd.zero _ _ _ _⟩, (show r64 (2) by unfold r64; decide), (show r64 (2) by unfold r64; decide), (show ∀ i ∈ ([] : List Int), r64 i by unfold r64; decide), (show ([] : List Int).length ≤ 140737488355328 by decide)⟩
  | 3, _ => exact ⟨hr.cell (i := 9) (by decide), hr.cell (i := 10) (by decide), ⟨none, 0, hr.cell (i := 11) (by decide), Rd.zero _ _ _ _⟩, (show r64 (2) by unfold r64; decide), (show r64 (3) by unfold r64; decide), (show ∀ i ∈ ([] : List Int), r64 i by unfold r64; decide), (show ([] : List Int).length ≤ 140737488355328 by decide)⟩
  | 4, _ => exact ⟨hr.cell (i := 12) (by decide), hr.cell (i := 13) (by decide), ⟨some ⟨b4, 0, none⟩, 2, hr.cell (i := 14) (by decide), Rd.of_row (r4.congr fun j hj => by
      match j, hj with
      | 0, _ => rfl
      | 1, _ => rfl
      ) (Nat.le_refl _) h4⟩, (show r64 (3) by unfold r64; decide), (show r64 (0) by unfold r64; decide), (show ∀ i ∈ ([0, 3] : List Int), r64 i by unfold r64; decide), (show ([0, 3] : List Int).length ≤ 140737488355328 by decide)⟩
  | 5, _ => exact ⟨hr.cell (i := 15) (by decide), hr.cell (i := 16) (by decide), ⟨some ⟨b5, 0, none⟩, 2, hr.cell (i := 17) (by decide), Rd.of_row (r5.congr fun j hj => by
      match j, hj with
      | 0, _ => rfl
      | 1, _ => rfl
      ) (Nat.le_refl _) h5⟩, (show r64 (3) by unfold r64; decide), (show r64 (0) by unfold r64; decide), (show ∀ i ∈ ([1, 2] : List Int), r64 i by unfold r64; decide), (show ([1, 2] : List Int).length ≤ 140737488355328 by decide)⟩
  | 6, _ => exact ⟨hr.cell (i := 18) (by decide), hr.cell (i := 19) (by decide), ⟨some ⟨b6, 0, none⟩, 2, hr.cell (i := 20) (by decide), Rd.of_row (r6.congr fun j hj => by
      match j, hj with
      | 0, _ => rfl
      | 1, _ => rfl
      ) (Nat.le_refl _) h6⟩, (show r64 (4) by unfold r64; decide), (show r64 (0) by unfold r64; decide), (show ∀ i ∈ ([4, 5] : List Int), r64 i by unfold r64; decide), (show ([4, 5] : List Int).length ≤ 140737488355328 by decide)⟩
end Cs
end
/-! The walks of the law's own functions: chapter, Few, Same. -/
section
open Go Go.RowKit Cs
namespace Go.Proofs.YtcgejdlfiemjaaaDoor
theorem size_net : (Tryd.prog.info? 24).map (·.size) = some 2 := by kernel_rfl
set_option maxRecDepth 100000 in
theorem chapter_any (w : World) : Calls Tryd.prog 30 #[] w fun e w' => ∃ g, e = .returned (ntV chapN (some ⟨g, 0, none⟩) 7) ∧ NtAt w' w'.heap.size (some ⟨g, 0, none⟩) chapN.l ∧ Below w.heap.size w w' := by
  have r0 := arrNew w #[.int .i64 3, .slice (some ⟨w.heap.size + 1 + 1 + 1 + 1, 0, none⟩) 7 7] 24 w.heap.size 2 rfl rfl
  have r4 := arrNew (w.alloc (.cells #[.int .i64 3, .slice (some ⟨w.heap.size + 1 + 1 + 1 + 1, 0, none⟩) 7 7] 24)) #[.int .i64 0, .int .i64 3] 3 (w.heap.size + 1) 2 (by simp) rfl
  have r5 := arrNew ((w.alloc (.cells #[.int .i64 3, .slice (some ⟨w.heap.size + 1 + 1 + 1 + 1, 0, none⟩) 7 7] 24)).alloc (.cells #[.int .i64 0, .int .i64 3] 3)) #[.int .i64 1, .int .i64 2] 3 (w.heap.size + 1 + 1) 2 (by simp) rfl
  have r6 := arrNew (((w.alloc (.cells #[.int .i64 3, .slice (some ⟨w.heap.size + 1 + 1 + 1 + 1, 0, none⟩) 7 7] 24)).alloc (.cells #[.int .i64 0, .int .i64 3] 3)).alloc (.cells #[.int .i64 1, .int .i64 2] 3)) #[.int .i64 4, .int .i64 5] 3 (w.heap.size + 1 + 1 + 1) 2 (by simp) rfl
  have r7 := arrNew ((((w.alloc (.cells #[.int .i64 3, .slice (some ⟨w.heap.size + 1 + 1 + 1 + 1, 0, none⟩) 7 7] 24)).alloc (.cells #[.int .i64 0, .int .i64 3] 3)).alloc (.cells #[.int .i64 1, .int .i64 2] 3)).alloc (.cells #[.int .i64 4, .int .i64 5] 3)) (chapNA (w.heap.size + 1) (w.heap.size + 1 + 1) (w.heap.size + 1 + 1 + 1)) 52 (w.heap.size + 1 + 1 + 1 + 1) 21 (by simp) rfl
  have hnt := chapN_at (B := w.heap.size + 1 + 1 + 1 + 1 + 1) (by omega) (by omega) (((r4.alloc _).alloc _).alloc _) (by omega) ((r5.alloc _).alloc _) (by omega) (r6.alloc _) r7
  have hbl := (((((Below.refl w.heap.size w).alloc (Nat.le_refl _) (.cells #[.int .i64 3, .slice (some ⟨w.heap.size + 1 + 1 + 1 + 1, 0, none⟩) 7 7] 24)).alloc (by simp) (.cells #[.int .i64 0, .int .i64 3] 3)).alloc (by simp; omega) (.cells #[.int .i64 1, .int .i64 2] 3)).alloc (by simp; omega) (.cells #[.int .i64 4, .int .i64 5] 3)).alloc (by simp; omega) (.cells (chapNA (w.heap.size + 1) (w.heap.size + 1 + 1) (w.heap.size + 1 + 1 + 1)) 52)
  have R0 := Lib.hid ((((r0.alloc (.cells #[.int .i64 0, .int .i64 3] 3)).alloc (.cells #[.int .i64 1, .int .i64 2] 3)).alloc (.cells #[.int .i64 4, .int .i64 5] 3)).alloc (.cells (chapNA (w.heap.size + 1) (w.heap.size + 1 + 1) (w.heap.size + 1 + 1 + 1)) 52))
  have HNT := Lib.hid hnt
  have HBL := Lib.hid hbl
  clear r0 r4 r5 r6 r7 hnt hbl
  go_enter Tryd.func30, Tryd.ntmps30
  go_wp2
  refine ret_row rfl w.heap.size 24 2 _ rfl R0.out _ Tryd.underlying24 rfl size_net rfl ⟨w.heap.size + 1 + 1 + 1 + 1, rfl, ?_, HBL.out⟩
  exact HNT.out.more (by simp)
/-- The number of inputs of nodes together. -/
def insN : List Nd → Nat
  | [] => 0
  | x :: xs => x.ins.length + insN xs
theorem insN_snoc (x : Nd) : ∀ xs : List Nd, insN (xs ++ [x]) = insN xs + x.ins.length
  | [] => by simp [insN]
  | y :: ys => by simp only [List.cons_append, insN, insN_snoc x ys]; omega
def fewB (N : Nt) : Bool := decide (N.l.length ≤ 60) && decide (insN N.l ≤ 300)
set_option maxRecDepth 100000 in
set_option maxHeartbeats 400000 in
theorem few_any (w : World) (N : Nt) (A : Option Addr) (c : Nat) (hlen : N.l.length ≤ 140737488355328) (hN : NtAt w w.heap.size A N.l) :
    Calls Tryd.prog 10 #[ntV N A c] w fun e w' => e = .returned (.bool (fewB N)) ∧ Below w.heap.size w w' := by
  obtain ⟨n, l⟩ := N
  simp only at hlen hN
  have hbl : Below w.heap.size w (w.alloc (.cells #[.int .i64 n, .slice A l.length c] 24)) := (Below.refl _ _).alloc (Nat.le_refl _) _
  have hN' := hN.below hbl
  have hf : fewB ⟨n, l⟩ = (decide (l.length ≤ 60) && decide (insN l ≤ 300)) := rfl
  obtain ⟨F, hF⟩ : ∃ F, fewB ⟨n, l⟩ = F := ⟨_, rfl⟩
  rw [hF] at hf ⊢
  have HF := Lib.hid hf
  clear hf hN hF
  go_enter Tryd.func10, Tryd.ntmps10
  go_wp2
  go_loop [3, 4] (fun s t => ∃ (k : Nat) (j : Int), k ≤ l.length ∧ t = .int .i64 k ∧ s = .int .i64 j ∧ Hid (l.length ≤ 60 → j = (insN (l.take k) : Int) ∧ j ≤ 140737488355328 * k)) (fun _ t => l.length - (intOf t).toNat)
  case atStart => exact ⟨0, 0, by omega, rfl, rfl, fun _ => ⟨rfl, by omega⟩⟩
  case round =>
    obtain ⟨k, j, hk, rfl, rfl, HJ⟩ := hrel
    by_cases hlt : k < l.length
    · obtain ⟨b, o, rfl, hbB, hcs⟩ := hN' (by omega)
      obtain ⟨hk1, hk2, ⟨A', c', hk3, hrd⟩, hr1, hr2, hr3, hr4⟩ := hcs k hlt
      have ht : l.take (k + 1) = l.take k ++ [l[k]] := List.take_succ_eq_append_getElem hlt
      have hsn := insN_snoc l[k] (l.take k)
      rw [← ht] at hsn
      obtain ⟨x, hx⟩ : ∃ x, l[k] = x := ⟨_, rfl⟩
      rw [hx] at hk3 hr4 hsn
      have HSN := Lib.hid hsn
      clear ht hx hsn hk1 hk2 hrd hr1 hr2 hr3 hcs hN'
      go_wp2
      go_round
      case rel =>
        refine ⟨k + 1, _, by omega, by go_num, rfl, fun h => ?_⟩
        obtain ⟨q1, q2⟩ := HJ.out h
        have hw : wrap64 (j + (x.ins.length : Int)) = j + (x.ins.length : Int) := by unfold wrap64; omega
        refine ⟨?_, ?_⟩
        · first | (rw [hw, HSN.out]; omega) | (rw [HSN.out]; omega)
        · first | (rw [hw]; omega) | omega
      case measure => simp [intOf]; omega
    · obtain rfl : k = l.length := by omega
      have hj := HJ.out
      rw [List.take_length] at hj
      have HJ2 := Lib.hid hj
      clear hlt hj hN'
      by_cases h60 : l.length ≤ 60
      · have h := (HJ2.out h60).1
        have HJ3 := Lib.hid h
        have hf2 := HF.out
        rw [decide_eq_true h60, Bool.true_and] at hf2
        have e : decide (insN l ≤ 300) = decide (j ≤ 300) := by rw [HJ3.out, Bool.eq_iff_iff]; simp; omega
        rw [e] at hf2
        have HF2 := Lib.hid hf2
        clear h hf2 e
        go_wp2
        go_ret
        exact ⟨by rw [HF2.out]; try rfl, hbl⟩
      · have hf2 := HF.out
        rw [decide_eq_false h60, Bool.false_and] at hf2
        have HF2 := Lib.hid hf2
        clear hf2
        go_wp2
        go_ret
        exact ⟨by rw [HF2.out]; try rfl, hbl⟩
set_option maxRecDepth 100000 in
set_option maxHeartbeats 400000 in
/-- Same, of numbers and their texts. -/
theorem same_any (w : World) (A B : Option Addr) (c cb : Nat) (L M : List Nat) (hl : L.length ≤ 1000000) (hlm : M.length = L.length) (h : ∀ i, L.getD i 0 = M.getD i 0) (hn : ∀ i, n8 (L.getD i 0) ≤ 1000000)
    (hA : Rd w w.heap.size A L.length (natsF L)) (hB : Rd w w.heap.size B M.length (decF M)) :
    Calls Tryd.prog 17 #[.slice A L.length c, .slice B M.length cb] w fun e w' => e = .returned (.bool true) ∧ Below w.heap.size w w' := by
  rw [hlm] at hB ⊢
  have HA := Lib.hid hA
  have HB := Lib.hid hB
  have H := Lib.hid h
  have HN := Lib.hid hn
  obtain ⟨n, hn'⟩ : ∃ n, L.length = n := ⟨_, rfl⟩
  rw [hn'] at hl HA HB ⊢
  clear hlm h hn hA hB hn'
  go_enter Tryd.func17, Tryd.ntmps17
  go_wp2
  go_loopw [5] (fun t wr => ∃ k : Nat, k ≤ n ∧ t = .int .i64 k ∧ Below w.heap.size w wr) (fun t _ => n - (intOf t).toNat)
  case atStart => exact ⟨0, by omega, rfl, Below.refl _ _⟩
  case round =>
    obtain ⟨k, hk, rfl, hbel⟩ := hrel
    by_cases hlt : k < n
    · obtain ⟨a1, o1, rfl, ha1, hcs⟩ := HA.out (by omega)
      obtain ⟨b1, p1, rfl, hb1, hds⟩ := HB.out (by omega)
      have hc1 := hcs k hlt
      have hd1 := hds k hlt
      unfold natsF at hc1
      unfold decF at hd1
      rw [← H.out] at hd1
      have hq := HN.out k
      obtain ⟨x, hx⟩ : ∃ x, L.getD k 0 = x := ⟨_, rfl⟩
      rw [hx] at hc1 hd1 hq
      clear hcs hds hx
      have hbl' := belowDrewN hbel 1
      change Below _ _ (World.drew _) at hbl'
      have hzz := hbl'.size
      have he1 : wr.drew.cell? ⟨a1, o1 + k, none⟩ = some (.string (natB x)) := below_cell hbl' ha1 hc1
      have he2 : wr.drew.cell? ⟨b1, p1 + k, none⟩ = some (.string (dec x)) := below_cell hbl' hb1 hd1
      have htx := fun W => text_any W x hq
      obtain ⟨s, hs⟩ : ∃ s, dec x = s := ⟨_, rfl⟩
      rw [hs] at he2
      simp only [hs] at htx
      have HTX := Lib.hid htx
      clear hc1 hd1 hq hs htx
      have i0 : (0 : Int) ≤ (k : Int) := by omega
      have i1 : (k : Int) < (n : Int) := by omega
      go_wp2_with fail
      go_region_held3 (fun w' => w'.cell? ⟨a1, o1 + k, none⟩ = some (.string (natB x)) ∧ w'.cell? ⟨b1, p1 + k, none⟩ = some (.string s)) (first | exact ⟨he1, he2⟩ | go_keep)
        (first
          | (go_simp
             go_at_call 14
             (with_reducible refine (HTX.out _).mono ?_)
             rintro e' w9 ⟨rfl, hb9⟩
             have he1 := below_cell hb9 (Nat.lt_of_lt_of_le ha1 hzz) he1
             have he2 := below_cell hb9 (Nat.lt_of_lt_of_le hb1 hzz) he2
             replace hbl' := Cs.Below.trans' hbl' hb9 hzz))
      go_wp2
      go_roundw
      case rel => exact ⟨k + 1, by omega, by go_num, hbl'⟩
      case measure => simp [intOf]; omega
    · go_wp2
      go_ret
      exact ⟨rfl, hbel⟩
end Go.Proofs.YtcgejdlfiemjaaaDoor
end
/-! The walk of the law's own check of the chapter's net. -/
section
open Go Go.RowKit Cs
namespace Cs
theorem chap_chk : cchk chapN = 0 := by decide +kernel
theorem chap_cnt : cntN chapN = 4 := by decide +kernel
theorem chap_low : lowL chapN 3 = [0, 2, 1, 1] := by decide +kernel
theorem chap_high : highL chapN 3 = [0, 2, 3, 3] := by decide +kernel
theorem chap_card : cardL chapN 3 = [0, 1, 2, 1] := by decide +kernel
theorem dec_two : dec 2 = ⟨#[50]⟩ := by decide +kernel
theorem dec_three : dec 3 = ⟨#[51]⟩ := by decide +kernel
theorem dec_four : dec 4 = ⟨#[52]⟩ := by decide +kernel
end Cs
namespace Go.Proofs.YtcgejdlfiemjaaaDoor
theorem dec_1' : dec 1 = ⟨#[49]⟩ := by decide +kernel
theorem few4 (a b c d : Nat) (ha : a < 256) (hb : b < 256) (hc : c < 256) (hd : d < 256) : ∀ i, ([a, b, c, d] : List Nat).getD i 0 < 256
  | 0 => ha
  | 1 => hb
  | 2 => hc
  | 3 => hd
  | _ + 4 => by simp
theorem lit4 (a b c d : Nat) (A B C D : ByteArray) (ha : dec a = A) (hb : dec b = B) (hc : dec c = C) (hd : dec d = D) : ∀ i, i < 4 → arrF #[.string A, .string B, .string C, .string D] i = decF [a, b, c, d] i
  | 0, _ => congrArg Value.string ha.symm
  | 1, _ => congrArg Value.string hb.symm
  | 2, _ => congrArg Value.string hc.symm
  | 3, _ => congrArg Value.string hd.symm
theorem n8_few (n : Nat) (h : n < 256) : n8 n ≤ 1000000 := Nat.le_trans ((n8_le 1 n).2 (by simpa using h)) (by decide)
/-- Same, of four numbers below ten and their texts written out. -/
theorem same_lit (w : World) (g h : Nat) (cb : Nat) (t s : TypeId) (L : List Nat) (a : Array Value) (n : Nat) (hn : L.length = n) (hr : w.rowIs g t n (natsF L)) (hs : w.rowIs h s n (arrF a))
    (ha : ∀ i, i < n → arrF a i = decF L i) (hb : ∀ i, L.getD i 0 < 256) (hl : n ≤ 1000000) :
    Calls Tryd.prog 17 #[.slice (some ⟨g, 0, none⟩) n n, .slice (some ⟨h, 0, none⟩) n cb] w fun e w' => e = .returned (.bool true) ∧ Below w.heap.size w w' := by
  subst hn
  exact same_any w _ _ _ _ L L hl rfl (fun _ => rfl) (fun i => n8_few _ (hb i)) (Rd.of_row hr (Nat.le_refl _) hr.lt) ((Rd.of_row hs (Nat.le_refl _) hs.lt).congr ha)
set_option maxRecDepth 100000 in
set_option maxHeartbeats 1000000 in
theorem works_any (w : World) (hT : Tab w) : Calls Tryd.prog 11 #[] w fun e w' => e = .returned (.bool true) ∧ Below w.heap.size w w' := by
  have hcnt := fun W A c h hT => count_any W chapN A c (by decide) h hT
  have hlit := fun W A c h hT => byLit_any W chapN A c 3 rfl h hT chap_chk
  have hcrd := fun W A c h hT => byCard_any W chapN A c 3 rfl h hT chap_chk
  rw [chap_cnt, chap_chk] at hcnt
  rw [chap_low, chap_high] at hlit
  rw [chap_card] at hcrd
  have htx := fun W => text_any W 4 (n8_few 4 (by decide))
  rw [dec_four] at htx
  have HC := Lib.hid hcnt
  have HL := Lib.hid hlit
  have HR := Lib.hid hcrd
  have HTX := Lib.hid htx
  clear hcnt hlit hcrd htx
  go_enter Tryd.func11, Tryd.ntmps11
  go_wp2_with fail
  refine (chapter_any _).mono ?_
  rintro e w1 ⟨g1, rfl, hN1, hb1⟩
  go_wp2_with fail
  refine (HC.out _ _ _ hN1 (hT.below hb1)).mono ?_
  rintro e w2 ⟨rfl, hb2⟩
  have hbl2 := Cs.Below.trans' hb1 hb2 hb1.size
  have hx2 := boxNew w2 (.string (natB 4)) 28 _ rfl
  have hbl3 := hbl2.alloc hbl2.size (.cells #[.string (natB 4)] 28)
  go_wp2_with fail
  refine (chapter_any _).mono ?_
  rintro e w4 ⟨g4, rfl, hN4, hb4⟩
  replace hx2 := rowBelow hx2 hb4
  have hbl4 := Cs.Below.trans' hbl3 hb4 hbl3.size
  go_wp2_with fail
  refine (HL.out _ _ _ hN4 (hT.below hbl4)).mono ?_
  rintro e w5 ⟨gl, gh, rfl, hgl, hgh, hlo, hhi, hb5⟩
  replace hx2 := rowBelow hx2 hb5
  have hbl5 := Cs.Below.trans' hbl4 hb5 hbl4.size
  go_wp2_with fail
  refine (chapter_any _).mono ?_
  rintro e w6 ⟨g6, rfl, hN6, hb6⟩
  replace hx2 := rowBelow hx2 hb6
  replace hlo := rowBelow hlo hb6
  replace hhi := rowBelow hhi hb6
  have hbl6 := Cs.Below.trans' hbl5 hb6 hbl5.size
  go_wp2_with fail
  refine (HR.out _ _ _ hN6 (hT.below hbl6)).mono ?_
  rintro e w7 ⟨gc, rfl, hgc, hcr, hb7⟩
  replace hx2 := rowBelow hx2 hb7
  replace hlo := rowBelow hlo hb7
  replace hhi := rowBelow hhi hb7
  have hbl7 := Cs.Below.trans' hbl6 hb7 hbl6.size
  have hc2 := boxCell hx2
  clear hb1 hb2 hb4 hb5 hb6 hb7 hN1 hN4 hN6 hbl2 hbl3 hbl4 hbl5 hbl6
  go_wp2_with fail
  refine (HTX.out _).mono ?_
  rintro e w8 ⟨rfl, hb8⟩
  replace hlo := rowBelow hlo hb8
  replace hhi := rowBelow hhi hb8
  replace hcr := rowBelow hcr hb8
  have hbl8 := Cs.Below.trans' hbl7 hb8 hbl7.size
  have ha1 := arrNew w8 #[.string ⟨#[48]⟩, .string ⟨#[50]⟩, .string ⟨#[49]⟩, .string ⟨#[49]⟩] 9 _ 4 rfl rfl
  have hbl9 := hbl8.alloc hbl8.size (.cells #[.string ⟨#[48]⟩, .string ⟨#[50]⟩, .string ⟨#[49]⟩, .string ⟨#[49]⟩] 9)
  go_wp2_with fail
  refine (same_lit _ _ _ 4 _ _ [0, 2, 1, 1] _ 4 rfl (hlo.alloc _) ha1 (lit4 0 2 1 1 _ _ _ _ dec_zero dec_two dec_1' dec_1') (few4 _ _ _ _ (by decide) (by decide) (by decide) (by decide)) (by omega)).mono ?_
  rintro e w10 ⟨rfl, hb10⟩
  replace hhi := rowBelow (hhi.alloc _) hb10
  replace hcr := rowBelow (hcr.alloc _) hb10
  have hbl10 := Cs.Below.trans' hbl9 hb10 hbl9.size
  have ha2 := arrNew w10 #[.string ⟨#[48]⟩, .string ⟨#[50]⟩, .string ⟨#[51]⟩, .string ⟨#[51]⟩] 9 _ 4 rfl rfl
  have hbl11 := hbl10.alloc hbl10.size (.cells #[.string ⟨#[48]⟩, .string ⟨#[50]⟩, .string ⟨#[51]⟩, .string ⟨#[51]⟩] 9)
  clear ha1 hlo
  go_wp2_with fail
  refine (same_lit _ _ _ 4 _ _ [0, 2, 3, 3] _ 4 rfl (hhi.alloc _) ha2 (lit4 0 2 3 3 _ _ _ _ dec_zero dec_two dec_three dec_three) (few4 _ _ _ _ (by decide) (by decide) (by decide) (by decide)) (by omega)).mono ?_
  rintro e w12 ⟨rfl, hb12⟩
  replace hcr := rowBelow (hcr.alloc _) hb12
  have hbl12 := Cs.Below.trans' hbl11 hb12 hbl11.size
  have ha3 := arrNew w12 #[.string ⟨#[48]⟩, .string ⟨#[49]⟩, .string ⟨#[50]⟩, .string ⟨#[49]⟩] 9 _ 4 rfl rfl
  have hbl13 := hbl12.alloc hbl12.size (.cells #[.string ⟨#[48]⟩, .string ⟨#[49]⟩, .string ⟨#[50]⟩, .string ⟨#[49]⟩] 9)
  clear ha2 hhi
  go_wp2_with fail
  refine (same_lit _ _ _ 4 _ _ [0, 1, 2, 1] _ 4 rfl (hcr.alloc _) ha3 (lit4 0 1 2 1 _ _ _ _ dec_zero dec_1' dec_two dec_1') (few4 _ _ _ _ (by decide) (by decide) (by decide) (by decide)) (by omega)).mono ?_
  rintro e w14 ⟨rfl, hb14⟩
  have hbl14 := Cs.Below.trans' hbl13 hb14 hbl13.size
  go_wp2
  go_ret
  exact ⟨rfl, hbl14⟩
end Go.Proofs.YtcgejdlfiemjaaaDoor
end
