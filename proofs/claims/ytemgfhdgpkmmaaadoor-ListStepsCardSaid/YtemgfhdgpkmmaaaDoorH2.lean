/- The walk of list.New. -/
import Derived.Test.YtemgfhdgpkmmaaaDoorH1
import Derived.Test.YtemgfhdgpkmmaaaDoorL9
import Derived.Test.YtemgfhdgpkmmaaaDoorG3
import Derived.Deep.CutRange
set_option linter.unusedSimpArgs false
set_option linter.unusedVariables false
open Go Go.RowKit Cs
namespace Go.Proofs.YtemgfhdgpkmmaaaDoor
/-- The cells of a walk. -/
def wkF (gl : Nat) (s : Wk) (k : Int) (i : Nat) : Value :=
  if i = 0 then .pointer (some ⟨gl, 0, none⟩) else if i = 1 then .int .u64 (lo s.last : Int) else if i = 2 then .int .u64 (hi s.last : Int) else if i = 3 then .bool s.begun else if i = 4 then .bool s.over else .int .i64 k
/-- A walk lies at block g, its net and lister in blocks from D on, below g. -/
structure WkLies (w : World) (N : Nt) (D g gl q : Nat) (A : Option Addr) (c : Nat) (s : Wk) (k : Int) : Prop where
  row : w.rowIs g 67 6 (wkF gl s k)
  net : NtK w D g A N.l
  ls : LsAt w N A c gl q
  lo1 : D ≤ gl ∧ D ≤ q ∧ D ≤ g
  hi1 : gl < g ∧ q < g
def NewOk (w : World) (N : Nt) (e : Ending) (w' : World) : Prop := ∃ g gl q A c, e = .returned (.tuple #[.pointer (some ⟨g, 0, none⟩), .int .i64 0]) ∧ WkLies w' N w.heap.size g gl q A c ⟨0, false, false⟩ 0 ∧ Below w.heap.size w w'
def NewP (w : World) (N : Nt) (e : Ending) (w' : World) : Prop := (lerr N 0 = 0 ∧ NewOk w N e w') ∨ (lerr N 0 ≠ 0 ∧ e = .returned (.tuple #[.pointer none, .int .i64 (lerr N 0)]) ∧ Below w.heap.size w w')
/-- The cells of a net's nodes, read as they lie. -/
def cellF (w : World) (A : Option Addr) (i : Nat) : Value := match A with | some ⟨b, o, none⟩ => (w.cell? ⟨b, o + i, none⟩).getD undef | _ => undef
/-- Of a kept net, the inputs of the nodes before the k-th are new. -/
structure NdHalf (W w : World) (D g : Nat) (F : Nat → Value) (x : Nd) (i k : Nat) : Prop where
  kind : F (i * 3) = .int .i64 x.kind
  lit : F (i * 3 + 1) = .int .i64 x.lit
  ins : ∃ A c, F (i * 3 + 2) = .slice A x.ins.length c ∧ (i < k → RdK W (g + 1) W.heap.size A x.ins.length (intF x.ins)) ∧ (k ≤ i → Rd w D A x.ins.length (intF x.ins))
structure KpSt (w wr : World) (N : Nt) (A' : Option Addr) (c' g4 k : Nat) : Prop where
  box : wr.rowIs g4 24 2 (ntF N A' c')
  nodes : 0 < N.l.length → ∃ g F, A' = some ⟨g, 0, none⟩ ∧ w.heap.size ≤ g ∧ g ≠ g4 ∧ N.l.length ≤ c' ∧ wr.rowIs g 41 (c' * 3) F ∧ ∀ i (h : i < N.l.length), NdHalf wr w w.heap.size g F N.l[i] i k
  bl : Below w.heap.size w wr
theorem cellF_half {w W : World} {N : Nt} {A : Option Addr} {g : Nat} (hN : NtAt w w.heap.size A N.l) (F : Nat → Value) (hF : ∀ i, i < N.l.length * 3 → F i = cellF w A i) (i : Nat) (h : i < N.l.length) : NdHalf W w w.heap.size g F N.l[i] i 0 := by
  obtain ⟨b, o, rfl, hB, hc⟩ := hN (by omega)
  obtain ⟨h1, h2, ⟨A1, c1, h3, h4⟩, _, _, _, _⟩ := hc i h
  refine ⟨?_, ?_, A1, c1, ?_, fun h => absurd h (by omega), fun _ => h4⟩
  · rw [hF _ (by omega)]; show (w.cell? ⟨b, o + i * 3, none⟩).getD undef = _; rw [h1]; rfl
  · rw [hF _ (by omega)]; show (w.cell? ⟨b, o + (i * 3 + 1), none⟩).getD undef = _; rw [show o + (i * 3 + 1) = o + i * 3 + 1 by omega, h2]; rfl
  · rw [hF _ (by omega)]; show (w.cell? ⟨b, o + (i * 3 + 2), none⟩).getD undef = _; rw [show o + (i * 3 + 2) = o + i * 3 + 2 by omega, h3]; rfl
theorem cellF_rd {w : World} {N : Nt} {A : Option Addr} (hN : NtAt w w.heap.size A N.l) : Rd w w.heap.size A (N.l.length * 3) (cellF w A) ∧ ∀ i, i < N.l.length * 3 → (cellF w A i).oneCell' = true := by
  have key : 0 < N.l.length → ∃ b o, A = some ⟨b, o, none⟩ ∧ b < w.heap.size ∧ ∀ i, i < N.l.length * 3 → ∃ v, w.cell? ⟨b, o + i, none⟩ = some v ∧ v.oneCell' = true := fun h0 => by
    obtain ⟨b, o, rfl, hB, hc⟩ := hN h0
    refine ⟨b, o, rfl, hB, fun i hi => ?_⟩
    have hd : i / 3 < N.l.length := by omega
    obtain ⟨h1, h2, ⟨A1, c1, h3, h4⟩, _, _, _, _⟩ := hc (i / 3) hd
    have hm : i % 3 = 0 ∨ i % 3 = 1 ∨ i % 3 = 2 := by omega
    rcases hm with hm | hm | hm
    · exact ⟨_, by rw [show o + i = o + i / 3 * 3 by omega]; exact h1, rfl⟩
    · exact ⟨_, by rw [show o + i = o + i / 3 * 3 + 1 by omega]; exact h2, rfl⟩
    · exact ⟨_, by rw [show o + i = o + i / 3 * 3 + 2 by omega]; exact h3, rfl⟩
  constructor
  · intro h
    obtain ⟨b, o, rfl, hB, hc⟩ := key (by omega)
    refine ⟨b, o, rfl, hB, fun i hi => ?_⟩
    obtain ⟨v, hv, _⟩ := hc i hi
    show _ = some ((w.cell? ⟨b, o + i, none⟩).getD undef)
    rw [hv]; rfl
  · intro i hi
    obtain ⟨b, o, rfl, hB, hc⟩ := key (by omega)
    obtain ⟨v, hv, h1⟩ := hc i hi
    show ((w.cell? ⟨b, o + i, none⟩).getD undef).oneCell' = true
    rw [hv]; exact h1
theorem _root_.Cs.RdK.less {w : World} {D D' B : Nat} {A : Option Addr} {n : Nat} {f : Nat → Value} (h : RdK w D B A n f) (hD : D' ≤ D) : RdK w D' B A n f := fun hn => by
  obtain ⟨b, o, e, hb, hB, hc⟩ := h hn
  exact ⟨b, o, e, by omega, hB, hc⟩
theorem pairSet2 {w : World} {g : Nat} {t : TypeId} {f : Nat → Value} {N : Nt} {A : Option Addr} {c : Nat} (h : w.rowIs g t 2 f) : ((w.setCell ⟨g, 0, none⟩ (.int .i64 N.n)).setCell ⟨g, 1, none⟩ (.slice A N.l.length c)).rowIs g t 2 (ntF N A c) :=
  ((h.set 0 _).set 1 _).congr fun i hi => by
    have : i = 0 ∨ i = 1 := by omega
    rcases this with rfl | rfl <;> rfl
theorem slim_at {l : List Nd} (h : slim l = true) {k : Nat} (hk : k < l.length) : l[k].ins.length ≤ 1000000000000 := by
  unfold slim at h
  rw [List.all_eq_true] at h
  have := h l[k] (List.getElem_mem hk)
  simp only [decide_eq_true_eq] at this
  omega
theorem KpSt.net {w wr : World} {N : Nt} {A A' : Option Addr} {c' g4 : Nat} (h : KpSt w wr N A' c' g4 N.l.length) (hN : NtAt w w.heap.size A N.l) : NtK wr w.heap.size wr.heap.size A' N.l := fun hn => by
  obtain ⟨g, F, rfl, hg, _, hc, hr, hnd⟩ := h.nodes hn
  obtain ⟨b0, o0, _, _, hcs⟩ := hN hn
  refine ⟨g, 0, rfl, hg, hr.lt, fun i hi => ?_⟩
  obtain ⟨h1, h2, A1, c1, h3, h4, _⟩ := hnd i hi
  obtain ⟨_, _, _, k1, k2, k3, k4⟩ := hcs i hi
  refine ⟨?_, ?_, ⟨A1, c1, ?_, (h4 hi).less (by omega)⟩, k1, k2, k3, k4⟩
  · rw [Nat.zero_add, hr.cell (by omega), h1]
  · rw [Nat.zero_add, hr.cell (by omega), h2]
  · rw [Nat.zero_add, hr.cell (by omega), h3]
theorem KpSt.next {w wr w5 : World} {N : Nt} {c' g4 k g : Nat} {F : Nat → Value} {A2 : Option Addr} {c2 : Nat} (hk : k < N.l.length) (h : KpSt w wr N (some ⟨g, 0, none⟩) c' g4 k) (hg4 : w.heap.size ≤ g4) (hg : w.heap.size ≤ g) (hne : g ≠ g4) (hc : N.l.length ≤ c')
    (hr : wr.rowIs g 41 (c' * 3) F) (hnd : ∀ i (h : i < N.l.length), NdHalf wr w w.heap.size g F N.l[i] i k) (hb : Below wr.heap.size wr w5) (hrd : RdK w5 wr.heap.size w5.heap.size A2 N.l[k].ins.length (intF N.l[k].ins)) :
    KpSt w (w5.setCell ⟨g, k * 3 + 2, none⟩ (.slice A2 N.l[k].ins.length c2)) N (some ⟨g, 0, none⟩) c' g4 (k + 1) := by
  have hlt := hr.lt
  have hz := hb.size
  have hag : ∀ b, g + 1 ≤ b → (w5.setCell ⟨g, k * 3 + 2, none⟩ (.slice A2 N.l[k].ins.length c2)).heap[b]? = w5.heap[b]? := fun b hb' => Below.heap_setCell w5 ⟨g, k * 3 + 2, none⟩ _ b (by intro e; simp at e; omega)
  refine ⟨(rowBelow h.box hb).setOther (Ne.symm hne) _, fun _ => ⟨g, fun j => if j = k * 3 + 2 then .slice A2 N.l[k].ins.length c2 else F j, rfl, hg, hne, hc, ((rowBelow hr hb).set (k * 3 + 2) _).congr fun i _ => rfl, fun i hi => ?_⟩, (Cs.Below.trans' h.bl hb h.bl.size).setCell hg _⟩
  obtain ⟨h1, h2, A1, c1, h3, h4, h5⟩ := hnd i hi
  by_cases hik : i = k
  · subst hik
    refine ⟨?_, ?_, A2, c2, ?_, fun _ => ?_, fun hh => absurd hh (by omega)⟩
    · show (if i * 3 = i * 3 + 2 then _ else _) = _
      rw [if_neg (by omega)]; exact h1
    · show (if i * 3 + 1 = i * 3 + 2 then _ else _) = _
      rw [if_neg (by omega)]; exact h2
    · show (if i * 3 + 2 = i * 3 + 2 then _ else _) = _
      rw [if_pos rfl]
    · rw [size_setCell]
      exact (hrd.less (by omega)).agree fun b hb1 _ => hag b hb1
  · refine ⟨?_, ?_, A1, c1, ?_, fun hh => ?_, fun hh => h5 (by omega)⟩
    · show (if i * 3 = k * 3 + 2 then _ else _) = _
      rw [if_neg (by omega)]; exact h1
    · show (if i * 3 + 1 = k * 3 + 2 then _ else _) = _
      rw [if_neg (by omega)]; exact h2
    · show (if i * 3 + 2 = k * 3 + 2 then _ else _) = _
      rw [if_neg (by omega)]; exact h3
    · rw [size_setCell]
      exact (((h4 (by omega)).below hb).more hz).agree fun b hb1 _ => hag b hb1
theorem wkNew {w wr w6 : World} {N : Nt} {gl q : Nat} {A' : Option Addr} {c' : Nat} (hbl : Below w.heap.size w wr) (hgl : wr.heap.size ≤ gl) (hq : wr.heap.size ≤ q) (hls : LsAt w6 N A' c' gl q) (hb6 : Below wr.heap.size wr w6) (hnk : NtK wr w.heap.size wr.heap.size A' N.l) :
    WkLies (w6.alloc (.cells #[.pointer (some ⟨gl, 0, none⟩), .int .u64 0, .int .u64 0, .bool false, .bool false, .int .i64 0] 67)) N w.heap.size w6.heap.size gl q A' c' ⟨0, false, false⟩ 0 := by
  have h1 := hbl.size
  have h2 := hb6.size
  have hb7 : Below w6.heap.size w6 (w6.alloc (.cells #[.pointer (some ⟨gl, 0, none⟩), .int .u64 0, .int .u64 0, .bool false, .bool false, .int .i64 0] 67)) := (Below.refl _ _).alloc (Nat.le_refl _) _
  refine ⟨?_, ((hnk.below hb6).more h2).below hb7, hls.below hb7, ⟨by omega, by omega, by omega⟩, hls.row.lt, hls.sets.lt⟩
  refine World.rowIs_alloc w6 _ 67 _ fun i hi => ?_
  have hi' : i < 6 := hi
  have : i = 0 ∨ i = 1 ∨ i = 2 ∨ i = 3 ∨ i = 4 ∨ i = 5 := by omega
  rcases this with rfl | rfl | rfl | rfl | rfl | rfl <;> rfl
set_option maxRecDepth 100000 in
set_option maxHeartbeats 1000000 in
theorem new_any (w : World) (N : Nt) (A : Option Addr) (c : Nat) (hlen : N.l.length ≤ 1000000) (hsl : slim N.l = true) (hN : NtAt w w.heap.size A N.l) :
    Calls Tryd.prog 28 #[ntV N A c] w (NewP w N) := by
  have hcl : ∀ W, Below w.heap.size w W → Calls Tryd.prog 57 #[.slice A N.l.length c] W (ClnN W N.l.length (cellF w A)) := fun W hb => cloneNodes_any W A c N.l.length _ (by omega) (cellF_rd hN).2 (((cellF_rd hN).1.below hb).more hb.size)
  have HCL := Lib.hid hcl
  have hbx := ntNew w N A c 24 _ rfl
  have hbl : Below w.heap.size w (w.alloc (.cells #[.int .i64 N.n, .slice A N.l.length c] 24)) := (Below.refl _ _).alloc (Nat.le_refl _) _
  clear hcl
  go_enter Tryd.func28, Tryd.ntmps28
  go_wp2_with fail
  have hbl1 : Below w.heap.size w (w.alloc (.cells #[.int .i64 N.n, .slice A N.l.length c] 24)).drew := belowDrewN hbl 1
  have hbl2 : Below w.heap.size w ((w.alloc (.cells #[.int .i64 N.n, .slice A N.l.length c] 24)).alloc (.cells #[.int .i64 0, .slice none 0 0] 24)).drew := belowDrewN (hbl.alloc hbl.size _) 1
  go_cut [4] from 8 to 13 (fun p wx => ∃ g4 A' c', p = .pointer (some ⟨g4, 0, none⟩) ∧ w.heap.size ≤ g4 ∧ wx.rowIs g4 24 2 (ntF N A' c') ∧ (0 < N.l.length → ∃ g F, A' = some ⟨g, 0, none⟩ ∧ w.heap.size ≤ g ∧ g ≠ g4 ∧ N.l.length ≤ c' ∧ wx.rowIs g 41 (c' * 3) F ∧ ∀ i, i < N.l.length * 3 → F i = cellF w A i) ∧ Below w.heap.size w wx)
  case first =>
    have q1 := hbx.drew
    obtain ⟨c1, c2⟩ := ntCells q1
    go_region_held3 (fun w' => w'.cell? ⟨w.heap.size, 0, none⟩ = some (.int .i64 N.n) ∧ w'.cell? ⟨w.heap.size, 1, none⟩ = some (.slice A N.l.length c))
      (first | exact ⟨c1, c2⟩ | go_keep)
      (first
        | (go_simp
           go_at_call 57
           (with_reducible first | refine (HCL.out _ hbl1).mono ?_)
           rintro e w5 ⟨A', c', rfl, hcl, hb5⟩
           have q5 := rowBelow q1 hb5
           have hbl5 := Cs.Below.trans' hbl1 hb5 hbl1.size
           obtain ⟨c1, c2⟩ := ntCells q5)
        | (go_simp
           go_at_call 57
           (with_reducible first | refine (HCL.out _ hbl2).mono ?_)
           rintro e w5 ⟨A', c', rfl, hcl, hb5⟩
           have q5 := rowBelow (hbx.alloc _).drew hb5
           have q6 := rowBelow (pairNew (w.alloc (.cells #[.int .i64 N.n, .slice A N.l.length c] 24)) (.int .i64 0) (.slice none 0 0) 24 (w.heap.size + 1) (by simp)).drew hb5
           have c3 := q6.cell (i := 0) (by decide)
           have c4 := q6.cell (i := 1) (by decide)
           have c5 := q6.frozen 0
           have c6 := q6.frozen 1
           have hbl5 := Cs.Below.trans' hbl2 hb5 hbl2.size
           obtain ⟨c1, c2⟩ := ntCells q5))
    all_goals
      try go_wp2
      go_meet
      case rel =>
        first
          | (refine ⟨w5.heap.size, A', c', rfl, by have := hbl5.size; omega, ntNew _ N A' c' _ _ rfl, fun h0 => ?_, hbl5.alloc hbl5.size _⟩
             obtain ⟨g, F, rfl, hg, hc, hr, hF⟩ := hcl h0
             refine ⟨g, F, rfl, ?_, Nat.ne_of_lt hr.lt, hc, hr.alloc _, hF⟩
             have := hbl1.size
             omega)
          | (have hz5 := hb5.size
             have hz1 := hbl5.size
             simp at hz5
             refine ⟨w.heap.size + 1, A', c', rfl, by omega, ?_, fun h0 => ?_, (hbl5.setCell (by simp) _).setCell (by simp) _⟩
             · exact pairSet2 q6
             · obtain ⟨g, F, rfl, hg, hc, hr, hF⟩ := hcl h0
               simp at hg
               refine ⟨g, F, rfl, by omega, by omega, hc, (hr.setOther (by simp; omega) _).setOther (by simp; omega) _, hF⟩)
  case rest =>
    obtain ⟨g4, A', c', rfl, hg4, hbox, hnodes, hbl⟩ := hcut
    have hkp : KpSt w _ N A' c' g4 0 := ⟨hbox, fun h0 => (let ⟨g, F, e, h1, h2, h3, h4, h5⟩ := hnodes h0; ⟨g, F, e, h1, h2, h3, h4, fun i hi => cellF_half hN F h5 i hi⟩), hbl⟩
    obtain ⟨c1, c2⟩ := ntCells hbox
    clear hbox hnodes hbl hbx hbl1 hbl2 HCL
    go_wp2
    go_loopw [17] (fun t wr => ∃ k : Nat, k ≤ N.l.length ∧ t = .int .i64 k ∧ KpSt w wr N A' c' g4 k) (fun t _ => N.l.length - (intOf t).toNat)
    case atStart => exact ⟨0, by omega, rfl, hkp⟩
    case round =>
      clear hkp c1 c2
      obtain ⟨k, hk, rfl, hkp⟩ := hrel
      obtain ⟨c1, c2⟩ := ntCells hkp.box
      by_cases hlt : k < N.l.length
      · obtain ⟨g, F, rfl, hg, hne, hcc, hr, hnd⟩ := hkp.nodes (by omega)
        obtain ⟨n1, n2, A1, cA, n3, _, n4⟩ := hnd k hlt
        have n5 := n4 (Nat.le_refl _)
        have hc3 := hr.cell (i := k * 3 + 2) (by omega)
        rw [n3] at hc3
        have hf3 := hr.frozen (k * 3 + 2)
        have hnx := fun w5 A2 c2 hb hrd => KpSt.next (w5 := w5) (A2 := A2) (c2 := c2) hlt hkp hg4 hg hne hcc hr hnd hb hrd
        have hcl : ∀ W, Below wr.heap.size wr W → Calls Tryd.prog 58 #[.slice A1 N.l[k].ins.length cA] W (ClnI W N.l[k].ins) := fun W hb => cloneInts_any W A1 cA _ (slim_at hsl hlt) ((n5.below (hkp.bl.trans (hb.mono hkp.bl.size))).more (Nat.le_trans hkp.bl.size hb.size))
        obtain ⟨xs, hxs⟩ : ∃ xs, N.l[k].ins = xs := ⟨_, rfl⟩
        rw [hxs] at hc3
        simp only [hxs] at hcl hnx
        have HCL := Lib.hid hcl
        have HNX := Lib.hid hnx
        have hbd := hkp.bl
        have hrl := hr.lt
        have hrb := hkp.box.lt
        clear hnd n1 n2 n3 n4 n5 hxs hcl hnx hkp
        have hbd1 : Below wr.heap.size wr wr.drew := belowDrewN (Below.refl _ _) 1
        go_wp2_with fail
        go_region_law (
          go_simp
          go_at_call 58
          (with_reducible refine (HCL.out _ hbd1).mono ?_)
          rintro e w5 ⟨A2, c2', rfl, hrd, hb5⟩
          have hc5 : w5.cell? ⟨g, k * 3 + 2, none⟩ = some (.slice A1 xs.length cA) := below_cell hb5 hrl hc3
          have hf5 := (rowBelow hr.drew hb5).frozen (k * 3 + 2)
          have cb5 := below_cell hb5 hrb c1
          have cc5 := below_cell hb5 hrb c2)
        all_goals
          try go_wp2
          go_roundw
          case rel => exact ⟨k + 1, by omega, by go_num, HNX.out w5 A2 c2' (Cs.Below.trans' hbd1 hb5 hbd1.size) hrd⟩
          case measure => simp [intOf]; omega
      · obtain rfl : k = N.l.length := by omega
        have hnk := hkp.net hN
        have hbl := hkp.bl
        have hnt : NtAt wr wr.heap.size A' N.l := hnk.nt
        clear hkp
        by_cases he : lerr N 0 = 0
        · have hnl := newLister_fine wr N A' c' 0 (by omega) hnt isSet_zero he
          have HNL : Hid (Calls Tryd.prog 37 #[ntV N A' c', .agg #[.int .u64 0, .int .u64 0]] wr fun e w' => ∃ g q, e = .returned (.tuple #[.pointer (some ⟨g, 0, none⟩), .int .i64 0]) ∧ wr.heap.size ≤ g ∧ wr.heap.size ≤ q ∧ LsAt w' N A' c' g q ∧ Below wr.heap.size wr w') := Lib.hid hnl
          have HE := Lib.hid he
          clear hnl he
          go_wp2_with fail
          refine HNL.out.mono ?_
          rintro e w6 ⟨gl, q, rfl, hgl, hq, hls, hb6⟩
          go_wp2
          go_ret2
          exact .inl ⟨HE.out, w6.heap.size, gl, q, A', c', rfl, wkNew hbl hgl hq hls hb6 hnk, (Cs.Below.trans' hbl hb6 hbl.size).alloc (Nat.le_trans hbl.size hb6.size) _⟩
        · have hnl := newLister_err wr N A' c' 0 (by omega) hnt isSet_zero he
          obtain ⟨E, hE⟩ : ∃ E, lerr N 0 = E := ⟨_, rfl⟩
          rw [hE] at hnl
          have HNL : Hid (Calls Tryd.prog 37 #[ntV N A' c', .agg #[.int .u64 0, .int .u64 0]] wr fun e w' => e = .returned (.tuple #[.pointer none, .int .i64 E]) ∧ Below wr.heap.size wr w') := Lib.hid hnl
          have HE := Lib.hid he
          have HEE := Lib.hid hE
          have hb1 : (E != 0) = true := bne_iff_ne.2 (by rw [← hE]; exact he)
          clear hnl he hE
          go_wp2_with fail
          refine HNL.out.mono ?_
          rintro e w6 ⟨rfl, hb6⟩
          go_wp2
          go_ret2
          exact .inr ⟨HE.out, by rw [HEE.out]; try rfl, Cs.Below.trans' hbl hb6 hbl.size⟩
end Go.Proofs.YtemgfhdgpkmmaaaDoor
