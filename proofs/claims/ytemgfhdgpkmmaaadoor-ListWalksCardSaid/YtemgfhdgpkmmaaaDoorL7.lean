/- The walk of turns, its parts. -/
import Derived.Test.YtemgfhdgpkmmaaaDoorL6
set_option linter.unusedSimpArgs false
set_option linter.unusedVariables false
open Go Go.RowKit Cs
namespace Cs
theorem scan_same {α : Type} (f : List α → Nd → α) (d : α) (l : List Nd) (k j : Nat) (hj : j < k) (hk : k ≤ l.length) : (scan f [] (l.take k)).getD j d = (scan f [] l).getD j d := by
  have h1 := scan_at f d l j (by omega)
  have h2 := scan_at f d (l.take k) j (by rw [List.length_take]; omega)
  rw [h1, h2, List.take_take, Nat.min_eq_left (by omega), List.getElem_take]
theorem tns_far {N : Nt} (hv : vld N = true) (hd : dcmp N = true) (a k j : Nat) (hj : j < k) (hk : k ≤ N.l.length) : ((scan (tnStep (own N.l) a) [] (N.l.take k)).getD j ⟨0, 0⟩).far ≤ 129 := by
  rw [scan_same _ _ N.l k j hj hk]
  exact (tns_trn hv hd a N.l.length j (by omega) (by omega)).le
theorem litOk_split {l n : Int} (h : litOk l n = true) : ∃ m : Nat, 1 ≤ m ∧ m ≤ 128 ∧ (l = (m : Int) ∨ l = -(m : Int)) := by
  rcases litOk_rng' h with h1 | h1
  · exact ⟨l.toNat, by omega, by omega, .inl (by omega)⟩
  · exact ⟨(-l).toNat, by omega, by omega, .inr (by omega)⟩
theorem litVar_nat (m : Nat) (h : m ≤ 128) : litVar (m : Int) = (m : Int) ∧ litVar (-(m : Int)) = (m : Int) := by
  unfold litVar; constructor <;> (repeat' split) <;> omega
end Cs
namespace Go.Proofs.YtemgfhdgpkmmaaaDoor
/-- What lies in memory ahead of a round of turns. -/
structure TsR (w : World) (N : Nt) (A : Option Addr) (c g q a : Nat) (L : List Tn) (wr : World) : Prop where
  ls : wr.rowIs g 96 3 (lsF N A c q)
  own : wr.rowIs q 27 (N.l.length * 2) (setsF (Cs.own N.l))
  a : wr.rowIs w.heap.size 27 2 (setF a)
  r : wr.rowIs (w.heap.size + 1) 27 2 (setF 0)
  out : wr.rowIs (w.heap.size + 1 + 1) 133 (N.l.length * 3) (tnsF L)
  bl : Below w.heap.size w wr
section
variable {w wr w' : World} {N : Nt} {A : Option Addr} {c g q a : Nat} {L : List Tn} {T : Tn}
theorem TsR.below (h : TsR w N A c g q a L wr) (hb : Below wr.heap.size wr w') : TsR w N A c g q a L w' := ⟨rowBelow h.ls hb, rowBelow h.own hb, rowBelow h.a hb, rowBelow h.r hb, rowBelow h.out hb, Cs.Below.trans' h.bl hb h.bl.size⟩
theorem TsR.drew (h : TsR w N A c g q a L wr) : TsR w N A c g q a L wr.drew := h.below (belowDrewN (Below.refl _ _) 1)
theorem TsR.alloc (h : TsR w N A c g q a L wr) (o : Obj) : TsR w N A c g q a L (wr.alloc o) := h.below ((Below.refl _ _).alloc (Nat.le_refl _) _)
theorem TsR.start (h : TsR w N A c g q a L wr) : TsR w N A c g q a (L ++ [⟨0, 0⟩]) wr := ⟨h.ls, h.own, h.a, h.r, tnsStart h.out, h.bl⟩
theorem TsR.far (h : TsR w N A c g q a (L ++ [T]) wr) (hg : g < w.heap.size) (hq : q < w.heap.size) (f j : Nat) (hj : j = L.length) : TsR w N A c g q a (L ++ [⟨T.set, f⟩]) (wr.setCell ⟨w.heap.size + 1 + 1, j * 3 + 2, none⟩ (.int .i64 (f : Int))) :=
  ⟨h.ls.setOther (by simp; omega) _, h.own.setOther (by simp; omega) _, h.a.setOther (by simp; omega) _, h.r.setOther (by simp) _, tnsFar h.out f j hj, h.bl.setCell (by simp; omega) _⟩
theorem TsR.set (h : TsR w N A c g q a (L ++ [T]) wr) (hg : g < w.heap.size) (hq : q < w.heap.size) (s j : Nat) (hj : j = L.length) : TsR w N A c g q a (L ++ [⟨s, T.far⟩]) ((wr.setCell ⟨w.heap.size + 1 + 1, j * 3, none⟩ (.int .u64 (lo s : Int))).setCell ⟨w.heap.size + 1 + 1, j * 3 + 1, none⟩ (.int .u64 (hi s : Int))) :=
  ⟨(h.ls.setOther (by simp; omega) _).setOther (by simp; omega) _, (h.own.setOther (by simp; omega) _).setOther (by simp; omega) _, (h.a.setOther (by simp; omega) _).setOther (by simp; omega) _, (h.r.setOther (by simp) _).setOther (by simp) _, tnsSet h.out s j hj, (h.bl.setCell (by simp; omega) _).setCell (by simp; omega) _⟩
theorem lsCells (h : wr.rowIs g 96 3 (lsF N A c q)) : wr.cell? ⟨g, 0, none⟩ = some (.int .i64 N.n) ∧ wr.cell? ⟨g, 1, none⟩ = some (.slice A N.l.length c) ∧ wr.cell? ⟨g, 2, none⟩ = some (.slice (some ⟨q, 0, none⟩) N.l.length N.l.length) :=
  ⟨h.cell (i := 0) (by omega), h.cell (i := 1) (by omega), h.cell (i := 2) (by omega)⟩
theorem tnsAt (h : wr.rowIs g 133 (N.l.length * 3) (tnsF (L ++ [T]))) (k : Nat) (hk : k < N.l.length) (hL : L.length = k) :
    wr.cell? ⟨g, k * 3, none⟩ = some (.int .u64 (lo T.set : Int)) ∧ wr.cell? ⟨g, k * 3 + 1, none⟩ = some (.int .u64 (hi T.set : Int)) ∧ wr.cell? ⟨g, k * 3 + 2, none⟩ = some (.int .i64 (T.far : Int)) ∧ wr.frozen? ⟨g, k * 3, none⟩ = false ∧ wr.frozen? ⟨g, k * 3 + 1, none⟩ = false ∧ wr.frozen? ⟨g, k * 3 + 2, none⟩ = false := by
  obtain ⟨h1, h2, h3⟩ := tnsCells h k (by omega) T (by rw [getD_snocT, if_pos hL.symm])
  exact ⟨h1, h2, h3, h.frozen _, h.frozen _, h.frozen _⟩
theorem TsR.two (h : TsR w N A c g q a (L ++ [T]) wr) (k : Nat) (hk : k < N.l.length) (hL : L.length = k) (j : Nat) (hj : j < k) (R : Tn) (hR : L.getD j ⟨0, 0⟩ = R) {Ok Oj : Nat} (hOk : (Cs.own N.l).getD k 0 = Ok) (hOj : (Cs.own N.l).getD j 0 = Oj) :
    wr.cell? ⟨w.heap.size + 1 + 1, k * 3, none⟩ = some (.int .u64 (lo T.set : Int)) ∧ wr.cell? ⟨w.heap.size + 1 + 1, k * 3 + 1, none⟩ = some (.int .u64 (hi T.set : Int)) ∧ wr.cell? ⟨w.heap.size + 1 + 1, k * 3 + 2, none⟩ = some (.int .i64 (T.far : Int)) ∧
    wr.cell? ⟨w.heap.size + 1 + 1, j * 3, none⟩ = some (.int .u64 (lo R.set : Int)) ∧ wr.cell? ⟨w.heap.size + 1 + 1, j * 3 + 1, none⟩ = some (.int .u64 (hi R.set : Int)) ∧ wr.cell? ⟨w.heap.size + 1 + 1, j * 3 + 2, none⟩ = some (.int .i64 (R.far : Int)) ∧
    wr.cell? ⟨g, 2, none⟩ = some (.slice (some ⟨q, 0, none⟩) N.l.length N.l.length) ∧ wr.cell? ⟨q, k * 2, none⟩ = some (.int .u64 (lo Ok : Int)) ∧ wr.cell? ⟨q, k * 2 + 1, none⟩ = some (.int .u64 (hi Ok : Int)) ∧ wr.cell? ⟨q, j * 2, none⟩ = some (.int .u64 (lo Oj : Int)) ∧ wr.cell? ⟨q, j * 2 + 1, none⟩ = some (.int .u64 (hi Oj : Int)) ∧
    wr.frozen? ⟨w.heap.size + 1 + 1, k * 3, none⟩ = false ∧ wr.frozen? ⟨w.heap.size + 1 + 1, k * 3 + 1, none⟩ = false ∧ wr.frozen? ⟨w.heap.size + 1 + 1, k * 3 + 2, none⟩ = false := by
  subst hOk; subst hOj
  obtain ⟨p1, p2, p3, p4, p5, p6⟩ := tnsAt (L := L) h.out k hk hL
  obtain ⟨r1, r2, r3⟩ := tnsCells h.out j (by omega) R (by rw [getD_snocT, if_neg (by omega)]; exact hR)
  obtain ⟨s1, s2, _, _⟩ := setsCells h.own k (by omega)
  obtain ⟨s3, s4, _, _⟩ := setsCells h.own j (by omega)
  exact ⟨p1, p2, p3, r1, r2, r3, (lsCells h.ls).2.2, s1, s2, s3, s4, p4, p5, p6⟩
theorem TsR.put (h : TsR w N A c g q a L wr) (hg : g < w.heap.size) (hq : q < w.heap.size) (T : Tn) (j : Nat) (hj : j = L.length) : TsR w N A c g q a (L ++ [T]) (((wr.setCell ⟨w.heap.size + 1 + 1, j * 3, none⟩ (.int .u64 (lo T.set : Int))).setCell ⟨w.heap.size + 1 + 1, j * 3 + 1, none⟩ (.int .u64 (hi T.set : Int))).setCell ⟨w.heap.size + 1 + 1, j * 3 + 2, none⟩ (.int .i64 (T.far : Int))) :=
  (h.start.set hg hq T.set j hj).far hg hq T.far j hj
end
/-- vars.Of of one variable. -/
theorem of_one (W : World) (v : Int) : Calls Tryd.prog 74 #[.slice (some ⟨W.heap.size, 0, none⟩) 1 1] (W.alloc (.cells #[.int .i64 v] 3)) fun e w' => e = .returned (setV (wth 0 v)) ∧ Below (W.heap.size + 1) (W.alloc (.cells #[.int .i64 v] 3)) w' := by
  have h := of_list (W.alloc (.cells #[.int .i64 v] 3)) (some ⟨W.heap.size, 0, none⟩) 1 [v] (by simp) (fun _ => ⟨W.heap.size, 0, rfl, by simp, fun i hi => by
    have : i = 0 := by simp at hi; omega
    subst this
    exact boxCell (boxNew W (.int .i64 v) _ _ rfl)⟩)
  rw [show (W.alloc (.cells #[.int .i64 v] 3)).heap.size = W.heap.size + 1 by simp] at h
  exact h
set_option maxRecDepth 100000 in
set_option maxHeartbeats 4000000 in
theorem turns_any (w : World) (N : Nt) (A : Option Addr) (c g q a : Nat) (hl : LsAt w N A c g q) (hN : NtAt w w.heap.size A N.l) (hv : vld N = true) (hd : dcmp N = true) :
    Calls Tryd.prog 71 #[.pointer (some ⟨g, 0, none⟩), setV a] w fun e w' => e = .returned (setV (turnsN N a)) ∧ Below w.heap.size w w' := by
  obtain ⟨hn0, hn1, hl0, hl1⟩ := vld_bounds hv
  have hfm := fun k hk => vld_formed hv k hk
  have hfar := fun k j h1 h2 => tns_far hv hd a k j h1 h2
  have hend : turnsN N a = (if ((tns N a).getD (N.l.length - 1) ⟨0, 0⟩).far = 0 then 0 else tnWide a ((tns N a).getD (N.l.length - 1) ⟨0, 0⟩) (allTo N.n) ((Cs.own N.l).getD (N.l.length - 1) 0)) := rfl
  obtain ⟨TN, hTN⟩ : ∃ t, turnsN N a = t := ⟨_, rfl⟩
  rw [hTN] at hend ⊢
  have HEND := Lib.hid hend
  have HF := Lib.hid hfm
  have HFAR := Lib.hid hfar
  have hgl := hl.row.lt
  have hql := hl.sets.lt
  have hmk := mk_turn N.l.length (by omega)
  have hq0 : TsR w N A c g q a [] (((w.alloc (.cells #[.int .u64 (lo a : Int), .int .u64 (hi a : Int)] 27)).alloc (.cells #[.int .u64 0, .int .u64 0] 27)).alloc (.cells (madeCells #[.int .u64 0, .int .u64 0, .int .i64 0] (N.l.length * 3)) 133)) :=
    ⟨((hl.row.alloc _).alloc _).alloc _, ((hl.sets.alloc _).alloc _).alloc _, ((setNew w a _ _ rfl).alloc _).alloc _, (setZero _ _ _ (by simp)).alloc _, tnsMade _ _ _ _ (by simp), (((Below.refl _ _).alloc (Nat.le_refl _) _).alloc (by simp) _).alloc (by simp; omega) _⟩
  have HQ0 := Lib.hid hq0
  obtain ⟨c1, c2, c3⟩ := lsCells hl.row
  obtain ⟨d1, d2, d3⟩ := lsCells hq0.ls
  clear hend hfm hfar hq0 hl
  go_enter Tryd.func71, Tryd.ntmps71
  go_wp2
  go_loopw [27] (fun t wr => ∃ k : Nat, k ≤ N.l.length ∧ t = .int .i64 k ∧ TsR w N A c g q a (scan (tnStep (own N.l) a) [] (N.l.take k)) wr) (fun t _ => N.l.length - (intOf t).toNat)
  case atStart => exact ⟨0, by omega, rfl, HQ0.out⟩
  case round =>
    clear HQ0 c1 c2 c3 d1 d2 d3 hmk
    obtain ⟨k, hk, rfl, hE⟩ := hrel
    by_cases hlt : k < N.l.length
    · obtain ⟨b, o, rfl, hbB, hcs⟩ := hN (by omega)
      have hnd := hcs k hlt
      clear hcs
      have ht := scan_take (tnStep (own N.l) a) N.l k hlt
      have hfk := HF.out k hlt
      have hfr := fun j hj => HFAR.out k j hj hk
      obtain ⟨x, hx⟩ : ∃ x, N.l[k] = x := ⟨_, rfl⟩
      rw [hx] at hnd ht hfk
      have hks := formed_kinds hfk
      have hmem := formed_mem hfk
      have hlo := fun h2 => formed_litOk hfk h2
      have hLl := scan_len (tnStep (own N.l) a) N.l k hk
      have hnil : x.kind ≠ 3 → x.kind ≠ 4 → x.ins = [] := fun h3 h4 => by
        rcases formed_kind hfk with ⟨_, h⟩ | h | h
        · exact List.length_eq_zero_iff.1 h
        · exact absurd h h3
        · exact absurd h h4
      obtain ⟨L, hL⟩ : ∃ L, scan (tnStep (own N.l) a) [] (N.l.take k) = L := ⟨_, rfl⟩
      rw [hL] at hE ht hLl
      simp only [hL] at hfr
      obtain ⟨kd, lt, ins⟩ := x
      simp only at hks hmem hlo hnil
      obtain ⟨hk1, hk2, ⟨A', c', hk3, hrd⟩, hr1, hr2, hr3, hr4⟩ := hnd
      simp only at hk1 hk2 hk3 hrd hr1 hr2 hr3 hr4
      replace hk1 := below_cell hE.bl hbB hk1
      replace hk2 := below_cell hE.bl hbB hk2
      replace hk3 := below_cell hE.bl hbB hk3
      have HRD := Lib.hid ((hrd.below hE.bl).more hE.bl.size)
      have HRW := Lib.hid hrd
      have HFR := Lib.hid hfr
      have HMEM := Lib.hid hmem
      have HT := Lib.hid ht
      have HLO := Lib.hid hlo
      have HNIL := Lib.hid hnil
      have HLL := Lib.hid hLl
      have hi0 : (0 : Int) ≤ (k : Int) := by omega
      have hi1 : (k : Int) < (N.l.length : Int) := by omega
      obtain ⟨s1, s2, s3⟩ := lsCells hE.ls
      obtain ⟨o1, o2, o3, o4, o5, o6⟩ := tnsAt (L := L) hE.start.out k hlt hLl
      have hQ := hE.out.lt
      clear hfr hmem ht hlo hnil hLl hrd hx hL hfk hr1 hr3
      rcases hks with rfl | rfl | rfl | rfl | rfl
      · have hst : tnStep (own N.l) a L ⟨0, lt, ins⟩ = ⟨0, 0⟩ := by rw [HNIL.out (by decide) (by decide)]; rfl
        have hnx := HT.out
        rw [hst] at hnx
        have HNX := Lib.hid hnx
        have HX := Lib.hid (hE.alloc (.cells #[.int .i64 0, .int .i64 lt, .slice A' ins.length c'] 41)).start
        clear hst hnx hE
        go_wp2
        go_roundw
        case rel => exact ⟨k + 1, by omega, by go_num, by rw [HNX.out]; exact HX.out⟩
        case measure => simp [intOf]; omega
      · have hst : tnStep (own N.l) a L ⟨1, lt, ins⟩ = ⟨0, 129⟩ := by rw [HNIL.out (by decide) (by decide)]; rfl
        have hnx := HT.out
        rw [hst] at hnx
        have HNX := Lib.hid hnx
        have HX := Lib.hid ((hE.start.far hgl hql 129 k HLL.out.symm).alloc (.cells #[.int .i64 1, .int .i64 lt, .slice A' ins.length c'] 41))
        clear hst hnx hE
        go_wp2
        go_roundw
        case rel => exact ⟨k + 1, by omega, by go_num, by rw [HNX.out]; exact HX.out⟩
        case measure => simp [intOf]; omega
      · obtain ⟨hlit, hin⟩ := HLO.out rfl
        obtain ⟨m, hm1, hm2, hlt2⟩ := litOk_split hlit
        have hm128 := hm2
        have hha := fun W => has_any W a (m : Int)
        obtain ⟨B, hB⟩ : ∃ B, has a (m : Int) = B := ⟨_, rfl⟩
        simp only [hB] at hha
        obtain ⟨hv1, hv2⟩ := litVar_nat m (by omega)
        have HHA := Lib.hid hha
        rcases hlt2 with rfl | rfl
        · have hst : tnStep (own N.l) a L ⟨2, (m : Int), ins⟩ = if B = true then ⟨0, 129⟩ else ⟨wth 0 (m : Int), m⟩ := by
            rw [hin]
            show tnStart a ⟨2, (m : Int), []⟩ = _
            unfold tnStart
            simp only [hv1, hB]
            rw [if_neg (by decide), if_pos trivial, decide_eq_true (show (0 : Int) < (m : Int) by omega), if_pos (show (0 : Int) < (m : Int) by omega), Int.toNat_natCast]
          have hp1 : max (m : Int) (-(m : Int)) = (m : Int) := by omega
          have hp2 : (0 : Int) < (m : Int) := by omega
          have hp5 : 0 < m := hm1
          have hnx := HT.out
          rw [hst] at hnx
          have HNX := Lib.hid hnx
          have hq := (hE.start.far hgl hql m k HLL.out.symm).alloc (.cells #[.int .i64 2, .int .i64 (m : Int), .slice A' ins.length c'] 41)
          have hnr := ndNew (wr.setCell ⟨w.heap.size + 1 + 1, k * 3 + 2, none⟩ (.int .i64 (m : Int))) ⟨2, (m : Int), ins⟩ A' c' 41 wr.heap.size (size_setCell _ _ _)
          have HQ := Lib.hid (And.intro hq hnr)
          clear hst hnx hq hnr hha hB hv1 hv2 hlit hin HLO HT hE
          go_wp2
          obtain ⟨q1, q2⟩ := HQ.out
          replace q1 := q1.drew
          replace q2 := q2.drew
          obtain ⟨n1, n2, n3⟩ := ndCells q2
          obtain ⟨a1, a2⟩ := cellsOf q1.a
          obtain ⟨p1, p2, p3, p4, p5, p6⟩ := tnsAt (L := L) q1.out k hlt HLL.out
          clear HQ
          first
            | go_region_held3 (fun w' => w'.cell? ⟨w.heap.size, 0, none⟩ = some (.int .u64 (lo a : Int)) ∧ w'.cell? ⟨w.heap.size, 1, none⟩ = some (.int .u64 (hi a : Int)) ∧ w'.cell? ⟨wr.heap.size, 1, none⟩ = some (.int .i64 (m : Int))) (first | exact ⟨a1, a2, n2⟩ | go_keep)
                (first
                  | (go_simp
                     go_at_call 75
                     (with_reducible refine (HHA.out _).mono ?_)
                     rintro e w5 ⟨rfl, hb5⟩
                     replace q1 := q1.below hb5
                     replace q2 := rowBelow q2 hb5
                     obtain ⟨n1, n2, n3⟩ := ndCells q2
                     obtain ⟨a1, a2⟩ := cellsOf q1.a
                     obtain ⟨p1, p2, p3, p4, p5, p6⟩ := tnsAt (L := L) q1.out k hlt HLL.out))
            | fail
          all_goals
            cases B
            · have HN2 := Lib.hid (HNX.out.trans (by rw [if_neg (by decide)]))
              go_wp2_with (go_at_call 74; (with_reducible refine (of_one _ (m : Int)).mono ?_); rintro e w7 ⟨rfl, hb7⟩; replace q1 := q1.below (((Below.refl _ _).alloc (Nat.le_refl _) _).trans (hb7.mono (by omega))); obtain ⟨p1, p2, p3, p4, p5, p6⟩ := tnsAt (L := L) q1.out k hlt HLL.out)
              go_roundw
              case rel => exact ⟨k + 1, by omega, by go_num, by rw [HN2.out]; exact q1.set hgl hql (wth 0 (m : Int)) k HLL.out.symm⟩
              case measure => simp [intOf]; omega
            · have HN2 := Lib.hid (HNX.out.trans (by rw [if_pos rfl]))
              go_wp2
              go_roundw
              case rel => exact ⟨k + 1, by omega, by go_num, by rw [HN2.out]; exact q1.far hgl hql 129 k HLL.out.symm⟩
              case measure => simp [intOf]; omega
        · have hst : tnStep (own N.l) a L ⟨2, -(m : Int), ins⟩ = if B = true then ⟨0, m⟩ else ⟨0, 129⟩ := by
            rw [hin]
            show tnStart a ⟨2, -(m : Int), []⟩ = _
            unfold tnStart
            simp only [hv2, hB]
            rw [if_neg (by decide), if_pos trivial, decide_eq_false (show ¬ (0 : Int) < -(m : Int) by omega), if_neg (show ¬ (0 : Int) < -(m : Int) by omega), Int.toNat_natCast]
            cases B <;> rfl
          have hp1 : max (-(m : Int)) (m : Int) = (m : Int) := by omega
          have hp2 : ¬ (0 : Int) < -(m : Int) := by omega
          have hp3 : (m : Int) ≤ 128 := by omega
          have hp4 : (0 : Int) ≤ (m : Int) := by omega
          have hnx := HT.out
          rw [hst] at hnx
          have HNX := Lib.hid hnx
          have hq := (hE.start.far hgl hql m k HLL.out.symm).alloc (.cells #[.int .i64 2, .int .i64 (-(m : Int)), .slice A' ins.length c'] 41)
          have hnr := ndNew (wr.setCell ⟨w.heap.size + 1 + 1, k * 3 + 2, none⟩ (.int .i64 (m : Int))) ⟨2, -(m : Int), ins⟩ A' c' 41 wr.heap.size (size_setCell _ _ _)
          have HQ := Lib.hid (And.intro hq hnr)
          clear hst hnx hq hnr hha hB hv1 hv2 hlit hin HLO HT hE
          go_wp2
          obtain ⟨q1, q2⟩ := HQ.out
          replace q1 := q1.drew
          replace q2 := q2.drew
          obtain ⟨n1, n2, n3⟩ := ndCells q2
          obtain ⟨a1, a2⟩ := cellsOf q1.a
          obtain ⟨p1, p2, p3, p4, p5, p6⟩ := tnsAt (L := L) q1.out k hlt HLL.out
          clear HQ
          first
            | go_region_held3 (fun w' => w'.cell? ⟨w.heap.size, 0, none⟩ = some (.int .u64 (lo a : Int)) ∧ w'.cell? ⟨w.heap.size, 1, none⟩ = some (.int .u64 (hi a : Int)) ∧ w'.cell? ⟨wr.heap.size, 1, none⟩ = some (.int .i64 (-(m : Int)))) (first | exact ⟨a1, a2, n2⟩ | go_keep)
                (first
                  | (go_simp
                     go_at_call 75
                     (with_reducible refine (HHA.out _).mono ?_)
                     rintro e w5 ⟨rfl, hb5⟩
                     replace q1 := q1.below hb5
                     replace q2 := rowBelow q2 hb5
                     obtain ⟨n1, n2, n3⟩ := ndCells q2
                     obtain ⟨a1, a2⟩ := cellsOf q1.a
                     obtain ⟨p1, p2, p3, p4, p5, p6⟩ := tnsAt (L := L) q1.out k hlt HLL.out))
            | fail
          all_goals
            cases B
            · have HN2 := Lib.hid (HNX.out.trans (by rw [if_neg (by decide)]))
              go_wp2
              go_roundw
              case rel => exact ⟨k + 1, by omega, by go_num, by rw [HN2.out]; exact q1.far hgl hql 129 k HLL.out.symm⟩
              case measure => simp [intOf]; omega
            · have HN2 := Lib.hid (HNX.out.trans (by rw [if_pos rfl]))
              go_wp2
              go_roundw
              case rel => exact ⟨k + 1, by omega, by go_num, by rw [HN2.out]; exact q1⟩
              case measure => simp [intOf]; omega
      · clear HLO HNIL
        have hst : tnStep (own N.l) a L ⟨3, lt, ins⟩ = tnAll L ins := rfl
        have hnx := HT.out
        rw [hst] at hnx
        have HNX := Lib.hid hnx
        have hq := hE.alloc (.cells #[.int .i64 3, .int .i64 lt, .slice A' ins.length c'] 41)
        have hnr := ndNew wr ⟨3, lt, ins⟩ A' c' 41 _ rfl
        have hra := HRD.out.alloc (Nat.le_refl _) (.cells #[.int .i64 3, .int .i64 lt, .slice A' ins.length c'] 41)
        have hal := all_list (wr.alloc (.cells #[.int .i64 3, .int .i64 lt, .slice A' ins.length c'] 41)) (w.heap.size + 1 + 1) N.l.length N.l.length L A' c' ins (by omega) hr4 hq.out (hra.more (by simp)) (fun j hj => let ⟨i, h1, h2⟩ := HMEM.out j hj; ⟨i, h1, by omega⟩)
        have HAL := Lib.hid hal
        have HQ := Lib.hid hq
        obtain ⟨T, hT⟩ : ∃ T, tnAll L ins = T := ⟨_, rfl⟩
        rw [hT] at HAL HNX
        clear hst hnx hq hnr hra hal hT hE HT
        go_wp2_with (go_at_call 99; (with_reducible refine HAL.out.mono ?_); rintro e w7 ⟨rfl, hb7⟩; have q1 := HQ.out.below hb7; obtain ⟨p1, p2, p3, p4, p5, p6⟩ := tnsAt (L := L) q1.start.out k hlt HLL.out)
        go_roundw
        case rel => exact ⟨k + 1, by omega, by go_num, by rw [HNX.out]; exact q1.put hgl hql T k HLL.out.symm⟩
        case measure => simp [intOf]; omega
      · clear HLO HNIL
        have hq := hE.start.alloc (.cells #[.int .i64 4, .int .i64 lt, .slice A' ins.length c'] 41)
        have HQ := Lib.hid hq
        clear hq hE
        go_wp2
        go_loopw [88] (fun t wq => ∃ (m : Nat) (T : Tn), m ≤ ins.length ∧ t = .int .i64 m ∧ Hid ((ins.take m).foldl (tnIn (own N.l) L a) ⟨0, 0⟩ = T) ∧ TsR w N (some ⟨b, o, none⟩) c g q a (L ++ [T]) wq) (fun t _ => ins.length - (intOf t).toNat)
        case atStart => exact ⟨0, ⟨0, 0⟩, by omega, rfl, Lib.hid rfl, HQ.out⟩
        case round =>
          clear HQ s1 s2 s3 o1 o2 o3 o4 o5 o6 hk1 hk2 hk3 HRD
          obtain ⟨m, T, hm, rfl, HP, hE⟩ := hrel
          by_cases hmlt : m < ins.length
          · obtain ⟨b', o', rfl, hbB', hcs⟩ := HRW.out (by omega)
            have hc := below_cell hE.bl hbB' (hcs m hmlt)
            clear hcs
            obtain ⟨j, hj, hjk⟩ := HMEM.out ins[m] (List.getElem_mem hmlt)
            have hii : intF ins m = .int .i64 (j : Int) := by unfold intF; rw [List.getD_eq_getElem?_getD, List.getElem?_eq_getElem hmlt]; simp [hj]
            rw [hii] at hc
            obtain ⟨R, hR⟩ : ∃ R, L.getD j ⟨0, 0⟩ = R := ⟨_, rfl⟩
            have hRf := HFR.out j hjk
            rw [hR] at hRf
            obtain ⟨Ok, hOk⟩ : ∃ s, (own N.l).getD k 0 = s := ⟨_, rfl⟩
            obtain ⟨Oj, hOj⟩ : ∃ s, (own N.l).getD j 0 = s := ⟨_, rfl⟩
            have hft : (ins.take (m + 1)).foldl (tnIn (own N.l) L a) ⟨0, 0⟩ = if 0 < R.far then ⟨T.set ||| tnWide a R Ok Oj, max T.far R.far⟩ else T := by
              rw [List.take_succ_eq_append_getElem hmlt, List.foldl_append, HP.out]
              show tnIn (own N.l) L a T ins[m] = _
              unfold tnIn
              rw [hj, HLL.out, Int.toNat_natCast, hR, hOk, hOj]
            have HFT := Lib.hid hft
            have HR := Lib.hid hR
            have HOK := Lib.hid hOk
            have HOJ := Lib.hid hOj
            have q1 := hE
            obtain ⟨e1, e2, e3, e4, e5, e6, e7, e8, e9, e10, e11, f1, f2, f3⟩ := q1.two k hlt HLL.out j hjk R HR.out HOK.out HOJ.out
            have j0 : (0 : Int) ≤ (j : Int) := by omega
            have j1 : (j : Int) < (N.l.length : Int) := by omega
            have hQ2 := hE.out.lt
            clear hft hii hR hOk hOj hj
            by_cases hf : 0 < R.far
            · have HF2 := Lib.hid (HFT.out.trans (if_pos hf))
              have ht1 := fun W h => turns1_any W R Ok Oj a w.heap.size (by omega) h
              have hu1 := fun W => union_any W T.set (tnWide a R Ok Oj)
              obtain ⟨U, hU⟩ : ∃ U, tnWide a R Ok Oj = U := ⟨_, rfl⟩
              simp only [hU] at ht1 hu1
              rw [hU] at HF2
              obtain ⟨V, hV⟩ : ∃ V, T.set ||| U = V := ⟨_, rfl⟩
              simp only [hV] at hu1
              rw [hV] at HF2
              have HT1 := Lib.hid ht1
              have HU1 := Lib.hid hu1
              have hmx : max (T.far : Int) (R.far : Int) = ((max T.far R.far : Nat) : Int) := by omega
              have HMX := Lib.hid hmx
              clear ht1 hu1 hU hV hmx HFT hE
              go_wp2_with fail
              replace q1 := q1.drew
              obtain ⟨e1, e2, e3, e4, e5, e6, e7, e8, e9, e10, e11, f1, f2, f3⟩ := q1.two k hlt HLL.out j hjk R HR.out HOK.out HOJ.out
              refine wp_region_heldE (fun w' => w'.cell? ⟨w.heap.size + 1 + 1, k * 3, none⟩ = some (Value.int .u64 (lo T.set : Int)) ∧ w'.cell? ⟨w.heap.size + 1 + 1, k * 3 + 1, none⟩ = some (Value.int .u64 (hi T.set : Int)) ∧ w'.cell? ⟨w.heap.size + 1 + 1, j * 3, none⟩ = some (Value.int .u64 (lo R.set : Int)) ∧ w'.cell? ⟨w.heap.size + 1 + 1, j * 3 + 1, none⟩ = some (Value.int .u64 (hi R.set : Int)) ∧ w'.cell? ⟨w.heap.size + 1 + 1, j * 3 + 2, none⟩ = some (Value.int .i64 (R.far : Int)) ∧ w'.cell? ⟨g, 2, none⟩ = some (Value.slice (some ⟨q, 0, none⟩) N.l.length N.l.length) ∧ w'.cell? ⟨q, k * 2, none⟩ = some (Value.int .u64 (lo Ok : Int)) ∧ w'.cell? ⟨q, k * 2 + 1, none⟩ = some (Value.int .u64 (hi Ok : Int)) ∧ w'.cell? ⟨q, j * 2, none⟩ = some (Value.int .u64 (lo Oj : Int)) ∧ w'.cell? ⟨q, j * 2 + 1, none⟩ = some (Value.int .u64 (hi Oj : Int))) 30 (by kernel_rfl) ⟨e1, e2, e4, e5, e6, e7, e8, e9, e10, e11⟩ (fun hS => ?_)
              refine wpAnyE_take (i := 0) (v := ?_) hS (by kernel_rfl) rfl (by kernel_rfl) (by kernel_rfl) (fun _ _ _ h => h) (Or.inl ⟨by rfl, ?_⟩) ?_
              rotate_left
              · (intro w hSw; go_simp; try with_reducible rfl)
              try simp only [Act.put, List.setIfInBounds_toArray, List.set_cons_zero, List.set_cons_succ]
              refine wpAnyE_take (i := 1) (v := ?_) hS (by kernel_rfl) rfl (by kernel_rfl) (by kernel_rfl) (fun _ _ _ h => h) (Or.inl ⟨by rfl, ?_⟩) ?_
              rotate_left
              · (intro w hSw; go_simp; try with_reducible rfl)
              try simp only [Act.put, List.setIfInBounds_toArray, List.set_cons_zero, List.set_cons_succ]
              refine wpAnyE_take (i := 2) (v := ?_) hS (by kernel_rfl) rfl (by kernel_rfl) (by kernel_rfl) (fun _ _ _ h => h) (Or.inl ⟨by rfl, ?_⟩) ?_
              rotate_left
              · (intro w hSw; go_simp; try with_reducible rfl)
              try simp only [Act.put, List.setIfInBounds_toArray, List.set_cons_zero, List.set_cons_succ]
              refine wpAnyE_take (i := 3) (v := ?_) hS (by kernel_rfl) rfl (by kernel_rfl) (by kernel_rfl) (fun _ _ _ h => h) (Or.inl ⟨by rfl, ?_⟩) ?_
              rotate_left
              · (intro w hSw; go_simp; try with_reducible rfl)
              try simp only [Act.put, List.setIfInBounds_toArray, List.set_cons_zero, List.set_cons_succ]
              refine wpAnyE_take (i := 4) (v := ?_) hS (by kernel_rfl) rfl (by kernel_rfl) (by kernel_rfl) (fun _ _ _ h => h) (Or.inl ⟨by rfl, ?_⟩) ?_
              rotate_left
              · (intro w hSw; go_simp; try with_reducible rfl)
              try simp only [Act.put, List.setIfInBounds_toArray, List.set_cons_zero, List.set_cons_succ]
              refine wpAnyE_take (i := 5) (v := ?_) hS (by kernel_rfl) rfl (by kernel_rfl) (by kernel_rfl) (fun _ _ _ h => h) (Or.inl ⟨by rfl, ?_⟩) ?_
              rotate_left
              · (intro w hSw; go_simp; try with_reducible rfl)
              try simp only [Act.put, List.setIfInBounds_toArray, List.set_cons_zero, List.set_cons_succ]
              refine wpAnyE_take (i := 6) (v := ?_) hS (by kernel_rfl) rfl (by kernel_rfl) (by kernel_rfl) (fun _ _ _ h => h) (Or.inl ⟨by rfl, ?_⟩) ?_
              rotate_left
              · (intro w hSw; go_simp; try with_reducible rfl)
              try simp only [Act.put, List.setIfInBounds_toArray, List.set_cons_zero, List.set_cons_succ]
              refine wpAnyE_take (i := 7) (v := ?_) hS (by kernel_rfl) rfl (by kernel_rfl) (by kernel_rfl) (fun _ _ _ h => h) (Or.inl ⟨by rfl, ?_⟩) ?_
              rotate_left
              · (intro w hSw; go_simp; try with_reducible rfl)
              try simp only [Act.put, List.setIfInBounds_toArray, List.set_cons_zero, List.set_cons_succ]
              refine wpAnyE_take (i := 8) (v := ?_) hS (by kernel_rfl) rfl (by kernel_rfl) (by kernel_rfl) (fun _ _ _ h => h) (Or.inl ⟨by rfl, ?_⟩) ?_
              rotate_left
              · (intro w hSw; go_simp; try with_reducible rfl)
              try simp only [Act.put, List.setIfInBounds_toArray, List.set_cons_zero, List.set_cons_succ]
              refine wpAnyE_take (i := 9) (v := ?_) hS (by kernel_rfl) rfl (by kernel_rfl) (by kernel_rfl) (fun _ _ _ h => h) (Or.inl ⟨by rfl, ?_⟩) ?_
              rotate_left
              · (intro w hSw; go_simp; try with_reducible rfl)
              try simp only [Act.put, List.setIfInBounds_toArray, List.set_cons_zero, List.set_cons_succ]
              refine wpAnyE_take (i := 10) (v := ?_) hS (by kernel_rfl) rfl (by kernel_rfl) (by kernel_rfl) (fun _ _ _ h => h) (Or.inl ⟨by rfl, ?_⟩) ?_
              rotate_left
              · (intro w hSw; go_simp; try with_reducible rfl)
              try simp only [Act.put, List.setIfInBounds_toArray, List.set_cons_zero, List.set_cons_succ]
              refine wpAnyE_take (i := 11) (v := ?_) hS (by kernel_rfl) rfl (by kernel_rfl) (by kernel_rfl) (fun _ _ _ h => h) (Or.inl ⟨by rfl, ?_⟩) ?_
              rotate_left
              · (intro w hSw; go_simp; try with_reducible rfl)
              try simp only [Act.put, List.setIfInBounds_toArray, List.set_cons_zero, List.set_cons_succ]
              refine wpAnyE_take (i := 12) (v := ?_) hS (by kernel_rfl) rfl (by kernel_rfl) (by kernel_rfl) (fun _ _ _ h => h) (Or.inl ⟨by rfl, ?_⟩) ?_
              rotate_left
              · (intro w hSw; go_simp; try with_reducible rfl)
              try simp only [Act.put, List.setIfInBounds_toArray, List.set_cons_zero, List.set_cons_succ]
              refine wpAnyE_take (i := 13) (v := ?_) hS (by kernel_rfl) rfl (by kernel_rfl) (by kernel_rfl) (fun _ _ _ h => h) (Or.inl ⟨by rfl, ?_⟩) ?_
              rotate_left
              · (intro w hSw; go_simp; try with_reducible rfl)
              try simp only [Act.put, List.setIfInBounds_toArray, List.set_cons_zero, List.set_cons_succ]
              refine wpAnyE_take (i := 14) (v := ?_) hS (by kernel_rfl) rfl (by kernel_rfl) (by kernel_rfl) (fun _ _ _ h => h) (Or.inl ⟨by rfl, ?_⟩) ?_
              rotate_left
              · (intro w hSw; go_simp; try with_reducible rfl)
              try simp only [Act.put, List.setIfInBounds_toArray, List.set_cons_zero, List.set_cons_succ]
              refine wpAnyE_take (i := 15) (v := ?_) hS (by kernel_rfl) rfl (by kernel_rfl) (by kernel_rfl) (fun _ _ _ h => h) (Or.inl ⟨by rfl, ?_⟩) ?_
              rotate_left
              · (intro w hSw; go_simp; try with_reducible rfl)
              try simp only [Act.put, List.setIfInBounds_toArray, List.set_cons_zero, List.set_cons_succ]
              refine wpAnyE_take (i := 16) (v := ?_) hS (by kernel_rfl) rfl (by kernel_rfl) (by kernel_rfl) (fun _ _ _ h => h) (Or.inl ⟨by rfl, ?_⟩) ?_
              rotate_left
              · (intro w hSw; go_simp; try with_reducible rfl)
              try simp only [Act.put, List.setIfInBounds_toArray, List.set_cons_zero, List.set_cons_succ]
              refine wpAnyE_take (i := 17) (v := ?_) hS (by kernel_rfl) rfl (by kernel_rfl) (by kernel_rfl) (fun _ _ _ h => h) (Or.inl ⟨by rfl, ?_⟩) ?_
              rotate_left
              · (intro w hSw; go_simp; try with_reducible rfl)
              try simp only [Act.put, List.setIfInBounds_toArray, List.set_cons_zero, List.set_cons_succ]
              refine wpAnyE_take (i := 18) (v := ?_) hS (by kernel_rfl) rfl (by kernel_rfl) (by kernel_rfl) (fun _ _ _ h => h) (Or.inl ⟨by rfl, ?_⟩) ?_
              rotate_left
              · (intro w hSw; go_simp; try with_reducible rfl)
              try simp only [Act.put, List.setIfInBounds_toArray, List.set_cons_zero, List.set_cons_succ]
              refine wpAnyE_take (i := 19) (v := ?_) hS (by kernel_rfl) rfl (by kernel_rfl) (by kernel_rfl) (fun _ _ _ h => h) (Or.inl ⟨by rfl, ?_⟩) ?_
              rotate_left
              · (intro w hSw; go_simp; try with_reducible rfl)
              try simp only [Act.put, List.setIfInBounds_toArray, List.set_cons_zero, List.set_cons_succ]
              refine wpAnyE_take (i := 20) (v := ?_) hS (by kernel_rfl) rfl (by kernel_rfl) (by kernel_rfl) (fun _ _ _ h => h) (Or.inl ⟨by rfl, ?_⟩) ?_
              rotate_left
              · (intro w hSw; go_simp; try with_reducible rfl)
              try simp only [Act.put, List.setIfInBounds_toArray, List.set_cons_zero, List.set_cons_succ]
              refine wpAnyE_take (i := 21) (v := ?_) hS (by kernel_rfl) rfl (by kernel_rfl) (by kernel_rfl) (fun _ _ _ h => h) (Or.inl ⟨by rfl, ?_⟩) ?_
              rotate_left
              · (intro w hSw; go_simp; try with_reducible rfl)
              try simp only [Act.put, List.setIfInBounds_toArray, List.set_cons_zero, List.set_cons_succ]
              refine wpAnyE_take (i := 22) (v := ?_) hS (by kernel_rfl) rfl (by kernel_rfl) (by kernel_rfl) (fun _ _ _ h => h) (Or.inl ⟨by rfl, ?_⟩) ?_
              rotate_left
              · (intro w hSw; go_simp; try with_reducible rfl)
              try simp only [Act.put, List.setIfInBounds_toArray, List.set_cons_zero, List.set_cons_succ]
              refine wpAnyE_take (i := 23) (v := ?_) hS (by kernel_rfl) rfl (by kernel_rfl) (by kernel_rfl) (fun _ _ _ h => h) (Or.inl ⟨by rfl, ?_⟩) ?_
              rotate_left
              · (intro w hSw; go_simp; try with_reducible rfl)
              try simp only [Act.put, List.setIfInBounds_toArray, List.set_cons_zero, List.set_cons_succ]
              refine wpAnyE_take (i := 24) (v := ?_) hS (by kernel_rfl) rfl (by kernel_rfl) (by kernel_rfl) (fun _ _ _ h => h) (Or.inl ⟨by rfl, ?_⟩) ?_
              rotate_left
              · (intro w hSw; go_simp; try with_reducible rfl)
              try simp only [Act.put, List.setIfInBounds_toArray, List.set_cons_zero, List.set_cons_succ]
              refine wpAnyE_take (i := 25) (v := ?_) hS (by kernel_rfl) rfl (by kernel_rfl) (by kernel_rfl) (fun _ _ _ h => h) (Or.inl ⟨by rfl, ?_⟩) ?_
              rotate_left
              · (intro w hSw; go_simp; try with_reducible rfl)
              try simp only [Act.put, List.setIfInBounds_toArray, List.set_cons_zero, List.set_cons_succ]
              refine wpAnyE_one 26 (by kernel_rfl) rfl (fun K hK => ?_)
              go_simp
              go_at_call 97
              (with_reducible refine (HT1.out _ q1.a).mono ?_)
              rintro e w5 ⟨rfl, hb5⟩
              replace q1 := q1.below hb5
              obtain ⟨e1, e2, e3, e4, e5, e6, e7, e8, e9, e10, e11, f1, f2, f3⟩ := q1.two k hlt HLL.out j hjk R HR.out HOK.out HOJ.out
              refine hK.out _ _ (fun _ => ⟨e1, e2, e4, e5, e6, e7, e8, e9, e10, e11⟩) (fun hS => ?_)
              replace hS := hS (by decide)
              clear hK K
              try simp only [Act.put, List.setIfInBounds_toArray, List.set_cons_zero, List.set_cons_succ]
              refine wpAnyE_one 27 (by kernel_rfl) rfl (fun K hK => ?_)
              go_simp
              go_at_call 42
              (with_reducible refine (HU1.out _).mono ?_)
              rintro e w6 ⟨rfl, hb6⟩
              replace q1 := q1.below hb6
              obtain ⟨e1, e2, e3, e4, e5, e6, e7, e8, e9, e10, e11, f1, f2, f3⟩ := q1.two k hlt HLL.out j hjk R HR.out HOK.out HOJ.out
              refine hK.out _ _ (fun _ => ⟨e1, e2, e4, e5, e6, e7, e8, e9, e10, e11⟩) (fun hS => ?_)
              replace hS := hS (by decide)
              clear hK K
              try simp only [Act.put, List.setIfInBounds_toArray, List.set_cons_zero, List.set_cons_succ]
              refine wpAnyE_take (i := 28) (v := ?_) hS (by kernel_rfl) rfl (by kernel_rfl) (by kernel_rfl) (fun _ _ _ h => h) (Or.inl ⟨by rfl, ?_⟩) ?_
              rotate_left
              · (intro w hSw; go_simp; try with_reducible rfl)
              try simp only [Act.put, List.setIfInBounds_toArray, List.set_cons_zero, List.set_cons_succ]
              refine wpAnyE_take (i := 29) (v := ?_) hS (by kernel_rfl) rfl (by kernel_rfl) (by kernel_rfl) (fun _ _ _ h => h) (Or.inl ⟨by rfl, ?_⟩) ?_
              rotate_left
              · (intro w hSw; go_simp; try with_reducible rfl)
              try simp only [Act.put, List.setIfInBounds_toArray, List.set_cons_zero, List.set_cons_succ]
              refine wpAnyE_one 30 (by kernel_rfl) rfl (fun K hK => ?_)
              go_simp
              refine hK.out _ _ (fun h => absurd rfl h) (fun _ => ?_)
              clear hK K
              refine wpAnyE_done (by kernel_rfl) ?_ _
              go_wp2_with fail
              have q2 := q1.set hgl hql V k HLL.out.symm
              clear q1 e1 e2 e3 e4 e5 e6 e7 e8 e9 e10 e11 f1 f2 f3
              generalize (w6.setCell ⟨w.heap.size + 1 + 1, k * 3, none⟩ (.int .u64 (lo V : Int))).setCell ⟨w.heap.size + 1 + 1, k * 3 + 1, none⟩ (.int .u64 (hi V : Int)) = W2 at q2 ⊢
              replace q2 := q2.drew
              obtain ⟨e1, e2, e3, e4, e5, e6, e7, e8, e9, e10, e11, f1, f2, f3⟩ := q2.two k hlt HLL.out j hjk R HR.out HOK.out HOJ.out
              have hmx := HMX.out
              refine wp_region_heldE (fun w' => w'.cell? ⟨w.heap.size + 1 + 1, k * 3 + 2, none⟩ = some (Value.int .i64 (T.far : Int)) ∧ w'.cell? ⟨w.heap.size + 1 + 1, j * 3 + 2, none⟩ = some (Value.int .i64 (R.far : Int))) 15 (by kernel_rfl) ⟨e3, e6⟩ (fun hS => ?_)
              refine wpAnyE_take (i := 0) (v := ?_) hS (by kernel_rfl) rfl (by kernel_rfl) (by kernel_rfl) (fun _ _ _ h => h) (Or.inl ⟨by rfl, ?_⟩) ?_
              rotate_left
              · (intro w hSw; go_simp; try with_reducible rfl)
              try simp only [Act.put, List.setIfInBounds_toArray, List.set_cons_zero, List.set_cons_succ]
              refine wpAnyE_take (i := 1) (v := ?_) hS (by kernel_rfl) rfl (by kernel_rfl) (by kernel_rfl) (fun _ _ _ h => h) (Or.inl ⟨by rfl, ?_⟩) ?_
              rotate_left
              · (intro w hSw; go_simp; try with_reducible rfl)
              try simp only [Act.put, List.setIfInBounds_toArray, List.set_cons_zero, List.set_cons_succ]
              refine wpAnyE_take (i := 2) (v := ?_) hS (by kernel_rfl) rfl (by kernel_rfl) (by kernel_rfl) (fun _ _ _ h => h) (Or.inl ⟨by rfl, ?_⟩) ?_
              rotate_left
              · (intro w hSw; go_simp; try with_reducible rfl)
              try simp only [Act.put, List.setIfInBounds_toArray, List.set_cons_zero, List.set_cons_succ]
              refine wpAnyE_take (i := 3) (v := ?_) hS (by kernel_rfl) rfl (by kernel_rfl) (by kernel_rfl) (fun _ _ _ h => h) (Or.inl ⟨by rfl, ?_⟩) ?_
              rotate_left
              · (intro w hSw; go_simp; try with_reducible rfl)
              try simp only [Act.put, List.setIfInBounds_toArray, List.set_cons_zero, List.set_cons_succ]
              refine wpAnyE_take (i := 4) (v := ?_) hS (by kernel_rfl) rfl (by kernel_rfl) (by kernel_rfl) (fun _ _ _ h => h) (Or.inl ⟨by rfl, ?_⟩) ?_
              rotate_left
              · (intro w hSw; go_simp; try with_reducible rfl)
              try simp only [Act.put, List.setIfInBounds_toArray, List.set_cons_zero, List.set_cons_succ]
              refine wpAnyE_take (i := 5) (v := ?_) hS (by kernel_rfl) rfl (by kernel_rfl) (by kernel_rfl) (fun _ _ _ h => h) (Or.inl ⟨by rfl, ?_⟩) ?_
              rotate_left
              · (intro w hSw; go_simp; try with_reducible rfl)
              try simp only [Act.put, List.setIfInBounds_toArray, List.set_cons_zero, List.set_cons_succ]
              refine wpAnyE_take (i := 6) (v := ?_) hS (by kernel_rfl) rfl (by kernel_rfl) (by kernel_rfl) (fun _ _ _ h => h) (Or.inl ⟨by rfl, ?_⟩) ?_
              rotate_left
              · (intro w hSw; go_simp; try with_reducible rfl)
              try simp only [Act.put, List.setIfInBounds_toArray, List.set_cons_zero, List.set_cons_succ]
              refine wpAnyE_take (i := 7) (v := ?_) hS (by kernel_rfl) rfl (by kernel_rfl) (by kernel_rfl) (fun _ _ _ h => h) (Or.inl ⟨by rfl, ?_⟩) ?_
              rotate_left
              · (intro w hSw; go_simp; try with_reducible rfl)
              try simp only [Act.put, List.setIfInBounds_toArray, List.set_cons_zero, List.set_cons_succ]
              refine wpAnyE_take (i := 8) (v := ?_) hS (by kernel_rfl) rfl (by kernel_rfl) (by kernel_rfl) (fun _ _ _ h => h) (Or.inl ⟨by rfl, ?_⟩) ?_
              rotate_left
              · (intro w hSw; go_simp; try with_reducible rfl)
              try simp only [Act.put, List.setIfInBounds_toArray, List.set_cons_zero, List.set_cons_succ]
              refine wpAnyE_take (i := 9) (v := ?_) hS (by kernel_rfl) rfl (by kernel_rfl) (by kernel_rfl) (fun _ _ _ h => h) (Or.inl ⟨by rfl, ?_⟩) ?_
              rotate_left
              · (intro w hSw; go_simp; try with_reducible rfl)
              try simp only [Act.put, List.setIfInBounds_toArray, List.set_cons_zero, List.set_cons_succ]
              refine wpAnyE_take (i := 10) (v := ?_) hS (by kernel_rfl) rfl (by kernel_rfl) (by kernel_rfl) (fun _ _ _ h => h) (Or.inl ⟨by rfl, ?_⟩) ?_
              rotate_left
              · (intro w hSw; go_simp; try with_reducible rfl)
              try simp only [Act.put, List.setIfInBounds_toArray, List.set_cons_zero, List.set_cons_succ]
              refine wpAnyE_take (i := 11) (v := ?_) hS (by kernel_rfl) rfl (by kernel_rfl) (by kernel_rfl) (fun _ _ _ h => h) (Or.inl ⟨by rfl, ?_⟩) ?_
              rotate_left
              · (intro w hSw; go_simp; try with_reducible rfl)
              try simp only [Act.put, List.setIfInBounds_toArray, List.set_cons_zero, List.set_cons_succ]
              refine wpAnyE_take (i := 12) (v := ?_) hS (by kernel_rfl) rfl (by kernel_rfl) (by kernel_rfl) (fun _ _ _ h => h) (Or.inl ⟨by rfl, ?_⟩) ?_
              rotate_left
              · (intro w hSw; go_simp; try with_reducible rfl)
              try simp only [Act.put, List.setIfInBounds_toArray, List.set_cons_zero, List.set_cons_succ]
              refine wpAnyE_take (i := 13) (v := ?_) hS (by kernel_rfl) rfl (by kernel_rfl) (by kernel_rfl) (fun _ _ _ h => h) (Or.inl ⟨by rfl, ?_⟩) ?_
              rotate_left
              · (intro w hSw; go_simp; try with_reducible rfl)
              try simp only [Act.put, List.setIfInBounds_toArray, List.set_cons_zero, List.set_cons_succ]
              refine wpAnyE_take (i := 14) (v := ?_) hS (by kernel_rfl) rfl (by kernel_rfl) (by kernel_rfl) (fun _ _ _ h => h) (Or.inl ⟨by rfl, ?_⟩) ?_
              rotate_left
              · (intro w hSw; go_simp; try with_reducible rfl)
              try simp only [Act.put, List.setIfInBounds_toArray, List.set_cons_zero, List.set_cons_succ]
              refine wpAnyE_one 15 (by kernel_rfl) rfl (fun K hK => ?_)
              go_simp
              refine hK.out _ _ (fun h => absurd rfl h) (fun _ => ?_)
              clear hK K
              refine wpAnyE_done (by kernel_rfl) ?_ _
              go_wp2
              go_roundw
              case rel => exact ⟨m + 1, _, by omega, by go_num, HF2, q2.far hgl hql (max T.far R.far) k HLL.out.symm⟩
              case measure => simp [intOf]; omega
            · have HF2 := Lib.hid (HFT.out.trans (if_neg hf))
              go_wp2
              go_roundw
              case rel => exact ⟨m + 1, T, by omega, by go_num, HF2, hE⟩
              case measure => simp [intOf]; omega
          · obtain rfl : m = ins.length := by omega
            have hfo := HP.out
            rw [List.take_length] at hfo
            have hst : tnStep (own N.l) a L ⟨4, lt, ins⟩ = T := hfo
            have hnx := HT.out
            rw [hst] at hnx
            have HNX := Lib.hid hnx
            clear hfo hst hnx
            go_wp2
            go_roundw
            case rel => exact ⟨k + 1, by omega, by go_num, by rw [HNX.out]; exact hE⟩
            case measure => simp [intOf]; omega
    · obtain rfl : k = N.l.length := by omega
      rw [List.take_length] at hE
      change TsR w N A c g q a (tns N a) wr at hE
      have hend := HEND.out
      obtain ⟨T, hT⟩ : ∃ T, (tns N a).getD (N.l.length - 1) ⟨0, 0⟩ = T := ⟨_, rfl⟩
      obtain ⟨Ok, hOk⟩ : ∃ s, (own N.l).getD (N.l.length - 1) 0 = s := ⟨_, rfl⟩
      rw [hT, hOk] at hend
      have hTf : T.far ≤ 129 := by
        have h := HFAR.out N.l.length (N.l.length - 1) (by omega) (Nat.le_refl _)
        rw [List.take_length] at h
        change ((tns N a).getD (N.l.length - 1) ⟨0, 0⟩).far ≤ 129 at h
        rw [hT] at h; exact h
      obtain ⟨t1, t2, t3⟩ := tnsCells hE.out (N.l.length - 1) (by omega) T hT
      have hi2 : (0 : Int) ≤ (N.l.length : Int) - 1 := by omega
      have hi4 : (1 : Int) ≤ (N.l.length : Int) := by omega
      have hrl := hE.r.lt
      have hi3 : (N.l.length : Int) - 1 < (N.l.length : Int) := by omega
      have hwr : IntKind.i64.wrap ((N.l.length : Int) - 1) = (N.l.length : Int) - 1 := by rw [IntKind.wrap_i64]; omega
      have htn : ((N.l.length : Int) - 1).toNat = N.l.length - 1 := by omega
      have hQ := hE.out.lt
      have q1 := hE.alloc (.cells #[.int .u64 (lo T.set : Int), .int .u64 (hi T.set : Int), .int .i64 (T.far : Int)] 133)
      have q2 := tnNew wr T 133 _ rfl
      have HOK := Lib.hid hOk
      obtain ⟨_, _, f1, f2⟩ := setCells hE.r
      by_cases hf : T.far = 0
      · rw [if_pos hf] at hend
        subst hend
        have hf2 : ((T.far : Int) = 0) := by omega
        have HQ := Lib.hid q1
        obtain ⟨_, _, f3, f4⟩ := setCells q1.r
        clear q1 q2 HEND hT hOk
        rw [hf2] at t3
        go_wp2
        exact ret_set rfl 0 rfl (((hE.r.set 0 _).set 1 _).alloc _) rfl rfl rfl ⟨rfl, ((hE.bl.setCell (by simp) _).setCell (by simp) _).alloc (by rw [size_setCell, size_setCell]; exact hE.bl.size) _⟩
      · rw [if_neg hf] at hend
        have hf2 : ¬ ((T.far : Int) = 0) := by omega
        have ht1 := fun W h => turns1_any W T (allTo N.n) Ok a w.heap.size (by omega) h
        have hal := fun W => all_any W N.n
        obtain ⟨U, hU⟩ : ∃ U, tnWide a T (allTo N.n) Ok = U := ⟨_, rfl⟩
        simp only [hU] at ht1
        rw [hU] at hend
        subst hend
        obtain ⟨X, hX⟩ : ∃ X, allTo N.n = X := ⟨_, rfl⟩
        simp only [hX] at ht1 hal
        have HT1 := Lib.hid ht1
        have HAL := Lib.hid hal
        have H12 := Lib.hid (And.intro q1 q2)
        clear HEND hT hOk ht1 hal hU hX q1 q2 hE
        go_wp2_with fail
        obtain ⟨q1, q2⟩ := H12.out
        replace q1 := q1.drew
        replace q2 := q2.drew
        clear t1 t2 t3
        obtain ⟨r1, r2, r3⟩ := tnCells q2
        obtain ⟨s1, s2, s3⟩ := lsCells q1.ls
        obtain ⟨o1, o2, _, _⟩ := setsCells q1.own (N.l.length - 1) (by omega)
        rw [HOK.out] at o1 o2
        obtain ⟨_, _, f1, f2⟩ := setCells q1.r
        refine wp_region_heldE (fun w' => w'.cell? ⟨wr.heap.size, 0, none⟩ = some (Value.int .u64 (lo T.set : Int)) ∧ w'.cell? ⟨wr.heap.size, 1, none⟩ = some (Value.int .u64 (hi T.set : Int)) ∧ w'.cell? ⟨wr.heap.size, 2, none⟩ = some (Value.int .i64 (T.far : Int)) ∧ w'.cell? ⟨g, 0, none⟩ = some (Value.int .i64 N.n) ∧ w'.cell? ⟨g, 2, none⟩ = some (Value.slice (some ⟨q, 0, none⟩) N.l.length N.l.length) ∧ w'.cell? ⟨q, (N.l.length - 1) * 2, none⟩ = some (Value.int .u64 (lo Ok : Int)) ∧ w'.cell? ⟨q, (N.l.length - 1) * 2 + 1, none⟩ = some (Value.int .u64 (hi Ok : Int))) 18 (by kernel_rfl) ⟨r1, r2, r3, s1, s3, o1, o2⟩ (fun hS => ?_)
        refine wpAnyE_take (i := 0) (v := ?_) hS (by kernel_rfl) rfl (by kernel_rfl) (by kernel_rfl) (fun _ _ _ h => h) (Or.inl ⟨by rfl, ?_⟩) ?_
        rotate_left
        · (intro w hSw; go_simp; try with_reducible rfl)
        try simp only [Act.put, List.setIfInBounds_toArray, List.set_cons_zero, List.set_cons_succ]
        refine wpAnyE_take (i := 1) (v := ?_) hS (by kernel_rfl) rfl (by kernel_rfl) (by kernel_rfl) (fun _ _ _ h => h) (Or.inl ⟨by rfl, ?_⟩) ?_
        rotate_left
        · (intro w hSw; go_simp; try with_reducible rfl)
        try simp only [Act.put, List.setIfInBounds_toArray, List.set_cons_zero, List.set_cons_succ]
        refine wpAnyE_take (i := 2) (v := ?_) hS (by kernel_rfl) rfl (by kernel_rfl) (by kernel_rfl) (fun _ _ _ h => h) (Or.inl ⟨by rfl, ?_⟩) ?_
        rotate_left
        · (intro w hSw; go_simp; try with_reducible rfl)
        try simp only [Act.put, List.setIfInBounds_toArray, List.set_cons_zero, List.set_cons_succ]
        refine wpAnyE_take (i := 3) (v := ?_) hS (by kernel_rfl) rfl (by kernel_rfl) (by kernel_rfl) (fun _ _ _ h => h) (Or.inl ⟨by rfl, ?_⟩) ?_
        rotate_left
        · (intro w hSw; go_simp; try with_reducible rfl)
        try simp only [Act.put, List.setIfInBounds_toArray, List.set_cons_zero, List.set_cons_succ]
        refine wpAnyE_take (i := 4) (v := ?_) hS (by kernel_rfl) rfl (by kernel_rfl) (by kernel_rfl) (fun _ _ _ h => h) (Or.inl ⟨by rfl, ?_⟩) ?_
        rotate_left
        · (intro w hSw; go_simp; try with_reducible rfl)
        try simp only [Act.put, List.setIfInBounds_toArray, List.set_cons_zero, List.set_cons_succ]
        refine wpAnyE_take (i := 5) (v := ?_) hS (by kernel_rfl) rfl (by kernel_rfl) (by kernel_rfl) (fun _ _ _ h => h) (Or.inl ⟨by rfl, ?_⟩) ?_
        rotate_left
        · (intro w hSw; go_simp; try with_reducible rfl)
        try simp only [Act.put, List.setIfInBounds_toArray, List.set_cons_zero, List.set_cons_succ]
        refine wpAnyE_take (i := 6) (v := ?_) hS (by kernel_rfl) rfl (by kernel_rfl) (by kernel_rfl) (fun _ _ _ h => h) (Or.inl ⟨by rfl, ?_⟩) ?_
        rotate_left
        · (intro w hSw; go_simp; try with_reducible rfl)
        try simp only [Act.put, List.setIfInBounds_toArray, List.set_cons_zero, List.set_cons_succ]
        refine wpAnyE_take (i := 8) (v := ?_) hS (by kernel_rfl) rfl (by kernel_rfl) (by kernel_rfl) (fun _ _ _ h => h) (Or.inl ⟨by rfl, ?_⟩) ?_
        rotate_left
        · (intro w hSw; go_simp; try with_reducible rfl)
        try simp only [Act.put, List.setIfInBounds_toArray, List.set_cons_zero, List.set_cons_succ]
        refine wpAnyE_take (i := 9) (v := ?_) hS (by kernel_rfl) rfl (by kernel_rfl) (by kernel_rfl) (fun _ _ _ h => h) (Or.inl ⟨by rfl, ?_⟩) ?_
        rotate_left
        · (intro w hSw; go_simp; try with_reducible rfl)
        try simp only [Act.put, List.setIfInBounds_toArray, List.set_cons_zero, List.set_cons_succ]
        refine wpAnyE_take (i := 10) (v := ?_) hS (by kernel_rfl) rfl (by kernel_rfl) (by kernel_rfl) (fun _ _ _ h => h) (Or.inl ⟨by rfl, ?_⟩) ?_
        rotate_left
        · (intro w hSw; go_simp; try with_reducible rfl)
        try simp only [Act.put, List.setIfInBounds_toArray, List.set_cons_zero, List.set_cons_succ]
        refine wpAnyE_take (i := 11) (v := ?_) hS (by kernel_rfl) rfl (by kernel_rfl) (by kernel_rfl) (fun _ _ _ h => h) (Or.inl ⟨by rfl, ?_⟩) ?_
        rotate_left
        · (intro w hSw; go_simp; try with_reducible rfl)
        try simp only [Act.put, List.setIfInBounds_toArray, List.set_cons_zero, List.set_cons_succ]
        refine wpAnyE_take (i := 12) (v := ?_) hS (by kernel_rfl) rfl (by kernel_rfl) (by kernel_rfl) (fun _ _ _ h => h) (Or.inl ⟨by rfl, ?_⟩) ?_
        rotate_left
        · (intro w hSw; go_simp; try with_reducible rfl)
        try simp only [Act.put, List.setIfInBounds_toArray, List.set_cons_zero, List.set_cons_succ]
        refine wpAnyE_take (i := 13) (v := ?_) hS (by kernel_rfl) rfl (by kernel_rfl) (by kernel_rfl) (fun _ _ _ h => h) (Or.inl ⟨by rfl, ?_⟩) ?_
        rotate_left
        · (intro w hSw; go_simp; try with_reducible rfl)
        try simp only [Act.put, List.setIfInBounds_toArray, List.set_cons_zero, List.set_cons_succ]
        refine wpAnyE_take (i := 14) (v := ?_) hS (by kernel_rfl) rfl (by kernel_rfl) (by kernel_rfl) (fun _ _ _ h => h) (Or.inl ⟨by rfl, ?_⟩) ?_
        rotate_left
        · (intro w hSw; go_simp; try with_reducible rfl)
        try simp only [Act.put, List.setIfInBounds_toArray, List.set_cons_zero, List.set_cons_succ]
        refine wpAnyE_take (i := 15) (v := ?_) hS (by kernel_rfl) rfl (by kernel_rfl) (by kernel_rfl) (fun _ _ _ h => h) (Or.inl ⟨by rfl, ?_⟩) ?_
        rotate_left
        · (intro w hSw; go_simp; try with_reducible rfl)
        try simp only [Act.put, List.setIfInBounds_toArray, List.set_cons_zero, List.set_cons_succ]
        refine wpAnyE_take (i := 16) (v := ?_) hS (by kernel_rfl) rfl (by kernel_rfl) (by kernel_rfl) (fun _ _ _ h => h) (Or.inl ⟨by rfl, ?_⟩) ?_
        rotate_left
        · (intro w hSw; go_simp; try with_reducible rfl)
        try simp only [Act.put, List.setIfInBounds_toArray, List.set_cons_zero, List.set_cons_succ]
        refine wpAnyE_one 7 (by kernel_rfl) rfl (fun K hK => ?_)
        go_simp
        go_at_call 53
        (with_reducible refine (HAL.out _).mono ?_)
        rintro e w5 ⟨rfl, hb5⟩
        replace q1 := q1.below hb5
        replace q2 := rowBelow q2 hb5
        obtain ⟨r1, r2, r3⟩ := tnCells q2
        obtain ⟨s1, s2, s3⟩ := lsCells q1.ls
        obtain ⟨o1, o2, _, _⟩ := setsCells q1.own (N.l.length - 1) (by omega)
        rw [HOK.out] at o1 o2
        obtain ⟨_, _, f1, f2⟩ := setCells q1.r
        refine hK.out _ _ (fun _ => ⟨r1, r2, r3, s1, s3, o1, o2⟩) (fun hS => ?_)
        replace hS := hS (by decide)
        clear hK K
        try simp only [Act.put, List.setIfInBounds_toArray, List.set_cons_zero, List.set_cons_succ]
        refine wpAnyE_one 17 (by kernel_rfl) rfl (fun K hK => ?_)
        go_simp
        go_at_call 97
        (with_reducible refine (HT1.out _ q1.a).mono ?_)
        rintro e w6 ⟨rfl, hb6⟩
        replace q1 := q1.below hb6
        replace q2 := rowBelow q2 hb6
        obtain ⟨r1, r2, r3⟩ := tnCells q2
        obtain ⟨s1, s2, s3⟩ := lsCells q1.ls
        obtain ⟨o1, o2, _, _⟩ := setsCells q1.own (N.l.length - 1) (by omega)
        rw [HOK.out] at o1 o2
        obtain ⟨_, _, f1, f2⟩ := setCells q1.r
        refine hK.out _ _ (fun _ => ⟨r1, r2, r3, s1, s3, o1, o2⟩) (fun hS => ?_)
        replace hS := hS (by decide)
        clear hK K
        try simp only [Act.put, List.setIfInBounds_toArray, List.set_cons_zero, List.set_cons_succ]
        refine wpAnyE_one 18 (by kernel_rfl) rfl (fun K hK => ?_)
        go_simp
        refine hK.out _ _ (fun h => absurd rfl h) (fun _ => ?_)
        clear hK K
        refine wpAnyE_done (by kernel_rfl) ?_ _
        go_wp2
        exact ret_set rfl TN rfl (setPut q1.r _) rfl rfl rfl ⟨rfl, (q1.bl.setCell (by simp) _).setCell (by simp) _⟩
end Go.Proofs.YtemgfhdgpkmmaaaDoor
