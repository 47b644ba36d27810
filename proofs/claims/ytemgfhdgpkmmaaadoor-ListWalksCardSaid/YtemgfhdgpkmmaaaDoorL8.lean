/- The walk of least. -/
import Derived.Test.YtemgfhdgpkmmaaaDoorL7
import Derived.Laws.ResultCell
import Derived.Deep.CutRange
set_option linter.unusedSimpArgs false
set_option linter.unusedVariables false
open Go Go.RowKit Cs
namespace Go.Proofs.YtemgfhdgpkmmaaaDoor
/-- A result that lies in a row of the call's own, and one that lies in a slot. -/
theorem ret_row2 {P : Program} {fn : Func} {R : Ending → World → Prop} {a : Act} {w : World} {p u : Tmp} {T : TypeId} (h : fn.results = #[.cell p T, .tmp u]) (g : Nat) (t : TypeId) (n : Nat) (f : Nat → Value)
    (hp : a.tmps.getD p undef = .pointer (some ⟨g, 0, none⟩)) (hrow : w.rowIs g t n f) (d : TypeDesc) (hu : P.underlying T = some d) (hd : (match d with | .struct _ | .array _ _ => true | _ => false) = true)
    (hi : (P.info? T).map (·.size) = some n) (hdf : a.defers = []) (hR : R (.returned (.tuple #[.agg ((List.range n).map f).toArray, a.tmps.getD u undef])) w) : bodyPost P fn R .ret a w := by
  refine bodyPost_ret (v := .tuple #[.agg ((List.range n).map f).toArray, a.tmps.getD u undef]) ?_ hdf hR
  rw [results_cell_tmp h, hp]
  simp only [asAddr, Sem.run_pure, Result.andThen_ok]
  rw [run_loadVar_row w g t T _ (0, 0) d (rowArr hrow) hu hd (by simpa using hi)]
  simp
theorem ret_set2 {fn : Func} {R : Ending → World → Prop} {a : Act} {w : World} {p u : Tmp} (h : fn.results = #[.cell p 27, .tmp u]) {g : Nat} {t : TypeId} (s : Nat) {f : Nat → Value} {b : Value}
    (hp : a.tmps.getD p undef = .pointer (some ⟨g, 0, none⟩)) (hb : a.tmps.getD u undef = b) (hrow : w.rowIs g t 2 f) (h0 : f 0 = .int .u64 (lo s : Int)) (h1 : f 1 = .int .u64 (hi s : Int)) (hdf : a.defers = []) (hR : R (.returned (.tuple #[setV s, b])) w) : bodyPost Tryd.prog fn R .ret a w := by
  refine ret_row2 h g t 2 f hp hrow _ Tryd.underlying27 rfl size_set hdf ?_
  have e : ((List.range 2).map f).toArray = #[f 0, f 1] := rfl
  rw [e, h0, h1, hb]; exact hR
/-- What lies in memory ahead of a round of least. -/
structure LeR (w : World) (N : Nt) (A : Option Addr) (c g q a f : Nat) (L : List Pt) (wr : World) : Prop where
  ls : wr.rowIs g 96 3 (lsF N A c q)
  own : wr.rowIs q 27 (N.l.length * 2) (setsF (Cs.own N.l))
  a : wr.rowIs w.heap.size 27 2 (setF a)
  f : wr.rowIs (w.heap.size + 1) 27 2 (setF f)
  r : wr.rowIs (w.heap.size + 1 + 1) 27 2 (setF 0)
  out : wr.rowIs (w.heap.size + 1 + 1 + 1) 128 (N.l.length * 3) (ptsF L)
  bl : Below w.heap.size w wr
section
variable {w wr w' : World} {N : Nt} {A : Option Addr} {c g q a f : Nat} {L : List Pt} {T : Pt}
theorem LeR.below (h : LeR w N A c g q a f L wr) (hb : Below wr.heap.size wr w') : LeR w N A c g q a f L w' := ⟨rowBelow h.ls hb, rowBelow h.own hb, rowBelow h.a hb, rowBelow h.f hb, rowBelow h.r hb, rowBelow h.out hb, Cs.Below.trans' h.bl hb h.bl.size⟩
theorem LeR.drew (h : LeR w N A c g q a f L wr) : LeR w N A c g q a f L wr.drew := h.below (belowDrewN (Below.refl _ _) 1)
theorem LeR.alloc (h : LeR w N A c g q a f L wr) (o : Obj) : LeR w N A c g q a f L (wr.alloc o) := h.below ((Below.refl _ _).alloc (Nat.le_refl _) _)
theorem LeR.start (h : LeR w N A c g q a f L wr) : LeR w N A c g q a f (L ++ [⟨0, false⟩]) wr := ⟨h.ls, h.own, h.a, h.f, h.r, ptsStart h.out, h.bl⟩
theorem LeR.ok (h : LeR w N A c g q a f (L ++ [T]) wr) (hg : g < w.heap.size) (hq : q < w.heap.size) (b : Bool) (j : Nat) (hj : j = L.length) : LeR w N A c g q a f (L ++ [⟨T.set, b⟩]) (wr.setCell ⟨w.heap.size + 1 + 1 + 1, j * 3 + 2, none⟩ (.bool b)) :=
  ⟨h.ls.setOther (by simp <;> omega) _, h.own.setOther (by simp <;> omega) _, h.a.setOther (by simp <;> omega) _, h.f.setOther (by simp <;> omega) _, h.r.setOther (by simp) _, ptsOk h.out b j hj, h.bl.setCell (by simp <;> omega) _⟩
theorem LeR.set (h : LeR w N A c g q a f (L ++ [T]) wr) (hg : g < w.heap.size) (hq : q < w.heap.size) (s j : Nat) (hj : j = L.length) : LeR w N A c g q a f (L ++ [⟨s, T.ok⟩]) ((wr.setCell ⟨w.heap.size + 1 + 1 + 1, j * 3, none⟩ (.int .u64 (lo s : Int))).setCell ⟨w.heap.size + 1 + 1 + 1, j * 3 + 1, none⟩ (.int .u64 (hi s : Int))) :=
  ⟨(h.ls.setOther (by simp <;> omega) _).setOther (by simp <;> omega) _, (h.own.setOther (by simp <;> omega) _).setOther (by simp <;> omega) _, (h.a.setOther (by simp <;> omega) _).setOther (by simp <;> omega) _, (h.f.setOther (by simp <;> omega) _).setOther (by simp <;> omega) _, (h.r.setOther (by simp) _).setOther (by simp) _, ptsSet h.out s j hj, (h.bl.setCell (by simp <;> omega) _).setCell (by simp <;> omega) _⟩
theorem LeR.other (h : LeR w N A c g q a f L wr) (hg : g < w.heap.size) (hq : q < w.heap.size) {B : Nat} (hB : w.heap.size + 1 + 1 + 1 < B) (i : Nat) (v : Value) : LeR w N A c g q a f L (wr.setCell ⟨B, i, none⟩ v) :=
  ⟨h.ls.setOther (by simp <;> omega) _, h.own.setOther (by simp <;> omega) _, h.a.setOther (by simp <;> omega) _, h.f.setOther (by simp <;> omega) _, h.r.setOther (by simp <;> omega) _, h.out.setOther (by simp <;> omega) _, h.bl.setCell (by simp <;> omega) _⟩
theorem ptsAt (h : wr.rowIs g 128 (N.l.length * 3) (ptsF (L ++ [T]))) (k : Nat) (hk : k < N.l.length) (hL : L.length = k) :
    wr.cell? ⟨g, k * 3, none⟩ = some (.int .u64 (lo T.set : Int)) ∧ wr.cell? ⟨g, k * 3 + 1, none⟩ = some (.int .u64 (hi T.set : Int)) ∧ wr.cell? ⟨g, k * 3 + 2, none⟩ = some (.bool T.ok) ∧ wr.frozen? ⟨g, k * 3, none⟩ = false ∧ wr.frozen? ⟨g, k * 3 + 1, none⟩ = false ∧ wr.frozen? ⟨g, k * 3 + 2, none⟩ = false := by
  obtain ⟨h1, h2, h3⟩ := ptsCells h k (by omega) T (by rw [getD_snocP, if_pos hL.symm])
  exact ⟨h1, h2, h3, h.frozen _, h.frozen _, h.frozen _⟩
theorem LeR.two (h : LeR w N A c g q a f (L ++ [T]) wr) (k : Nat) (hk : k < N.l.length) (hL : L.length = k) (j : Nat) (hj : j < k) (R : Pt) (hR : L.getD j ⟨0, false⟩ = R) {Ok Oj : Nat} (hOk : (Cs.own N.l).getD k 0 = Ok) (hOj : (Cs.own N.l).getD j 0 = Oj) :
    wr.cell? ⟨w.heap.size + 1 + 1 + 1, k * 3, none⟩ = some (.int .u64 (lo T.set : Int)) ∧ wr.cell? ⟨w.heap.size + 1 + 1 + 1, k * 3 + 1, none⟩ = some (.int .u64 (hi T.set : Int)) ∧ wr.cell? ⟨w.heap.size + 1 + 1 + 1, k * 3 + 2, none⟩ = some (.bool T.ok) ∧
    wr.cell? ⟨w.heap.size + 1 + 1 + 1, j * 3, none⟩ = some (.int .u64 (lo R.set : Int)) ∧ wr.cell? ⟨w.heap.size + 1 + 1 + 1, j * 3 + 1, none⟩ = some (.int .u64 (hi R.set : Int)) ∧ wr.cell? ⟨w.heap.size + 1 + 1 + 1, j * 3 + 2, none⟩ = some (.bool R.ok) ∧
    wr.cell? ⟨g, 2, none⟩ = some (.slice (some ⟨q, 0, none⟩) N.l.length N.l.length) ∧ wr.cell? ⟨q, k * 2, none⟩ = some (.int .u64 (lo Ok : Int)) ∧ wr.cell? ⟨q, k * 2 + 1, none⟩ = some (.int .u64 (hi Ok : Int)) ∧ wr.cell? ⟨q, j * 2, none⟩ = some (.int .u64 (lo Oj : Int)) ∧ wr.cell? ⟨q, j * 2 + 1, none⟩ = some (.int .u64 (hi Oj : Int)) ∧
    wr.frozen? ⟨w.heap.size + 1 + 1 + 1, k * 3, none⟩ = false ∧ wr.frozen? ⟨w.heap.size + 1 + 1 + 1, k * 3 + 1, none⟩ = false ∧ wr.frozen? ⟨w.heap.size + 1 + 1 + 1, k * 3 + 2, none⟩ = false := by
  subst hOk; subst hOj
  obtain ⟨p1, p2, p3, p4, p5, p6⟩ := ptsAt (L := L) h.out k hk hL
  obtain ⟨r1, r2, r3⟩ := ptsCells h.out j (by omega) R (by rw [getD_snocP, if_neg (by omega)]; exact hR)
  obtain ⟨s1, s2, _, _⟩ := setsCells h.own k (by omega)
  obtain ⟨s3, s4, _, _⟩ := setsCells h.own j (by omega)
  exact ⟨p1, p2, p3, r1, r2, r3, (lsCells h.ls).2.2, s1, s2, s3, s4, p4, p5, p6⟩
theorem LeR.put (h : LeR w N A c g q a f (L ++ [T]) wr) (hg : g < w.heap.size) (hq : q < w.heap.size) (R : Pt) (j : Nat) (hj : j = L.length) : LeR w N A c g q a f (L ++ [R]) (((wr.setCell ⟨w.heap.size + 1 + 1 + 1, j * 3, none⟩ (.int .u64 (lo R.set : Int))).setCell ⟨w.heap.size + 1 + 1 + 1, j * 3 + 1, none⟩ (.int .u64 (hi R.set : Int))).setCell ⟨w.heap.size + 1 + 1 + 1, j * 3 + 2, none⟩ (.bool R.ok)) :=
  (h.set hg hq R.set j hj).ok hg hq R.ok j hj
end
/-- What least returns. -/
def ptR (p : Pt) : Value := .tuple #[setV p.set, .bool p.ok]
set_option maxRecDepth 100000 in
set_option maxHeartbeats 8000000 in
theorem least_any (w : World) (N : Nt) (A : Option Addr) (c g q a f : Nat) (hl : LsAt w N A c g q) (hN : NtAt w w.heap.size A N.l) (hv : vld N = true) (hT : Tab w) :
    Calls Tryd.prog 63 #[.pointer (some ⟨g, 0, none⟩), setV a, setV f] w fun e w' => e = .returned (ptR (leastN N a f)) ∧ Below w.heap.size w w' := by
  obtain ⟨hn0, hn1, hl0, hl1⟩ := vld_bounds hv
  have hfm := fun k hk => vld_formed hv k hk
  have hend : leastN N a f = (if ((pts N a f).getD (N.l.length - 1) ⟨0, false⟩).ok = true then ⟨((pts N a f).getD (N.l.length - 1) ⟨0, false⟩).set ||| (minus (allTo N.n) ((Cs.own N.l).getD (N.l.length - 1) 0) &&& (a &&& f)), true⟩ else ⟨0, false⟩) := rfl
  obtain ⟨TN, hTN⟩ : ∃ t, leastN N a f = t := ⟨_, rfl⟩
  rw [hTN] at hend ⊢
  have HEND := Lib.hid hend
  have HF := Lib.hid hfm
  have hgl := hl.row.lt
  have hql := hl.sets.lt
  have hmk := mk_part N.l.length (by omega)
  have hq0 : LeR w N A c g q a f [] ((((w.alloc (.cells #[.int .u64 (lo a : Int), .int .u64 (hi a : Int)] 27)).alloc (.cells #[.int .u64 (lo f : Int), .int .u64 (hi f : Int)] 27)).alloc (.cells #[.int .u64 0, .int .u64 0] 27)).alloc (.cells (madeCells #[.int .u64 0, .int .u64 0, .bool false] (N.l.length * 3)) 128)) :=
    ⟨(((hl.row.alloc _).alloc _).alloc _).alloc _, (((hl.sets.alloc _).alloc _).alloc _).alloc _, (((setNew w a _ _ rfl).alloc _).alloc _).alloc _, ((setNew _ f _ _ (by simp)).alloc _).alloc _, (setZero _ _ _ (by simp)).alloc _, ptsMade _ _ _ _ (by simp), ((((Below.refl _ _).alloc (Nat.le_refl _) _).alloc (by simp) _).alloc (by simp <;> omega) _).alloc (by simp <;> omega) _⟩
  have HQ0 := Lib.hid hq0
  obtain ⟨c1, c2, c3⟩ := lsCells hl.row
  obtain ⟨d1, d2, d3⟩ := lsCells hq0.ls
  obtain ⟨g1, g2, g3⟩ := lsCells (((hl.row.alloc (.cells #[.int .u64 (lo a : Int), .int .u64 (hi a : Int)] 27)).alloc (.cells #[.int .u64 (lo f : Int), .int .u64 (hi f : Int)] 27)).alloc (.cells #[.int .u64 0, .int .u64 0] 27))
  clear hend hfm hq0 hl
  go_enter Tryd.func63, Tryd.ntmps63
  go_wp2
  go_loopw [33] (fun t wr => ∃ k : Nat, k ≤ N.l.length ∧ t = .int .i64 k ∧ LeR w N A c g q a f (scan (ptStep (own N.l) a f) [] (N.l.take k)) wr) (fun t _ => N.l.length - (intOf t).toNat)
  case atStart => exact ⟨0, by omega, rfl, HQ0.out⟩
  case round =>
    clear HQ0 c1 c2 c3 d1 d2 d3 g1 g2 g3 hmk
    obtain ⟨k, hk, rfl, hE⟩ := hrel
    by_cases hlt : k < N.l.length
    · obtain ⟨b, o, rfl, hbB, hcs⟩ := hN (by omega)
      have hnd := hcs k hlt
      clear hcs
      have ht := scan_take (ptStep (own N.l) a f) N.l k hlt
      have hfk := HF.out k hlt
      obtain ⟨x, hx⟩ : ∃ x, N.l[k] = x := ⟨_, rfl⟩
      rw [hx] at hnd ht hfk
      have hks := formed_kinds hfk
      have hmem := formed_mem hfk
      have hlo := fun h2 => formed_litOk hfk h2
      have hLl := scan_len (ptStep (own N.l) a f) N.l k hk
      have hnil : x.kind ≠ 3 → x.kind ≠ 4 → x.ins = [] := fun h3 h4 => by
        rcases formed_kind hfk with ⟨_, h⟩ | h | h
        · exact List.length_eq_zero_iff.1 h
        · exact absurd h h3
        · exact absurd h h4
      obtain ⟨L, hL⟩ : ∃ L, scan (ptStep (own N.l) a f) [] (N.l.take k) = L := ⟨_, rfl⟩
      rw [hL] at hE ht hLl
      obtain ⟨kd, lt, ins⟩ := x
      simp only at hks hmem hlo hnil
      obtain ⟨hk1, hk2, ⟨A', c', hk3, hrd⟩, hr1, hr2, hr3, hr4⟩ := hnd
      simp only at hk1 hk2 hk3 hrd hr1 hr2 hr3 hr4
      replace hk1 := below_cell hE.bl hbB hk1
      replace hk2 := below_cell hE.bl hbB hk2
      replace hk3 := below_cell hE.bl hbB hk3
      have HRW := Lib.hid hrd
      have HMEM := Lib.hid hmem
      have HT := Lib.hid ht
      have HLO := Lib.hid hlo
      have HNIL := Lib.hid hnil
      have HLL := Lib.hid hLl
      have hi0 : (0 : Int) ≤ (k : Int) := by omega
      have hi1 : (k : Int) < (N.l.length : Int) := by omega
      obtain ⟨s1, s2, s3⟩ := lsCells hE.ls
      obtain ⟨o1, o2, o3, o4, o5, o6⟩ := ptsAt (L := L) hE.start.out k hlt hLl
      have hQ := hE.out.lt
      clear hmem ht hlo hnil hLl hrd hx hL hfk hr1 hr3
      rcases hks with rfl | rfl | rfl | rfl | rfl
      · as_aux_lemma =>
        have hst : ptStep (own N.l) a f L ⟨0, lt, ins⟩ = ⟨0, false⟩ := by rw [HNIL.out (by decide) (by decide)]; rfl
        have hnx := HT.out
        rw [hst] at hnx
        have HNX := Lib.hid hnx
        have HX := Lib.hid (hE.alloc (.cells #[.int .i64 0, .int .i64 lt, .slice A' ins.length c'] 41)).start
        clear hst hnx hE
        go_wp2
        go_roundw
        case rel => exact ⟨k + 1, by omega, by go_num, by rw [HNX.out]; exact HX.out⟩
        case measure => simp [intOf]; omega
      · as_aux_lemma =>
        have hst : ptStep (own N.l) a f L ⟨1, lt, ins⟩ = ⟨0, true⟩ := by rw [HNIL.out (by decide) (by decide)]; rfl
        have hnx := HT.out
        rw [hst] at hnx
        have HNX := Lib.hid hnx
        have HX := Lib.hid ((hE.start.ok hgl hql true k HLL.out.symm).alloc (.cells #[.int .i64 1, .int .i64 lt, .slice A' ins.length c'] 41))
        clear hst hnx hE
        go_wp2
        go_roundw
        case rel => exact ⟨k + 1, by omega, by go_num, by rw [HNX.out]; exact HX.out⟩
        case measure => simp [intOf]; omega
      · as_aux_lemma =>
        obtain ⟨hlit, hin⟩ := HLO.out rfl
        obtain ⟨m, hm1, hm2, hlt2⟩ := litOk_split hlit
        have hm128 := hm2
        have hha := fun W => has_any W a (m : Int)
        have hhf := fun W => has_any W f (m : Int)
        obtain ⟨B, hB⟩ : ∃ B, has a (m : Int) = B := ⟨_, rfl⟩
        obtain ⟨C, hC⟩ : ∃ B, has f (m : Int) = B := ⟨_, rfl⟩
        simp only [hB] at hha
        simp only [hC] at hhf
        obtain ⟨hv1, hv2⟩ := litVar_nat m (by omega)
        have HHA := Lib.hid hha
        have HHF := Lib.hid hhf
        have HN1 : Hid (w.heap.size + 1 + 1 + 1 ≠ w.heap.size) := Lib.hid (by omega)
        have HN2 : Hid (w.heap.size + 1 + 1 + 1 ≠ w.heap.size + 1) := Lib.hid (by omega)
        have HN3 : Hid (w.heap.size + 1 + 1 + 1 ≠ wr.heap.size) := Lib.hid (by omega)
        rcases hlt2 with rfl | rfl
        · as_aux_lemma =>
          have hst : ptStep (own N.l) a f L ⟨2, (m : Int), ins⟩ = (if C = false ∨ B = true then ⟨wth 0 (m : Int), true⟩ else ⟨0, false⟩ : Pt) := by
            rw [hin]
            show ptStart a f ⟨2, (m : Int), []⟩ = _
            unfold ptStart
            simp only [hv1, hB, hC]
            rw [if_neg (by decide), if_pos trivial, decide_eq_true (show (0 : Int) < (m : Int) by omega)]
            cases B <;> cases C <;> rfl
          have hp1 : max (m : Int) (-(m : Int)) = (m : Int) := by omega
          have hp2 : (0 : Int) < (m : Int) := by omega
          have hp5 : 0 < m := hm1
          have hnx := HT.out
          rw [hst] at hnx
          have HNX := Lib.hid hnx
          have hq := hE.alloc (.cells #[.int .i64 2, .int .i64 (m : Int), .slice A' ins.length c'] 41)
          have hnr := ndNew wr ⟨2, (m : Int), ins⟩ A' c' 41 _ rfl
          have HQ := Lib.hid (And.intro hq hnr)
          clear hst hnx hq hnr hha hhf hB hC hv1 hv2 hlit hin HLO HT hE
          go_wp2
          obtain ⟨q1, q2⟩ := HQ.out
          replace q1 := q1.drew
          replace q2 := q2.drew
          obtain ⟨n1, n2, n3⟩ := ndCells q2
          obtain ⟨a1, a2⟩ := cellsOf q1.a
          obtain ⟨b1, b2⟩ := cellsOf q1.f
          obtain ⟨p1, p2, p3, p4, p5, p6⟩ := ptsAt (L := L) q1.start.out k hlt HLL.out
          clear HQ
          cases C
          · as_aux_lemma =>
            clear HHA
            refine wp_region_heldE (fun w' => w'.cell? ⟨w.heap.size, 0, none⟩ = some (Value.int .u64 (lo a : Int)) ∧ w'.cell? ⟨w.heap.size, 1, none⟩ = some (Value.int .u64 (hi a : Int)) ∧ w'.cell? ⟨w.heap.size + 1, 0, none⟩ = some (Value.int .u64 (lo f : Int)) ∧ w'.cell? ⟨w.heap.size + 1, 1, none⟩ = some (Value.int .u64 (hi f : Int)) ∧ w'.cell? ⟨wr.heap.size, 1, none⟩ = some (Value.int .i64 (m : Int))) 17 (by kernel_rfl) ⟨a1, a2, b1, b2, n2⟩ (fun hS => ?_)
            refine wpAnyE_take (i := 0) (v := ?_) hS (by kernel_rfl) rfl (by kernel_rfl) (by kernel_rfl) (fun _ _ _ h => h) (Or.inl ⟨by rfl, ?_⟩) ?_
            rotate_left
            · as_aux_lemma =>
              (intro w hSw; go_simp; try with_reducible rfl)
            try simp only [Act.put, List.getElem_toArray, List.getElem_cons_succ, List.getElem_cons_zero, List.setIfInBounds_toArray, List.set_cons_zero, List.set_cons_succ]
            refine wpAnyE_take (i := 1) (v := ?_) hS (by kernel_rfl) rfl (by kernel_rfl) (by kernel_rfl) (fun _ _ _ h => h) (Or.inl ⟨by rfl, ?_⟩) ?_
            rotate_left
            · as_aux_lemma =>
              (intro w hSw; go_simp; try with_reducible rfl)
            try simp only [Act.put, List.getElem_toArray, List.getElem_cons_succ, List.getElem_cons_zero, List.setIfInBounds_toArray, List.set_cons_zero, List.set_cons_succ]
            refine wpAnyE_take (i := 2) (v := ?_) hS (by kernel_rfl) rfl (by kernel_rfl) (by kernel_rfl) (fun _ _ _ h => h) (Or.inl ⟨by rfl, ?_⟩) ?_
            rotate_left
            · as_aux_lemma =>
              (intro w hSw; go_simp; try with_reducible rfl)
            try simp only [Act.put, List.getElem_toArray, List.getElem_cons_succ, List.getElem_cons_zero, List.setIfInBounds_toArray, List.set_cons_zero, List.set_cons_succ]
            refine wpAnyE_take (i := 3) (v := ?_) hS (by kernel_rfl) rfl (by kernel_rfl) (by kernel_rfl) (fun _ _ _ h => h) (Or.inl ⟨by rfl, ?_⟩) ?_
            rotate_left
            · as_aux_lemma =>
              (intro w hSw; go_simp; try with_reducible rfl)
            try simp only [Act.put, List.getElem_toArray, List.getElem_cons_succ, List.getElem_cons_zero, List.setIfInBounds_toArray, List.set_cons_zero, List.set_cons_succ]
            refine wpAnyE_one 4 (by kernel_rfl) rfl (fun K hK => ?_)
            go_simp
            go_at_call 75
            (with_reducible refine (HHF.out _).mono ?_)
            rintro e w5 ⟨rfl, hb5⟩
            replace q1 := q1.below hb5
            replace q2 := rowBelow q2 hb5
            obtain ⟨n1, n2, n3⟩ := ndCells q2
            obtain ⟨a1, a2⟩ := cellsOf q1.a
            obtain ⟨b1, b2⟩ := cellsOf q1.f
            obtain ⟨p1, p2, p3, p4, p5, p6⟩ := ptsAt (L := L) q1.start.out k hlt HLL.out
            refine hK.out _ _ (fun _ => ⟨a1, a2, b1, b2, n2⟩) (fun hS => ?_)
            replace hS := hS (by decide)
            clear hK K
            try simp only [Act.put, List.getElem_toArray, List.getElem_cons_succ, List.getElem_cons_zero, List.setIfInBounds_toArray, List.set_cons_zero, List.set_cons_succ]
            refine wpAnyE_take (i := 5) (v := ?_) hS (by kernel_rfl) rfl (by kernel_rfl) (by kernel_rfl) (fun _ _ _ h => h) (Or.inl ⟨by rfl, ?_⟩) ?_
            rotate_left
            · as_aux_lemma =>
              (intro w hSw; go_simp; try with_reducible rfl)
            try simp only [Act.put, List.getElem_toArray, List.getElem_cons_succ, List.getElem_cons_zero, List.setIfInBounds_toArray, List.set_cons_zero, List.set_cons_succ]
            refine wpAnyE_take (i := 6) (v := ?_) hS (by kernel_rfl) rfl (by kernel_rfl) (by kernel_rfl) (fun _ _ _ h => h) (Or.inl ⟨by rfl, ?_⟩) ?_
            rotate_left
            · as_aux_lemma =>
              (intro w hSw; go_simp; try with_reducible rfl)
            try simp only [Act.put, List.getElem_toArray, List.getElem_cons_succ, List.getElem_cons_zero, List.setIfInBounds_toArray, List.set_cons_zero, List.set_cons_succ]
            refine wpAnyE_take (i := 7) (v := undef) hS (by kernel_rfl) rfl (by kernel_rfl) (by kernel_rfl) (fun _ _ _ h => h) (Or.inr ⟨by rfl, rfl⟩) ?_
            simp only [Act.put, List.getElem_toArray, List.getElem_cons_succ, List.getElem_cons_zero, List.setIfInBounds_toArray, List.set_cons_zero, List.set_cons_succ]
            refine wpAnyE_take (i := 8) (v := undef) hS (by kernel_rfl) rfl (by kernel_rfl) (by kernel_rfl) (fun _ _ _ h => h) (Or.inr ⟨by rfl, rfl⟩) ?_
            simp only [Act.put, List.getElem_toArray, List.getElem_cons_succ, List.getElem_cons_zero, List.setIfInBounds_toArray, List.set_cons_zero, List.set_cons_succ]
            refine wpAnyE_take (i := 9) (v := undef) hS (by kernel_rfl) rfl (by kernel_rfl) (by kernel_rfl) (fun _ _ _ h => h) (Or.inr ⟨by rfl, rfl⟩) ?_
            simp only [Act.put, List.getElem_toArray, List.getElem_cons_succ, List.getElem_cons_zero, List.setIfInBounds_toArray, List.set_cons_zero, List.set_cons_succ]
            refine wpAnyE_take (i := 10) (v := undef) hS (by kernel_rfl) rfl (by kernel_rfl) (by kernel_rfl) (fun _ _ _ h => h) (Or.inr ⟨by rfl, rfl⟩) ?_
            simp only [Act.put, List.getElem_toArray, List.getElem_cons_succ, List.getElem_cons_zero, List.setIfInBounds_toArray, List.set_cons_zero, List.set_cons_succ]
            refine wpAnyE_take (i := 11) (v := undef) hS (by kernel_rfl) rfl (by kernel_rfl) (by kernel_rfl) (fun _ _ _ h => h) (Or.inr ⟨by rfl, rfl⟩) ?_
            simp only [Act.put, List.getElem_toArray, List.getElem_cons_succ, List.getElem_cons_zero, List.setIfInBounds_toArray, List.set_cons_zero, List.set_cons_succ]
            refine wpAnyE_take (i := 12) (v := undef) hS (by kernel_rfl) rfl (by kernel_rfl) (by kernel_rfl) (fun _ _ _ h => h) (Or.inr ⟨by rfl, rfl⟩) ?_
            simp only [Act.put, List.getElem_toArray, List.getElem_cons_succ, List.getElem_cons_zero, List.setIfInBounds_toArray, List.set_cons_zero, List.set_cons_succ]
            refine wpAnyE_take (i := 13) (v := undef) hS (by kernel_rfl) rfl (by kernel_rfl) (by kernel_rfl) (fun _ _ _ h => h) (Or.inr ⟨by rfl, rfl⟩) ?_
            simp only [Act.put, List.getElem_toArray, List.getElem_cons_succ, List.getElem_cons_zero, List.setIfInBounds_toArray, List.set_cons_zero, List.set_cons_succ]
            refine wpAnyE_take (i := 14) (v := ?_) hS (by kernel_rfl) rfl (by kernel_rfl) (by kernel_rfl) (fun _ _ _ h => h) (Or.inl ⟨by rfl, ?_⟩) ?_
            rotate_left
            · as_aux_lemma =>
              (intro w hSw; go_simp; try with_reducible rfl)
            try simp only [Act.put, List.getElem_toArray, List.getElem_cons_succ, List.getElem_cons_zero, List.setIfInBounds_toArray, List.set_cons_zero, List.set_cons_succ]
            refine wpAnyE_take (i := 15) (v := ?_) hS (by kernel_rfl) rfl (by kernel_rfl) (by kernel_rfl) (fun _ _ _ h => h) (Or.inl ⟨by rfl, ?_⟩) ?_
            rotate_left
            · as_aux_lemma =>
              (intro w hSw; go_simp; try with_reducible rfl)
            try simp only [Act.put, List.getElem_toArray, List.getElem_cons_succ, List.getElem_cons_zero, List.setIfInBounds_toArray, List.set_cons_zero, List.set_cons_succ]
            refine wpAnyE_take (i := 16) (v := ?_) hS (by kernel_rfl) rfl (by kernel_rfl) (by kernel_rfl) (fun _ _ _ h => h) (Or.inl ⟨by rfl, ?_⟩) ?_
            rotate_left
            · as_aux_lemma =>
              (intro w hSw; go_simp; try with_reducible rfl)
            try simp only [Act.put, List.getElem_toArray, List.getElem_cons_succ, List.getElem_cons_zero, List.setIfInBounds_toArray, List.set_cons_zero, List.set_cons_succ]
            refine wpAnyE_one 17 (by kernel_rfl) rfl (fun K hK => ?_)
            go_simp
            refine hK.out _ _ (fun h => absurd rfl h) (fun _ => ?_)
            clear hK K
            refine wpAnyE_done (by kernel_rfl) ?_ _
            all_goals
              have HX2 := Lib.hid (HNX.out.trans (by rw [if_pos (by simp)]))
              have q3 := q1.start.ok hgl hql true k HLL.out.symm
              have q4 := q2.setOther (a := ⟨w.heap.size + 1 + 1 + 1, k * 3 + 2, none⟩) (Ne.symm HN3.out) (.bool true)
              generalize w5.setCell ⟨w.heap.size + 1 + 1 + 1, k * 3 + 2, none⟩ (.bool true) = W3 at q3 q4 ⊢
              obtain ⟨n1, n2, n3⟩ := ndCells q4
              obtain ⟨p1, p2, p3, p4, p5, p6⟩ := ptsAt (L := L) q3.out k hlt HLL.out
              go_wp2_with (go_at_call 74; (with_reducible refine (of_one _ (m : Int)).mono ?_); rintro e w7 ⟨rfl, hb7⟩; have q5 := q3.below (((Below.refl _ _).alloc (Nat.le_refl _) _).trans (hb7.mono (by omega))); obtain ⟨r1, r2, r3, r4, r5, r6⟩ := ptsAt (L := L) q5.out k hlt HLL.out)
              go_roundw
              case rel => exact ⟨k + 1, by omega, by go_num, by rw [HX2.out]; exact q5.set hgl hql (wth 0 (m : Int)) k HLL.out.symm⟩
              case measure => simp [intOf]; omega
          · as_aux_lemma =>
            cases B
            · as_aux_lemma =>
              refine wp_region_heldE (fun w' => w'.cell? ⟨w.heap.size, 0, none⟩ = some (Value.int .u64 (lo a : Int)) ∧ w'.cell? ⟨w.heap.size, 1, none⟩ = some (Value.int .u64 (hi a : Int)) ∧ w'.cell? ⟨w.heap.size + 1, 0, none⟩ = some (Value.int .u64 (lo f : Int)) ∧ w'.cell? ⟨w.heap.size + 1, 1, none⟩ = some (Value.int .u64 (hi f : Int)) ∧ w'.cell? ⟨wr.heap.size, 1, none⟩ = some (Value.int .i64 (m : Int))) 17 (by kernel_rfl) ⟨a1, a2, b1, b2, n2⟩ (fun hS => ?_)
              refine wpAnyE_take (i := 0) (v := ?_) hS (by kernel_rfl) rfl (by kernel_rfl) (by kernel_rfl) (fun _ _ _ h => h) (Or.inl ⟨by rfl, ?_⟩) ?_
              rotate_left
              · (intro w hSw; go_simp; try with_reducible rfl)
              try simp only [Act.put, List.getElem_toArray, List.getElem_cons_succ, List.getElem_cons_zero, List.setIfInBounds_toArray, List.set_cons_zero, List.set_cons_succ]
              refine wpAnyE_take (i := 1) (v := ?_) hS (by kernel_rfl) rfl (by kernel_rfl) (by kernel_rfl) (fun _ _ _ h => h) (Or.inl ⟨by rfl, ?_⟩) ?_
              rotate_left
              · (intro w hSw; go_simp; try with_reducible rfl)
              try simp only [Act.put, List.getElem_toArray, List.getElem_cons_succ, List.getElem_cons_zero, List.setIfInBounds_toArray, List.set_cons_zero, List.set_cons_succ]
              refine wpAnyE_take (i := 2) (v := ?_) hS (by kernel_rfl) rfl (by kernel_rfl) (by kernel_rfl) (fun _ _ _ h => h) (Or.inl ⟨by rfl, ?_⟩) ?_
              rotate_left
              · (intro w hSw; go_simp; try with_reducible rfl)
              try simp only [Act.put, List.getElem_toArray, List.getElem_cons_succ, List.getElem_cons_zero, List.setIfInBounds_toArray, List.set_cons_zero, List.set_cons_succ]
              refine wpAnyE_take (i := 3) (v := ?_) hS (by kernel_rfl) rfl (by kernel_rfl) (by kernel_rfl) (fun _ _ _ h => h) (Or.inl ⟨by rfl, ?_⟩) ?_
              rotate_left
              · (intro w hSw; go_simp; try with_reducible rfl)
              try simp only [Act.put, List.getElem_toArray, List.getElem_cons_succ, List.getElem_cons_zero, List.setIfInBounds_toArray, List.set_cons_zero, List.set_cons_succ]
              refine wpAnyE_one 4 (by kernel_rfl) rfl (fun K hK => ?_)
              go_simp
              go_at_call 75
              (with_reducible refine (HHF.out _).mono ?_)
              rintro e w5 ⟨rfl, hb5⟩
              replace q1 := q1.below hb5
              replace q2 := rowBelow q2 hb5
              obtain ⟨n1, n2, n3⟩ := ndCells q2
              obtain ⟨a1, a2⟩ := cellsOf q1.a
              obtain ⟨b1, b2⟩ := cellsOf q1.f
              obtain ⟨p1, p2, p3, p4, p5, p6⟩ := ptsAt (L := L) q1.start.out k hlt HLL.out
              refine hK.out _ _ (fun _ => ⟨a1, a2, b1, b2, n2⟩) (fun hS => ?_)
              replace hS := hS (by decide)
              clear hK K
              try simp only [Act.put, List.getElem_toArray, List.getElem_cons_succ, List.getElem_cons_zero, List.setIfInBounds_toArray, List.set_cons_zero, List.set_cons_succ]
              refine wpAnyE_take (i := 5) (v := ?_) hS (by kernel_rfl) rfl (by kernel_rfl) (by kernel_rfl) (fun _ _ _ h => h) (Or.inl ⟨by rfl, ?_⟩) ?_
              rotate_left
              · (intro w hSw; go_simp; try with_reducible rfl)
              try simp only [Act.put, List.getElem_toArray, List.getElem_cons_succ, List.getElem_cons_zero, List.setIfInBounds_toArray, List.set_cons_zero, List.set_cons_succ]
              refine wpAnyE_take (i := 6) (v := ?_) hS (by kernel_rfl) rfl (by kernel_rfl) (by kernel_rfl) (fun _ _ _ h => h) (Or.inl ⟨by rfl, ?_⟩) ?_
              rotate_left
              · (intro w hSw; go_simp; try with_reducible rfl)
              try simp only [Act.put, List.getElem_toArray, List.getElem_cons_succ, List.getElem_cons_zero, List.setIfInBounds_toArray, List.set_cons_zero, List.set_cons_succ]
              refine wpAnyE_take (i := 7) (v := ?_) hS (by kernel_rfl) rfl (by kernel_rfl) (by kernel_rfl) (fun _ _ _ h => h) (Or.inl ⟨by rfl, ?_⟩) ?_
              rotate_left
              · (intro w hSw; go_simp; try with_reducible rfl)
              try simp only [Act.put, List.getElem_toArray, List.getElem_cons_succ, List.getElem_cons_zero, List.setIfInBounds_toArray, List.set_cons_zero, List.set_cons_succ]
              refine wpAnyE_take (i := 8) (v := ?_) hS (by kernel_rfl) rfl (by kernel_rfl) (by kernel_rfl) (fun _ _ _ h => h) (Or.inl ⟨by rfl, ?_⟩) ?_
              rotate_left
              · (intro w hSw; go_simp; try with_reducible rfl)
              try simp only [Act.put, List.getElem_toArray, List.getElem_cons_succ, List.getElem_cons_zero, List.setIfInBounds_toArray, List.set_cons_zero, List.set_cons_succ]
              refine wpAnyE_take (i := 10) (v := ?_) hS (by kernel_rfl) rfl (by kernel_rfl) (by kernel_rfl) (fun _ _ _ h => h) (Or.inl ⟨by rfl, ?_⟩) ?_
              rotate_left
              · (intro w hSw; go_simp; try with_reducible rfl)
              try simp only [Act.put, List.getElem_toArray, List.getElem_cons_succ, List.getElem_cons_zero, List.setIfInBounds_toArray, List.set_cons_zero, List.set_cons_succ]
              refine wpAnyE_take (i := 11) (v := ?_) hS (by kernel_rfl) rfl (by kernel_rfl) (by kernel_rfl) (fun _ _ _ h => h) (Or.inl ⟨by rfl, ?_⟩) ?_
              rotate_left
              · (intro w hSw; go_simp; try with_reducible rfl)
              try simp only [Act.put, List.getElem_toArray, List.getElem_cons_succ, List.getElem_cons_zero, List.setIfInBounds_toArray, List.set_cons_zero, List.set_cons_succ]
              refine wpAnyE_take (i := 12) (v := ?_) hS (by kernel_rfl) rfl (by kernel_rfl) (by kernel_rfl) (fun _ _ _ h => h) (Or.inl ⟨by rfl, ?_⟩) ?_
              rotate_left
              · (intro w hSw; go_simp; try with_reducible rfl)
              try simp only [Act.put, List.getElem_toArray, List.getElem_cons_succ, List.getElem_cons_zero, List.setIfInBounds_toArray, List.set_cons_zero, List.set_cons_succ]
              refine wpAnyE_one 9 (by kernel_rfl) rfl (fun K hK => ?_)
              go_simp
              go_at_call 75
              (with_reducible refine (HHA.out _).mono ?_)
              rintro e w5 ⟨rfl, hb5⟩
              replace q1 := q1.below hb5
              replace q2 := rowBelow q2 hb5
              obtain ⟨n1, n2, n3⟩ := ndCells q2
              obtain ⟨a1, a2⟩ := cellsOf q1.a
              obtain ⟨b1, b2⟩ := cellsOf q1.f
              obtain ⟨p1, p2, p3, p4, p5, p6⟩ := ptsAt (L := L) q1.start.out k hlt HLL.out
              refine hK.out _ _ (fun _ => ⟨a1, a2, b1, b2, n2⟩) (fun hS => ?_)
              replace hS := hS (by decide)
              clear hK K
              try simp only [Act.put, List.getElem_toArray, List.getElem_cons_succ, List.getElem_cons_zero, List.setIfInBounds_toArray, List.set_cons_zero, List.set_cons_succ]
              refine wpAnyE_take (i := 13) (v := ?_) hS (by kernel_rfl) rfl (by kernel_rfl) (by kernel_rfl) (fun _ _ _ h => h) (Or.inl ⟨by rfl, ?_⟩) ?_
              rotate_left
              · (intro w hSw; go_simp; try with_reducible rfl)
              try simp only [Act.put, List.getElem_toArray, List.getElem_cons_succ, List.getElem_cons_zero, List.setIfInBounds_toArray, List.set_cons_zero, List.set_cons_succ]
              refine wpAnyE_take (i := 14) (v := ?_) hS (by kernel_rfl) rfl (by kernel_rfl) (by kernel_rfl) (fun _ _ _ h => h) (Or.inl ⟨by rfl, ?_⟩) ?_
              rotate_left
              · (intro w hSw; go_simp; try with_reducible rfl)
              try simp only [Act.put, List.getElem_toArray, List.getElem_cons_succ, List.getElem_cons_zero, List.setIfInBounds_toArray, List.set_cons_zero, List.set_cons_succ]
              refine wpAnyE_take (i := 15) (v := ?_) hS (by kernel_rfl) rfl (by kernel_rfl) (by kernel_rfl) (fun _ _ _ h => h) (Or.inl ⟨by rfl, ?_⟩) ?_
              rotate_left
              · (intro w hSw; go_simp; try with_reducible rfl)
              try simp only [Act.put, List.getElem_toArray, List.getElem_cons_succ, List.getElem_cons_zero, List.setIfInBounds_toArray, List.set_cons_zero, List.set_cons_succ]
              refine wpAnyE_take (i := 16) (v := ?_) hS (by kernel_rfl) rfl (by kernel_rfl) (by kernel_rfl) (fun _ _ _ h => h) (Or.inl ⟨by rfl, ?_⟩) ?_
              rotate_left
              · (intro w hSw; go_simp; try with_reducible rfl)
              try simp only [Act.put, List.getElem_toArray, List.getElem_cons_succ, List.getElem_cons_zero, List.setIfInBounds_toArray, List.set_cons_zero, List.set_cons_succ]
              refine wpAnyE_one 17 (by kernel_rfl) rfl (fun K hK => ?_)
              go_simp
              refine hK.out _ _ (fun h => absurd rfl h) (fun _ => ?_)
              clear hK K
              refine wpAnyE_done (by kernel_rfl) ?_ _
              all_goals
                have HX2 := Lib.hid (HNX.out.trans (by rw [if_neg (by simp)]))
                have q3 := q1.start.ok hgl hql false k HLL.out.symm
                have q4 := q2.setOther (a := ⟨w.heap.size + 1 + 1 + 1, k * 3 + 2, none⟩) (Ne.symm HN3.out) (.bool false)
                generalize w5.setCell ⟨w.heap.size + 1 + 1 + 1, k * 3 + 2, none⟩ (.bool false) = W3 at q3 q4 ⊢
                obtain ⟨n1, n2, n3⟩ := ndCells q4
                obtain ⟨p1, p2, p3, p4, p5, p6⟩ := ptsAt (L := L) q3.out k hlt HLL.out
                go_wp2
                go_roundw
                case rel => exact ⟨k + 1, by omega, by go_num, by rw [HX2.out]; exact q3⟩
                case measure => simp [intOf]; omega

            · as_aux_lemma =>
              refine wp_region_heldE (fun w' => w'.cell? ⟨w.heap.size, 0, none⟩ = some (Value.int .u64 (lo a : Int)) ∧ w'.cell? ⟨w.heap.size, 1, none⟩ = some (Value.int .u64 (hi a : Int)) ∧ w'.cell? ⟨w.heap.size + 1, 0, none⟩ = some (Value.int .u64 (lo f : Int)) ∧ w'.cell? ⟨w.heap.size + 1, 1, none⟩ = some (Value.int .u64 (hi f : Int)) ∧ w'.cell? ⟨wr.heap.size, 1, none⟩ = some (Value.int .i64 (m : Int))) 17 (by kernel_rfl) ⟨a1, a2, b1, b2, n2⟩ (fun hS => ?_)
              refine wpAnyE_take (i := 0) (v := ?_) hS (by kernel_rfl) rfl (by kernel_rfl) (by kernel_rfl) (fun _ _ _ h => h) (Or.inl ⟨by rfl, ?_⟩) ?_
              rotate_left
              · (intro w hSw; go_simp; try with_reducible rfl)
              try simp only [Act.put, List.getElem_toArray, List.getElem_cons_succ, List.getElem_cons_zero, List.setIfInBounds_toArray, List.set_cons_zero, List.set_cons_succ]
              refine wpAnyE_take (i := 1) (v := ?_) hS (by kernel_rfl) rfl (by kernel_rfl) (by kernel_rfl) (fun _ _ _ h => h) (Or.inl ⟨by rfl, ?_⟩) ?_
              rotate_left
              · (intro w hSw; go_simp; try with_reducible rfl)
              try simp only [Act.put, List.getElem_toArray, List.getElem_cons_succ, List.getElem_cons_zero, List.setIfInBounds_toArray, List.set_cons_zero, List.set_cons_succ]
              refine wpAnyE_take (i := 2) (v := ?_) hS (by kernel_rfl) rfl (by kernel_rfl) (by kernel_rfl) (fun _ _ _ h => h) (Or.inl ⟨by rfl, ?_⟩) ?_
              rotate_left
              · (intro w hSw; go_simp; try with_reducible rfl)
              try simp only [Act.put, List.getElem_toArray, List.getElem_cons_succ, List.getElem_cons_zero, List.setIfInBounds_toArray, List.set_cons_zero, List.set_cons_succ]
              refine wpAnyE_take (i := 3) (v := ?_) hS (by kernel_rfl) rfl (by kernel_rfl) (by kernel_rfl) (fun _ _ _ h => h) (Or.inl ⟨by rfl, ?_⟩) ?_
              rotate_left
              · (intro w hSw; go_simp; try with_reducible rfl)
              try simp only [Act.put, List.getElem_toArray, List.getElem_cons_succ, List.getElem_cons_zero, List.setIfInBounds_toArray, List.set_cons_zero, List.set_cons_succ]
              refine wpAnyE_one 4 (by kernel_rfl) rfl (fun K hK => ?_)
              go_simp
              go_at_call 75
              (with_reducible refine (HHF.out _).mono ?_)
              rintro e w5 ⟨rfl, hb5⟩
              replace q1 := q1.below hb5
              replace q2 := rowBelow q2 hb5
              obtain ⟨n1, n2, n3⟩ := ndCells q2
              obtain ⟨a1, a2⟩ := cellsOf q1.a
              obtain ⟨b1, b2⟩ := cellsOf q1.f
              obtain ⟨p1, p2, p3, p4, p5, p6⟩ := ptsAt (L := L) q1.start.out k hlt HLL.out
              refine hK.out _ _ (fun _ => ⟨a1, a2, b1, b2, n2⟩) (fun hS => ?_)
              replace hS := hS (by decide)
              clear hK K
              try simp only [Act.put, List.getElem_toArray, List.getElem_cons_succ, List.getElem_cons_zero, List.setIfInBounds_toArray, List.set_cons_zero, List.set_cons_succ]
              refine wpAnyE_take (i := 5) (v := ?_) hS (by kernel_rfl) rfl (by kernel_rfl) (by kernel_rfl) (fun _ _ _ h => h) (Or.inl ⟨by rfl, ?_⟩) ?_
              rotate_left
              · (intro w hSw; go_simp; try with_reducible rfl)
              try simp only [Act.put, List.getElem_toArray, List.getElem_cons_succ, List.getElem_cons_zero, List.setIfInBounds_toArray, List.set_cons_zero, List.set_cons_succ]
              refine wpAnyE_take (i := 6) (v := ?_) hS (by kernel_rfl) rfl (by kernel_rfl) (by kernel_rfl) (fun _ _ _ h => h) (Or.inl ⟨by rfl, ?_⟩) ?_
              rotate_left
              · (intro w hSw; go_simp; try with_reducible rfl)
              try simp only [Act.put, List.getElem_toArray, List.getElem_cons_succ, List.getElem_cons_zero, List.setIfInBounds_toArray, List.set_cons_zero, List.set_cons_succ]
              refine wpAnyE_take (i := 7) (v := ?_) hS (by kernel_rfl) rfl (by kernel_rfl) (by kernel_rfl) (fun _ _ _ h => h) (Or.inl ⟨by rfl, ?_⟩) ?_
              rotate_left
              · (intro w hSw; go_simp; try with_reducible rfl)
              try simp only [Act.put, List.getElem_toArray, List.getElem_cons_succ, List.getElem_cons_zero, List.setIfInBounds_toArray, List.set_cons_zero, List.set_cons_succ]
              refine wpAnyE_take (i := 8) (v := ?_) hS (by kernel_rfl) rfl (by kernel_rfl) (by kernel_rfl) (fun _ _ _ h => h) (Or.inl ⟨by rfl, ?_⟩) ?_
              rotate_left
              · (intro w hSw; go_simp; try with_reducible rfl)
              try simp only [Act.put, List.getElem_toArray, List.getElem_cons_succ, List.getElem_cons_zero, List.setIfInBounds_toArray, List.set_cons_zero, List.set_cons_succ]
              refine wpAnyE_take (i := 10) (v := ?_) hS (by kernel_rfl) rfl (by kernel_rfl) (by kernel_rfl) (fun _ _ _ h => h) (Or.inl ⟨by rfl, ?_⟩) ?_
              rotate_left
              · (intro w hSw; go_simp; try with_reducible rfl)
              try simp only [Act.put, List.getElem_toArray, List.getElem_cons_succ, List.getElem_cons_zero, List.setIfInBounds_toArray, List.set_cons_zero, List.set_cons_succ]
              refine wpAnyE_take (i := 11) (v := ?_) hS (by kernel_rfl) rfl (by kernel_rfl) (by kernel_rfl) (fun _ _ _ h => h) (Or.inl ⟨by rfl, ?_⟩) ?_
              rotate_left
              · (intro w hSw; go_simp; try with_reducible rfl)
              try simp only [Act.put, List.getElem_toArray, List.getElem_cons_succ, List.getElem_cons_zero, List.setIfInBounds_toArray, List.set_cons_zero, List.set_cons_succ]
              refine wpAnyE_take (i := 12) (v := ?_) hS (by kernel_rfl) rfl (by kernel_rfl) (by kernel_rfl) (fun _ _ _ h => h) (Or.inl ⟨by rfl, ?_⟩) ?_
              rotate_left
              · (intro w hSw; go_simp; try with_reducible rfl)
              try simp only [Act.put, List.getElem_toArray, List.getElem_cons_succ, List.getElem_cons_zero, List.setIfInBounds_toArray, List.set_cons_zero, List.set_cons_succ]
              refine wpAnyE_one 9 (by kernel_rfl) rfl (fun K hK => ?_)
              go_simp
              go_at_call 75
              (with_reducible refine (HHA.out _).mono ?_)
              rintro e w5 ⟨rfl, hb5⟩
              replace q1 := q1.below hb5
              replace q2 := rowBelow q2 hb5
              obtain ⟨n1, n2, n3⟩ := ndCells q2
              obtain ⟨a1, a2⟩ := cellsOf q1.a
              obtain ⟨b1, b2⟩ := cellsOf q1.f
              obtain ⟨p1, p2, p3, p4, p5, p6⟩ := ptsAt (L := L) q1.start.out k hlt HLL.out
              refine hK.out _ _ (fun _ => ⟨a1, a2, b1, b2, n2⟩) (fun hS => ?_)
              replace hS := hS (by decide)
              clear hK K
              try simp only [Act.put, List.getElem_toArray, List.getElem_cons_succ, List.getElem_cons_zero, List.setIfInBounds_toArray, List.set_cons_zero, List.set_cons_succ]
              refine wpAnyE_take (i := 13) (v := ?_) hS (by kernel_rfl) rfl (by kernel_rfl) (by kernel_rfl) (fun _ _ _ h => h) (Or.inl ⟨by rfl, ?_⟩) ?_
              rotate_left
              · (intro w hSw; go_simp; try with_reducible rfl)
              try simp only [Act.put, List.getElem_toArray, List.getElem_cons_succ, List.getElem_cons_zero, List.setIfInBounds_toArray, List.set_cons_zero, List.set_cons_succ]
              refine wpAnyE_take (i := 14) (v := ?_) hS (by kernel_rfl) rfl (by kernel_rfl) (by kernel_rfl) (fun _ _ _ h => h) (Or.inl ⟨by rfl, ?_⟩) ?_
              rotate_left
              · (intro w hSw; go_simp; try with_reducible rfl)
              try simp only [Act.put, List.getElem_toArray, List.getElem_cons_succ, List.getElem_cons_zero, List.setIfInBounds_toArray, List.set_cons_zero, List.set_cons_succ]
              refine wpAnyE_take (i := 15) (v := ?_) hS (by kernel_rfl) rfl (by kernel_rfl) (by kernel_rfl) (fun _ _ _ h => h) (Or.inl ⟨by rfl, ?_⟩) ?_
              rotate_left
              · (intro w hSw; go_simp; try with_reducible rfl)
              try simp only [Act.put, List.getElem_toArray, List.getElem_cons_succ, List.getElem_cons_zero, List.setIfInBounds_toArray, List.set_cons_zero, List.set_cons_succ]
              refine wpAnyE_take (i := 16) (v := ?_) hS (by kernel_rfl) rfl (by kernel_rfl) (by kernel_rfl) (fun _ _ _ h => h) (Or.inl ⟨by rfl, ?_⟩) ?_
              rotate_left
              · (intro w hSw; go_simp; try with_reducible rfl)
              try simp only [Act.put, List.getElem_toArray, List.getElem_cons_succ, List.getElem_cons_zero, List.setIfInBounds_toArray, List.set_cons_zero, List.set_cons_succ]
              refine wpAnyE_one 17 (by kernel_rfl) rfl (fun K hK => ?_)
              go_simp
              refine hK.out _ _ (fun h => absurd rfl h) (fun _ => ?_)
              clear hK K
              refine wpAnyE_done (by kernel_rfl) ?_ _
              all_goals
                have HX2 := Lib.hid (HNX.out.trans (by rw [if_pos (by simp)]))
                have q3 := q1.start.ok hgl hql true k HLL.out.symm
                have q4 := q2.setOther (a := ⟨w.heap.size + 1 + 1 + 1, k * 3 + 2, none⟩) (Ne.symm HN3.out) (.bool true)
                generalize w5.setCell ⟨w.heap.size + 1 + 1 + 1, k * 3 + 2, none⟩ (.bool true) = W3 at q3 q4 ⊢
                obtain ⟨n1, n2, n3⟩ := ndCells q4
                obtain ⟨p1, p2, p3, p4, p5, p6⟩ := ptsAt (L := L) q3.out k hlt HLL.out
                go_wp2_with (go_at_call 74; (with_reducible refine (of_one _ (m : Int)).mono ?_); rintro e w7 ⟨rfl, hb7⟩; have q5 := q3.below (((Below.refl _ _).alloc (Nat.le_refl _) _).trans (hb7.mono (by omega))); obtain ⟨r1, r2, r3, r4, r5, r6⟩ := ptsAt (L := L) q5.out k hlt HLL.out)
                go_roundw
                case rel => exact ⟨k + 1, by omega, by go_num, by rw [HX2.out]; exact q5.set hgl hql (wth 0 (m : Int)) k HLL.out.symm⟩
                case measure => simp [intOf]; omega

        · as_aux_lemma =>
          have hst : ptStep (own N.l) a f L ⟨2, -(m : Int), ins⟩ = (if C = false ∨ B = false then ⟨0, true⟩ else ⟨0, false⟩ : Pt) := by
            rw [hin]
            show ptStart a f ⟨2, -(m : Int), []⟩ = _
            unfold ptStart
            simp only [hv2, hB, hC]
            rw [if_neg (by decide), if_pos trivial, decide_eq_false (show ¬ (0 : Int) < -(m : Int) by omega)]
            cases B <;> cases C <;> rfl
          have hp1 : max (-(m : Int)) (m : Int) = (m : Int) := by omega
          have hp2 : ¬ (0 : Int) < -(m : Int) := by omega
          have hp3 : (m : Int) ≤ 128 := by omega
          have hp4 : (0 : Int) ≤ (m : Int) := by omega
          have hp6 : decide ((m : Int) < 0) = false := decide_eq_false (by omega)
          have hnx := HT.out
          rw [hst] at hnx
          have HNX := Lib.hid hnx
          have hq := hE.alloc (.cells #[.int .i64 2, .int .i64 (-(m : Int)), .slice A' ins.length c'] 41)
          have hnr := ndNew wr ⟨2, -(m : Int), ins⟩ A' c' 41 _ rfl
          have HQ := Lib.hid (And.intro hq hnr)
          clear hst hnx hq hnr hha hhf hB hC hv1 hv2 hlit hin HLO HT hE
          go_wp2
          obtain ⟨q1, q2⟩ := HQ.out
          replace q1 := q1.drew
          replace q2 := q2.drew
          obtain ⟨n1, n2, n3⟩ := ndCells q2
          obtain ⟨a1, a2⟩ := cellsOf q1.a
          obtain ⟨b1, b2⟩ := cellsOf q1.f
          obtain ⟨p1, p2, p3, p4, p5, p6⟩ := ptsAt (L := L) q1.start.out k hlt HLL.out
          clear HQ
          cases C
          · as_aux_lemma =>
            clear HHA
            refine wp_region_heldE (fun w' => w'.cell? ⟨w.heap.size, 0, none⟩ = some (Value.int .u64 (lo a : Int)) ∧ w'.cell? ⟨w.heap.size, 1, none⟩ = some (Value.int .u64 (hi a : Int)) ∧ w'.cell? ⟨w.heap.size + 1, 0, none⟩ = some (Value.int .u64 (lo f : Int)) ∧ w'.cell? ⟨w.heap.size + 1, 1, none⟩ = some (Value.int .u64 (hi f : Int)) ∧ w'.cell? ⟨wr.heap.size, 1, none⟩ = some (Value.int .i64 (-(m : Int)))) 17 (by kernel_rfl) ⟨a1, a2, b1, b2, n2⟩ (fun hS => ?_)
            refine wpAnyE_take (i := 0) (v := ?_) hS (by kernel_rfl) rfl (by kernel_rfl) (by kernel_rfl) (fun _ _ _ h => h) (Or.inl ⟨by rfl, ?_⟩) ?_
            rotate_left
            · as_aux_lemma =>
              (intro w hSw; go_simp; try with_reducible rfl)
            try simp only [Act.put, List.getElem_toArray, List.getElem_cons_succ, List.getElem_cons_zero, List.setIfInBounds_toArray, List.set_cons_zero, List.set_cons_succ]
            refine wpAnyE_take (i := 1) (v := ?_) hS (by kernel_rfl) rfl (by kernel_rfl) (by kernel_rfl) (fun _ _ _ h => h) (Or.inl ⟨by rfl, ?_⟩) ?_
            rotate_left
            · as_aux_lemma =>
              (intro w hSw; go_simp; try with_reducible rfl)
            try simp only [Act.put, List.getElem_toArray, List.getElem_cons_succ, List.getElem_cons_zero, List.setIfInBounds_toArray, List.set_cons_zero, List.set_cons_succ]
            refine wpAnyE_take (i := 2) (v := ?_) hS (by kernel_rfl) rfl (by kernel_rfl) (by kernel_rfl) (fun _ _ _ h => h) (Or.inl ⟨by rfl, ?_⟩) ?_
            rotate_left
            · as_aux_lemma =>
              (intro w hSw; go_simp; try with_reducible rfl)
            try simp only [Act.put, List.getElem_toArray, List.getElem_cons_succ, List.getElem_cons_zero, List.setIfInBounds_toArray, List.set_cons_zero, List.set_cons_succ]
            refine wpAnyE_take (i := 3) (v := ?_) hS (by kernel_rfl) rfl (by kernel_rfl) (by kernel_rfl) (fun _ _ _ h => h) (Or.inl ⟨by rfl, ?_⟩) ?_
            rotate_left
            · as_aux_lemma =>
              (intro w hSw; go_simp; try with_reducible rfl)
            try simp only [Act.put, List.getElem_toArray, List.getElem_cons_succ, List.getElem_cons_zero, List.setIfInBounds_toArray, List.set_cons_zero, List.set_cons_succ]
            refine wpAnyE_one 4 (by kernel_rfl) rfl (fun K hK => ?_)
            go_simp
            go_at_call 75
            (with_reducible refine (HHF.out _).mono ?_)
            rintro e w5 ⟨rfl, hb5⟩
            replace q1 := q1.below hb5
            replace q2 := rowBelow q2 hb5
            obtain ⟨n1, n2, n3⟩ := ndCells q2
            obtain ⟨a1, a2⟩ := cellsOf q1.a
            obtain ⟨b1, b2⟩ := cellsOf q1.f
            obtain ⟨p1, p2, p3, p4, p5, p6⟩ := ptsAt (L := L) q1.start.out k hlt HLL.out
            refine hK.out _ _ (fun _ => ⟨a1, a2, b1, b2, n2⟩) (fun hS => ?_)
            replace hS := hS (by decide)
            clear hK K
            try simp only [Act.put, List.getElem_toArray, List.getElem_cons_succ, List.getElem_cons_zero, List.setIfInBounds_toArray, List.set_cons_zero, List.set_cons_succ]
            refine wpAnyE_take (i := 5) (v := ?_) hS (by kernel_rfl) rfl (by kernel_rfl) (by kernel_rfl) (fun _ _ _ h => h) (Or.inl ⟨by rfl, ?_⟩) ?_
            rotate_left
            · as_aux_lemma =>
              (intro w hSw; go_simp; try with_reducible rfl)
            try simp only [Act.put, List.getElem_toArray, List.getElem_cons_succ, List.getElem_cons_zero, List.setIfInBounds_toArray, List.set_cons_zero, List.set_cons_succ]
            refine wpAnyE_take (i := 6) (v := ?_) hS (by kernel_rfl) rfl (by kernel_rfl) (by kernel_rfl) (fun _ _ _ h => h) (Or.inl ⟨by rfl, ?_⟩) ?_
            rotate_left
            · as_aux_lemma =>
              (intro w hSw; go_simp; try with_reducible rfl)
            try simp only [Act.put, List.getElem_toArray, List.getElem_cons_succ, List.getElem_cons_zero, List.setIfInBounds_toArray, List.set_cons_zero, List.set_cons_succ]
            refine wpAnyE_take (i := 7) (v := undef) hS (by kernel_rfl) rfl (by kernel_rfl) (by kernel_rfl) (fun _ _ _ h => h) (Or.inr ⟨by rfl, rfl⟩) ?_
            simp only [Act.put, List.getElem_toArray, List.getElem_cons_succ, List.getElem_cons_zero, List.setIfInBounds_toArray, List.set_cons_zero, List.set_cons_succ]
            refine wpAnyE_take (i := 8) (v := undef) hS (by kernel_rfl) rfl (by kernel_rfl) (by kernel_rfl) (fun _ _ _ h => h) (Or.inr ⟨by rfl, rfl⟩) ?_
            simp only [Act.put, List.getElem_toArray, List.getElem_cons_succ, List.getElem_cons_zero, List.setIfInBounds_toArray, List.set_cons_zero, List.set_cons_succ]
            refine wpAnyE_take (i := 9) (v := undef) hS (by kernel_rfl) rfl (by kernel_rfl) (by kernel_rfl) (fun _ _ _ h => h) (Or.inr ⟨by rfl, rfl⟩) ?_
            simp only [Act.put, List.getElem_toArray, List.getElem_cons_succ, List.getElem_cons_zero, List.setIfInBounds_toArray, List.set_cons_zero, List.set_cons_succ]
            refine wpAnyE_take (i := 10) (v := undef) hS (by kernel_rfl) rfl (by kernel_rfl) (by kernel_rfl) (fun _ _ _ h => h) (Or.inr ⟨by rfl, rfl⟩) ?_
            simp only [Act.put, List.getElem_toArray, List.getElem_cons_succ, List.getElem_cons_zero, List.setIfInBounds_toArray, List.set_cons_zero, List.set_cons_succ]
            refine wpAnyE_take (i := 11) (v := undef) hS (by kernel_rfl) rfl (by kernel_rfl) (by kernel_rfl) (fun _ _ _ h => h) (Or.inr ⟨by rfl, rfl⟩) ?_
            simp only [Act.put, List.getElem_toArray, List.getElem_cons_succ, List.getElem_cons_zero, List.setIfInBounds_toArray, List.set_cons_zero, List.set_cons_succ]
            refine wpAnyE_take (i := 12) (v := undef) hS (by kernel_rfl) rfl (by kernel_rfl) (by kernel_rfl) (fun _ _ _ h => h) (Or.inr ⟨by rfl, rfl⟩) ?_
            simp only [Act.put, List.getElem_toArray, List.getElem_cons_succ, List.getElem_cons_zero, List.setIfInBounds_toArray, List.set_cons_zero, List.set_cons_succ]
            refine wpAnyE_take (i := 13) (v := undef) hS (by kernel_rfl) rfl (by kernel_rfl) (by kernel_rfl) (fun _ _ _ h => h) (Or.inr ⟨by rfl, rfl⟩) ?_
            simp only [Act.put, List.getElem_toArray, List.getElem_cons_succ, List.getElem_cons_zero, List.setIfInBounds_toArray, List.set_cons_zero, List.set_cons_succ]
            refine wpAnyE_take (i := 14) (v := ?_) hS (by kernel_rfl) rfl (by kernel_rfl) (by kernel_rfl) (fun _ _ _ h => h) (Or.inl ⟨by rfl, ?_⟩) ?_
            rotate_left
            · as_aux_lemma =>
              (intro w hSw; go_simp; try with_reducible rfl)
            try simp only [Act.put, List.getElem_toArray, List.getElem_cons_succ, List.getElem_cons_zero, List.setIfInBounds_toArray, List.set_cons_zero, List.set_cons_succ]
            refine wpAnyE_take (i := 15) (v := ?_) hS (by kernel_rfl) rfl (by kernel_rfl) (by kernel_rfl) (fun _ _ _ h => h) (Or.inl ⟨by rfl, ?_⟩) ?_
            rotate_left
            · as_aux_lemma =>
              (intro w hSw; go_simp; try with_reducible rfl)
            try simp only [Act.put, List.getElem_toArray, List.getElem_cons_succ, List.getElem_cons_zero, List.setIfInBounds_toArray, List.set_cons_zero, List.set_cons_succ]
            refine wpAnyE_take (i := 16) (v := ?_) hS (by kernel_rfl) rfl (by kernel_rfl) (by kernel_rfl) (fun _ _ _ h => h) (Or.inl ⟨by rfl, ?_⟩) ?_
            rotate_left
            · as_aux_lemma =>
              (intro w hSw; go_simp; try with_reducible rfl)
            try simp only [Act.put, List.getElem_toArray, List.getElem_cons_succ, List.getElem_cons_zero, List.setIfInBounds_toArray, List.set_cons_zero, List.set_cons_succ]
            refine wpAnyE_one 17 (by kernel_rfl) rfl (fun K hK => ?_)
            go_simp
            refine hK.out _ _ (fun h => absurd rfl h) (fun _ => ?_)
            clear hK K
            refine wpAnyE_done (by kernel_rfl) ?_ _
            all_goals
              have HX2 := Lib.hid (HNX.out.trans (by rw [if_pos (by simp)]))
              have q3 := q1.start.ok hgl hql true k HLL.out.symm
              have q4 := q2.setOther (a := ⟨w.heap.size + 1 + 1 + 1, k * 3 + 2, none⟩) (Ne.symm HN3.out) (.bool true)
              generalize w5.setCell ⟨w.heap.size + 1 + 1 + 1, k * 3 + 2, none⟩ (.bool true) = W3 at q3 q4 ⊢
              obtain ⟨n1, n2, n3⟩ := ndCells q4
              obtain ⟨p1, p2, p3, p4, p5, p6⟩ := ptsAt (L := L) q3.out k hlt HLL.out
              go_wp2
              go_roundw
              case rel => exact ⟨k + 1, by omega, by go_num, by rw [HX2.out]; exact q3⟩
              case measure => simp [intOf]; omega
          · as_aux_lemma =>
            cases B
            · as_aux_lemma =>
              refine wp_region_heldE (fun w' => w'.cell? ⟨w.heap.size, 0, none⟩ = some (Value.int .u64 (lo a : Int)) ∧ w'.cell? ⟨w.heap.size, 1, none⟩ = some (Value.int .u64 (hi a : Int)) ∧ w'.cell? ⟨w.heap.size + 1, 0, none⟩ = some (Value.int .u64 (lo f : Int)) ∧ w'.cell? ⟨w.heap.size + 1, 1, none⟩ = some (Value.int .u64 (hi f : Int)) ∧ w'.cell? ⟨wr.heap.size, 1, none⟩ = some (Value.int .i64 (-(m : Int)))) 17 (by kernel_rfl) ⟨a1, a2, b1, b2, n2⟩ (fun hS => ?_)
              refine wpAnyE_take (i := 0) (v := ?_) hS (by kernel_rfl) rfl (by kernel_rfl) (by kernel_rfl) (fun _ _ _ h => h) (Or.inl ⟨by rfl, ?_⟩) ?_
              rotate_left
              · (intro w hSw; go_simp; try with_reducible rfl)
              try simp only [Act.put, List.getElem_toArray, List.getElem_cons_succ, List.getElem_cons_zero, List.setIfInBounds_toArray, List.set_cons_zero, List.set_cons_succ]
              refine wpAnyE_take (i := 1) (v := ?_) hS (by kernel_rfl) rfl (by kernel_rfl) (by kernel_rfl) (fun _ _ _ h => h) (Or.inl ⟨by rfl, ?_⟩) ?_
              rotate_left
              · (intro w hSw; go_simp; try with_reducible rfl)
              try simp only [Act.put, List.getElem_toArray, List.getElem_cons_succ, List.getElem_cons_zero, List.setIfInBounds_toArray, List.set_cons_zero, List.set_cons_succ]
              refine wpAnyE_take (i := 2) (v := ?_) hS (by kernel_rfl) rfl (by kernel_rfl) (by kernel_rfl) (fun _ _ _ h => h) (Or.inl ⟨by rfl, ?_⟩) ?_
              rotate_left
              · (intro w hSw; go_simp; try with_reducible rfl)
              try simp only [Act.put, List.getElem_toArray, List.getElem_cons_succ, List.getElem_cons_zero, List.setIfInBounds_toArray, List.set_cons_zero, List.set_cons_succ]
              refine wpAnyE_take (i := 3) (v := ?_) hS (by kernel_rfl) rfl (by kernel_rfl) (by kernel_rfl) (fun _ _ _ h => h) (Or.inl ⟨by rfl, ?_⟩) ?_
              rotate_left
              · (intro w hSw; go_simp; try with_reducible rfl)
              try simp only [Act.put, List.getElem_toArray, List.getElem_cons_succ, List.getElem_cons_zero, List.setIfInBounds_toArray, List.set_cons_zero, List.set_cons_succ]
              refine wpAnyE_one 4 (by kernel_rfl) rfl (fun K hK => ?_)
              go_simp
              go_at_call 75
              (with_reducible refine (HHF.out _).mono ?_)
              rintro e w5 ⟨rfl, hb5⟩
              replace q1 := q1.below hb5
              replace q2 := rowBelow q2 hb5
              obtain ⟨n1, n2, n3⟩ := ndCells q2
              obtain ⟨a1, a2⟩ := cellsOf q1.a
              obtain ⟨b1, b2⟩ := cellsOf q1.f
              obtain ⟨p1, p2, p3, p4, p5, p6⟩ := ptsAt (L := L) q1.start.out k hlt HLL.out
              refine hK.out _ _ (fun _ => ⟨a1, a2, b1, b2, n2⟩) (fun hS => ?_)
              replace hS := hS (by decide)
              clear hK K
              try simp only [Act.put, List.getElem_toArray, List.getElem_cons_succ, List.getElem_cons_zero, List.setIfInBounds_toArray, List.set_cons_zero, List.set_cons_succ]
              refine wpAnyE_take (i := 5) (v := ?_) hS (by kernel_rfl) rfl (by kernel_rfl) (by kernel_rfl) (fun _ _ _ h => h) (Or.inl ⟨by rfl, ?_⟩) ?_
              rotate_left
              · (intro w hSw; go_simp; try with_reducible rfl)
              try simp only [Act.put, List.getElem_toArray, List.getElem_cons_succ, List.getElem_cons_zero, List.setIfInBounds_toArray, List.set_cons_zero, List.set_cons_succ]
              refine wpAnyE_take (i := 6) (v := ?_) hS (by kernel_rfl) rfl (by kernel_rfl) (by kernel_rfl) (fun _ _ _ h => h) (Or.inl ⟨by rfl, ?_⟩) ?_
              rotate_left
              · (intro w hSw; go_simp; try with_reducible rfl)
              try simp only [Act.put, List.getElem_toArray, List.getElem_cons_succ, List.getElem_cons_zero, List.setIfInBounds_toArray, List.set_cons_zero, List.set_cons_succ]
              refine wpAnyE_take (i := 7) (v := ?_) hS (by kernel_rfl) rfl (by kernel_rfl) (by kernel_rfl) (fun _ _ _ h => h) (Or.inl ⟨by rfl, ?_⟩) ?_
              rotate_left
              · (intro w hSw; go_simp; try with_reducible rfl)
              try simp only [Act.put, List.getElem_toArray, List.getElem_cons_succ, List.getElem_cons_zero, List.setIfInBounds_toArray, List.set_cons_zero, List.set_cons_succ]
              refine wpAnyE_take (i := 8) (v := ?_) hS (by kernel_rfl) rfl (by kernel_rfl) (by kernel_rfl) (fun _ _ _ h => h) (Or.inl ⟨by rfl, ?_⟩) ?_
              rotate_left
              · (intro w hSw; go_simp; try with_reducible rfl)
              try simp only [Act.put, List.getElem_toArray, List.getElem_cons_succ, List.getElem_cons_zero, List.setIfInBounds_toArray, List.set_cons_zero, List.set_cons_succ]
              refine wpAnyE_take (i := 10) (v := ?_) hS (by kernel_rfl) rfl (by kernel_rfl) (by kernel_rfl) (fun _ _ _ h => h) (Or.inl ⟨by rfl, ?_⟩) ?_
              rotate_left
              · (intro w hSw; go_simp; try with_reducible rfl)
              try simp only [Act.put, List.getElem_toArray, List.getElem_cons_succ, List.getElem_cons_zero, List.setIfInBounds_toArray, List.set_cons_zero, List.set_cons_succ]
              refine wpAnyE_take (i := 11) (v := ?_) hS (by kernel_rfl) rfl (by kernel_rfl) (by kernel_rfl) (fun _ _ _ h => h) (Or.inl ⟨by rfl, ?_⟩) ?_
              rotate_left
              · (intro w hSw; go_simp; try with_reducible rfl)
              try simp only [Act.put, List.getElem_toArray, List.getElem_cons_succ, List.getElem_cons_zero, List.setIfInBounds_toArray, List.set_cons_zero, List.set_cons_succ]
              refine wpAnyE_take (i := 12) (v := ?_) hS (by kernel_rfl) rfl (by kernel_rfl) (by kernel_rfl) (fun _ _ _ h => h) (Or.inl ⟨by rfl, ?_⟩) ?_
              rotate_left
              · (intro w hSw; go_simp; try with_reducible rfl)
              try simp only [Act.put, List.getElem_toArray, List.getElem_cons_succ, List.getElem_cons_zero, List.setIfInBounds_toArray, List.set_cons_zero, List.set_cons_succ]
              refine wpAnyE_one 9 (by kernel_rfl) rfl (fun K hK => ?_)
              go_simp
              go_at_call 75
              (with_reducible refine (HHA.out _).mono ?_)
              rintro e w5 ⟨rfl, hb5⟩
              replace q1 := q1.below hb5
              replace q2 := rowBelow q2 hb5
              obtain ⟨n1, n2, n3⟩ := ndCells q2
              obtain ⟨a1, a2⟩ := cellsOf q1.a
              obtain ⟨b1, b2⟩ := cellsOf q1.f
              obtain ⟨p1, p2, p3, p4, p5, p6⟩ := ptsAt (L := L) q1.start.out k hlt HLL.out
              refine hK.out _ _ (fun _ => ⟨a1, a2, b1, b2, n2⟩) (fun hS => ?_)
              replace hS := hS (by decide)
              clear hK K
              try simp only [Act.put, List.getElem_toArray, List.getElem_cons_succ, List.getElem_cons_zero, List.setIfInBounds_toArray, List.set_cons_zero, List.set_cons_succ]
              refine wpAnyE_take (i := 13) (v := ?_) hS (by kernel_rfl) rfl (by kernel_rfl) (by kernel_rfl) (fun _ _ _ h => h) (Or.inl ⟨by rfl, ?_⟩) ?_
              rotate_left
              · (intro w hSw; go_simp; try with_reducible rfl)
              try simp only [Act.put, List.getElem_toArray, List.getElem_cons_succ, List.getElem_cons_zero, List.setIfInBounds_toArray, List.set_cons_zero, List.set_cons_succ]
              refine wpAnyE_take (i := 14) (v := ?_) hS (by kernel_rfl) rfl (by kernel_rfl) (by kernel_rfl) (fun _ _ _ h => h) (Or.inl ⟨by rfl, ?_⟩) ?_
              rotate_left
              · (intro w hSw; go_simp; try with_reducible rfl)
              try simp only [Act.put, List.getElem_toArray, List.getElem_cons_succ, List.getElem_cons_zero, List.setIfInBounds_toArray, List.set_cons_zero, List.set_cons_succ]
              refine wpAnyE_take (i := 15) (v := ?_) hS (by kernel_rfl) rfl (by kernel_rfl) (by kernel_rfl) (fun _ _ _ h => h) (Or.inl ⟨by rfl, ?_⟩) ?_
              rotate_left
              · (intro w hSw; go_simp; try with_reducible rfl)
              try simp only [Act.put, List.getElem_toArray, List.getElem_cons_succ, List.getElem_cons_zero, List.setIfInBounds_toArray, List.set_cons_zero, List.set_cons_succ]
              refine wpAnyE_take (i := 16) (v := ?_) hS (by kernel_rfl) rfl (by kernel_rfl) (by kernel_rfl) (fun _ _ _ h => h) (Or.inl ⟨by rfl, ?_⟩) ?_
              rotate_left
              · (intro w hSw; go_simp; try with_reducible rfl)
              try simp only [Act.put, List.getElem_toArray, List.getElem_cons_succ, List.getElem_cons_zero, List.setIfInBounds_toArray, List.set_cons_zero, List.set_cons_succ]
              refine wpAnyE_one 17 (by kernel_rfl) rfl (fun K hK => ?_)
              go_simp
              refine hK.out _ _ (fun h => absurd rfl h) (fun _ => ?_)
              clear hK K
              refine wpAnyE_done (by kernel_rfl) ?_ _
              all_goals
                have HX2 := Lib.hid (HNX.out.trans (by rw [if_pos (by simp)]))
                have q3 := q1.start.ok hgl hql true k HLL.out.symm
                have q4 := q2.setOther (a := ⟨w.heap.size + 1 + 1 + 1, k * 3 + 2, none⟩) (Ne.symm HN3.out) (.bool true)
                generalize w5.setCell ⟨w.heap.size + 1 + 1 + 1, k * 3 + 2, none⟩ (.bool true) = W3 at q3 q4 ⊢
                obtain ⟨n1, n2, n3⟩ := ndCells q4
                obtain ⟨p1, p2, p3, p4, p5, p6⟩ := ptsAt (L := L) q3.out k hlt HLL.out
                go_wp2
                go_roundw
                case rel => exact ⟨k + 1, by omega, by go_num, by rw [HX2.out]; exact q3⟩
                case measure => simp [intOf]; omega

            · as_aux_lemma =>
              refine wp_region_heldE (fun w' => w'.cell? ⟨w.heap.size, 0, none⟩ = some (Value.int .u64 (lo a : Int)) ∧ w'.cell? ⟨w.heap.size, 1, none⟩ = some (Value.int .u64 (hi a : Int)) ∧ w'.cell? ⟨w.heap.size + 1, 0, none⟩ = some (Value.int .u64 (lo f : Int)) ∧ w'.cell? ⟨w.heap.size + 1, 1, none⟩ = some (Value.int .u64 (hi f : Int)) ∧ w'.cell? ⟨wr.heap.size, 1, none⟩ = some (Value.int .i64 (-(m : Int)))) 17 (by kernel_rfl) ⟨a1, a2, b1, b2, n2⟩ (fun hS => ?_)
              refine wpAnyE_take (i := 0) (v := ?_) hS (by kernel_rfl) rfl (by kernel_rfl) (by kernel_rfl) (fun _ _ _ h => h) (Or.inl ⟨by rfl, ?_⟩) ?_
              rotate_left
              · (intro w hSw; go_simp; try with_reducible rfl)
              try simp only [Act.put, List.getElem_toArray, List.getElem_cons_succ, List.getElem_cons_zero, List.setIfInBounds_toArray, List.set_cons_zero, List.set_cons_succ]
              refine wpAnyE_take (i := 1) (v := ?_) hS (by kernel_rfl) rfl (by kernel_rfl) (by kernel_rfl) (fun _ _ _ h => h) (Or.inl ⟨by rfl, ?_⟩) ?_
              rotate_left
              · (intro w hSw; go_simp; try with_reducible rfl)
              try simp only [Act.put, List.getElem_toArray, List.getElem_cons_succ, List.getElem_cons_zero, List.setIfInBounds_toArray, List.set_cons_zero, List.set_cons_succ]
              refine wpAnyE_take (i := 2) (v := ?_) hS (by kernel_rfl) rfl (by kernel_rfl) (by kernel_rfl) (fun _ _ _ h => h) (Or.inl ⟨by rfl, ?_⟩) ?_
              rotate_left
              · (intro w hSw; go_simp; try with_reducible rfl)
              try simp only [Act.put, List.getElem_toArray, List.getElem_cons_succ, List.getElem_cons_zero, List.setIfInBounds_toArray, List.set_cons_zero, List.set_cons_succ]
              refine wpAnyE_take (i := 3) (v := ?_) hS (by kernel_rfl) rfl (by kernel_rfl) (by kernel_rfl) (fun _ _ _ h => h) (Or.inl ⟨by rfl, ?_⟩) ?_
              rotate_left
              · (intro w hSw; go_simp; try with_reducible rfl)
              try simp only [Act.put, List.getElem_toArray, List.getElem_cons_succ, List.getElem_cons_zero, List.setIfInBounds_toArray, List.set_cons_zero, List.set_cons_succ]
              refine wpAnyE_one 4 (by kernel_rfl) rfl (fun K hK => ?_)
              go_simp
              go_at_call 75
              (with_reducible refine (HHF.out _).mono ?_)
              rintro e w5 ⟨rfl, hb5⟩
              replace q1 := q1.below hb5
              replace q2 := rowBelow q2 hb5
              obtain ⟨n1, n2, n3⟩ := ndCells q2
              obtain ⟨a1, a2⟩ := cellsOf q1.a
              obtain ⟨b1, b2⟩ := cellsOf q1.f
              obtain ⟨p1, p2, p3, p4, p5, p6⟩ := ptsAt (L := L) q1.start.out k hlt HLL.out
              refine hK.out _ _ (fun _ => ⟨a1, a2, b1, b2, n2⟩) (fun hS => ?_)
              replace hS := hS (by decide)
              clear hK K
              try simp only [Act.put, List.getElem_toArray, List.getElem_cons_succ, List.getElem_cons_zero, List.setIfInBounds_toArray, List.set_cons_zero, List.set_cons_succ]
              refine wpAnyE_take (i := 5) (v := ?_) hS (by kernel_rfl) rfl (by kernel_rfl) (by kernel_rfl) (fun _ _ _ h => h) (Or.inl ⟨by rfl, ?_⟩) ?_
              rotate_left
              · (intro w hSw; go_simp; try with_reducible rfl)
              try simp only [Act.put, List.getElem_toArray, List.getElem_cons_succ, List.getElem_cons_zero, List.setIfInBounds_toArray, List.set_cons_zero, List.set_cons_succ]
              refine wpAnyE_take (i := 6) (v := ?_) hS (by kernel_rfl) rfl (by kernel_rfl) (by kernel_rfl) (fun _ _ _ h => h) (Or.inl ⟨by rfl, ?_⟩) ?_
              rotate_left
              · (intro w hSw; go_simp; try with_reducible rfl)
              try simp only [Act.put, List.getElem_toArray, List.getElem_cons_succ, List.getElem_cons_zero, List.setIfInBounds_toArray, List.set_cons_zero, List.set_cons_succ]
              refine wpAnyE_take (i := 7) (v := ?_) hS (by kernel_rfl) rfl (by kernel_rfl) (by kernel_rfl) (fun _ _ _ h => h) (Or.inl ⟨by rfl, ?_⟩) ?_
              rotate_left
              · (intro w hSw; go_simp; try with_reducible rfl)
              try simp only [Act.put, List.getElem_toArray, List.getElem_cons_succ, List.getElem_cons_zero, List.setIfInBounds_toArray, List.set_cons_zero, List.set_cons_succ]
              refine wpAnyE_take (i := 8) (v := ?_) hS (by kernel_rfl) rfl (by kernel_rfl) (by kernel_rfl) (fun _ _ _ h => h) (Or.inl ⟨by rfl, ?_⟩) ?_
              rotate_left
              · (intro w hSw; go_simp; try with_reducible rfl)
              try simp only [Act.put, List.getElem_toArray, List.getElem_cons_succ, List.getElem_cons_zero, List.setIfInBounds_toArray, List.set_cons_zero, List.set_cons_succ]
              refine wpAnyE_take (i := 10) (v := ?_) hS (by kernel_rfl) rfl (by kernel_rfl) (by kernel_rfl) (fun _ _ _ h => h) (Or.inl ⟨by rfl, ?_⟩) ?_
              rotate_left
              · (intro w hSw; go_simp; try with_reducible rfl)
              try simp only [Act.put, List.getElem_toArray, List.getElem_cons_succ, List.getElem_cons_zero, List.setIfInBounds_toArray, List.set_cons_zero, List.set_cons_succ]
              refine wpAnyE_take (i := 11) (v := ?_) hS (by kernel_rfl) rfl (by kernel_rfl) (by kernel_rfl) (fun _ _ _ h => h) (Or.inl ⟨by rfl, ?_⟩) ?_
              rotate_left
              · (intro w hSw; go_simp; try with_reducible rfl)
              try simp only [Act.put, List.getElem_toArray, List.getElem_cons_succ, List.getElem_cons_zero, List.setIfInBounds_toArray, List.set_cons_zero, List.set_cons_succ]
              refine wpAnyE_take (i := 12) (v := ?_) hS (by kernel_rfl) rfl (by kernel_rfl) (by kernel_rfl) (fun _ _ _ h => h) (Or.inl ⟨by rfl, ?_⟩) ?_
              rotate_left
              · (intro w hSw; go_simp; try with_reducible rfl)
              try simp only [Act.put, List.getElem_toArray, List.getElem_cons_succ, List.getElem_cons_zero, List.setIfInBounds_toArray, List.set_cons_zero, List.set_cons_succ]
              refine wpAnyE_one 9 (by kernel_rfl) rfl (fun K hK => ?_)
              go_simp
              go_at_call 75
              (with_reducible refine (HHA.out _).mono ?_)
              rintro e w5 ⟨rfl, hb5⟩
              replace q1 := q1.below hb5
              replace q2 := rowBelow q2 hb5
              obtain ⟨n1, n2, n3⟩ := ndCells q2
              obtain ⟨a1, a2⟩ := cellsOf q1.a
              obtain ⟨b1, b2⟩ := cellsOf q1.f
              obtain ⟨p1, p2, p3, p4, p5, p6⟩ := ptsAt (L := L) q1.start.out k hlt HLL.out
              refine hK.out _ _ (fun _ => ⟨a1, a2, b1, b2, n2⟩) (fun hS => ?_)
              replace hS := hS (by decide)
              clear hK K
              try simp only [Act.put, List.getElem_toArray, List.getElem_cons_succ, List.getElem_cons_zero, List.setIfInBounds_toArray, List.set_cons_zero, List.set_cons_succ]
              refine wpAnyE_take (i := 13) (v := ?_) hS (by kernel_rfl) rfl (by kernel_rfl) (by kernel_rfl) (fun _ _ _ h => h) (Or.inl ⟨by rfl, ?_⟩) ?_
              rotate_left
              · (intro w hSw; go_simp; try with_reducible rfl)
              try simp only [Act.put, List.getElem_toArray, List.getElem_cons_succ, List.getElem_cons_zero, List.setIfInBounds_toArray, List.set_cons_zero, List.set_cons_succ]
              refine wpAnyE_take (i := 14) (v := ?_) hS (by kernel_rfl) rfl (by kernel_rfl) (by kernel_rfl) (fun _ _ _ h => h) (Or.inl ⟨by rfl, ?_⟩) ?_
              rotate_left
              · (intro w hSw; go_simp; try with_reducible rfl)
              try simp only [Act.put, List.getElem_toArray, List.getElem_cons_succ, List.getElem_cons_zero, List.setIfInBounds_toArray, List.set_cons_zero, List.set_cons_succ]
              refine wpAnyE_take (i := 15) (v := ?_) hS (by kernel_rfl) rfl (by kernel_rfl) (by kernel_rfl) (fun _ _ _ h => h) (Or.inl ⟨by rfl, ?_⟩) ?_
              rotate_left
              · (intro w hSw; go_simp; try with_reducible rfl)
              try simp only [Act.put, List.getElem_toArray, List.getElem_cons_succ, List.getElem_cons_zero, List.setIfInBounds_toArray, List.set_cons_zero, List.set_cons_succ]
              refine wpAnyE_take (i := 16) (v := ?_) hS (by kernel_rfl) rfl (by kernel_rfl) (by kernel_rfl) (fun _ _ _ h => h) (Or.inl ⟨by rfl, ?_⟩) ?_
              rotate_left
              · (intro w hSw; go_simp; try with_reducible rfl)
              try simp only [Act.put, List.getElem_toArray, List.getElem_cons_succ, List.getElem_cons_zero, List.setIfInBounds_toArray, List.set_cons_zero, List.set_cons_succ]
              refine wpAnyE_one 17 (by kernel_rfl) rfl (fun K hK => ?_)
              go_simp
              refine hK.out _ _ (fun h => absurd rfl h) (fun _ => ?_)
              clear hK K
              refine wpAnyE_done (by kernel_rfl) ?_ _
              all_goals
                have HX2 := Lib.hid (HNX.out.trans (by rw [if_neg (by simp)]))
                have q3 := q1.start.ok hgl hql false k HLL.out.symm
                have q4 := q2.setOther (a := ⟨w.heap.size + 1 + 1 + 1, k * 3 + 2, none⟩) (Ne.symm HN3.out) (.bool false)
                generalize w5.setCell ⟨w.heap.size + 1 + 1 + 1, k * 3 + 2, none⟩ (.bool false) = W3 at q3 q4 ⊢
                obtain ⟨n1, n2, n3⟩ := ndCells q4
                obtain ⟨p1, p2, p3, p4, p5, p6⟩ := ptsAt (L := L) q3.out k hlt HLL.out
                go_wp2
                go_roundw
                case rel => exact ⟨k + 1, by omega, by go_num, by rw [HX2.out]; exact q3⟩
                case measure => simp [intOf]; omega

      · as_aux_lemma =>
        clear HLO HNIL
        have HRW2 := HRW
        have HQ := Lib.hid ((hE.start.ok hgl hql true k HLL.out.symm).alloc (.cells #[.int .i64 3, .int .i64 lt, .slice A' ins.length c'] 41))
        clear hE
        go_wp2
        go_loopw [97] (fun t wq => ∃ (m : Nat) (T : Pt), m ≤ ins.length ∧ t = .int .i64 m ∧ Hid ((ins.take m).foldl (ptIn (own N.l) L (a &&& f) ⟨3, lt, ins⟩) (ptStart a f ⟨3, lt, ins⟩) = T) ∧ LeR w N (some ⟨b, o, none⟩) c g q a f (L ++ [T]) wq) (fun t _ => ins.length - (intOf t).toNat)
        case atStart => exact ⟨0, ptStart a f ⟨3, lt, ins⟩, by omega, rfl, Lib.hid rfl, HQ.out⟩
        case round =>
          clear HQ s1 s2 s3 o1 o2 o3 o4 o5 o6 hk1 hk2 hk3
          obtain ⟨m, T, hm, rfl, HP, hE⟩ := hrel
          by_cases hmlt : m < ins.length
          · as_aux_lemma =>
            obtain ⟨b', o', rfl, hbB', hcs⟩ := HRW.out (by omega)
            have hc := below_cell hE.bl hbB' (hcs m hmlt)
            clear hcs
            obtain ⟨j, hj, hjk⟩ := HMEM.out ins[m] (List.getElem_mem hmlt)
            have hii : intF ins m = .int .i64 (j : Int) := by unfold intF; rw [List.getD_eq_getElem?_getD, List.getElem?_eq_getElem hmlt]; simp [hj]
            rw [hii] at hc
            obtain ⟨R, hR⟩ : ∃ R, L.getD j ⟨0, false⟩ = R := ⟨_, rfl⟩
            have hft : (ins.take (m + 1)).foldl (ptIn (own N.l) L (a &&& f) ⟨3, lt, ins⟩) (ptStart a f ⟨3, lt, ins⟩) = ⟨T.set ||| R.set, T.ok && R.ok⟩ := by
              rw [List.take_succ_eq_append_getElem hmlt, List.foldl_append, HP.out]
              show ptIn (own N.l) L (a &&& f) ⟨3, lt, ins⟩ T ins[m] = _
              unfold ptIn
              rw [if_pos rfl, hj, Int.toNat_natCast, hR]
            have HFT := Lib.hid hft
            have HR := Lib.hid hR
            have q1 := hE
            obtain ⟨e1, e2, e3, e4, e5, e6, e7, e8, e9, e10, e11, f1, f2, f3⟩ := q1.two k hlt HLL.out j hjk R HR.out rfl rfl
            have j0 : (0 : Int) ≤ (j : Int) := by omega
            have j1 : (j : Int) < (N.l.length : Int) := by omega
            have hQ2 := hE.out.lt
            have hu1 := fun W => union_any W T.set R.set
            obtain ⟨V, hV⟩ : ∃ V, T.set ||| R.set = V := ⟨_, rfl⟩
            simp only [hV] at hu1
            rw [hV] at HFT
            have HU1 := Lib.hid hu1
            obtain ⟨Y, hY⟩ : ∃ Y, (T.ok && R.ok) = Y := ⟨_, rfl⟩
            rw [hY] at HFT
            have q2 := q1.ok hgl hql Y k HLL.out.symm
            have hW : ∀ W, W = wr.setCell ⟨w.heap.size + 1 + 1 + 1, k * 3 + 2, none⟩ (.bool Y) → LeR w N (some ⟨b, o, none⟩) c g q a f (L ++ [⟨T.set, Y⟩]) W := fun W h => h ▸ q2
            have HW := Lib.hid hW
            clear hft hii hR hj hu1 hV hE q1 q2 hW
            obtain ⟨z, hz⟩ : ∃ z, T.ok = z := ⟨_, rfl⟩
            obtain ⟨y, hy⟩ : ∃ y, R.ok = y := ⟨_, rfl⟩
            rw [hz] at e3 hY
            rw [hy] at e6 hY
            clear hz hy
            cases z
            · as_aux_lemma =>
              obtain rfl : Y = false := by rw [← hY]; rfl
              go_wp2_with fail
              have q2 := HW.out _ rfl
              generalize wr.setCell ⟨w.heap.size + 1 + 1 + 1, k * 3 + 2, none⟩ (.bool false) = W2 at q2 ⊢
              clear HW e1 e2 e3 e4 e5 e6 e7 e8 e9 e10 e11 f1 f2 f3
              replace q2 := q2.drew
              obtain ⟨e1, e2, e3, e4, e5, e6, e7, e8, e9, e10, e11, f1, f2, f3⟩ := q2.two k hlt HLL.out j hjk R HR.out rfl rfl
              refine wp_region_heldE (fun w' => w'.cell? ⟨w.heap.size + 1 + 1 + 1, k * 3, none⟩ = some (Value.int .u64 (lo T.set : Int)) ∧ w'.cell? ⟨w.heap.size + 1 + 1 + 1, k * 3 + 1, none⟩ = some (Value.int .u64 (hi T.set : Int)) ∧ w'.cell? ⟨w.heap.size + 1 + 1 + 1, j * 3, none⟩ = some (Value.int .u64 (lo R.set : Int)) ∧ w'.cell? ⟨w.heap.size + 1 + 1 + 1, j * 3 + 1, none⟩ = some (Value.int .u64 (hi R.set : Int))) 15 (by kernel_rfl) ⟨e1, e2, e4, e5⟩ (fun hS => ?_)
              refine wpAnyE_take (i := 0) (v := ?_) hS (by kernel_rfl) rfl (by kernel_rfl) (by kernel_rfl) (fun _ _ _ h => h) (Or.inl ⟨by rfl, ?_⟩) ?_
              rotate_left
              · (intro w hSw; go_simp; try with_reducible rfl)
              try simp only [Act.put, List.getElem_toArray, List.getElem_cons_succ, List.getElem_cons_zero, List.setIfInBounds_toArray, List.set_cons_zero, List.set_cons_succ]
              refine wpAnyE_take (i := 1) (v := ?_) hS (by kernel_rfl) rfl (by kernel_rfl) (by kernel_rfl) (fun _ _ _ h => h) (Or.inl ⟨by rfl, ?_⟩) ?_
              rotate_left
              · (intro w hSw; go_simp; try with_reducible rfl)
              try simp only [Act.put, List.getElem_toArray, List.getElem_cons_succ, List.getElem_cons_zero, List.setIfInBounds_toArray, List.set_cons_zero, List.set_cons_succ]
              refine wpAnyE_take (i := 2) (v := ?_) hS (by kernel_rfl) rfl (by kernel_rfl) (by kernel_rfl) (fun _ _ _ h => h) (Or.inl ⟨by rfl, ?_⟩) ?_
              rotate_left
              · (intro w hSw; go_simp; try with_reducible rfl)
              try simp only [Act.put, List.getElem_toArray, List.getElem_cons_succ, List.getElem_cons_zero, List.setIfInBounds_toArray, List.set_cons_zero, List.set_cons_succ]
              refine wpAnyE_take (i := 3) (v := ?_) hS (by kernel_rfl) rfl (by kernel_rfl) (by kernel_rfl) (fun _ _ _ h => h) (Or.inl ⟨by rfl, ?_⟩) ?_
              rotate_left
              · (intro w hSw; go_simp; try with_reducible rfl)
              try simp only [Act.put, List.getElem_toArray, List.getElem_cons_succ, List.getElem_cons_zero, List.setIfInBounds_toArray, List.set_cons_zero, List.set_cons_succ]
              refine wpAnyE_take (i := 4) (v := ?_) hS (by kernel_rfl) rfl (by kernel_rfl) (by kernel_rfl) (fun _ _ _ h => h) (Or.inl ⟨by rfl, ?_⟩) ?_
              rotate_left
              · (intro w hSw; go_simp; try with_reducible rfl)
              try simp only [Act.put, List.getElem_toArray, List.getElem_cons_succ, List.getElem_cons_zero, List.setIfInBounds_toArray, List.set_cons_zero, List.set_cons_succ]
              refine wpAnyE_take (i := 5) (v := ?_) hS (by kernel_rfl) rfl (by kernel_rfl) (by kernel_rfl) (fun _ _ _ h => h) (Or.inl ⟨by rfl, ?_⟩) ?_
              rotate_left
              · (intro w hSw; go_simp; try with_reducible rfl)
              try simp only [Act.put, List.getElem_toArray, List.getElem_cons_succ, List.getElem_cons_zero, List.setIfInBounds_toArray, List.set_cons_zero, List.set_cons_succ]
              refine wpAnyE_take (i := 6) (v := ?_) hS (by kernel_rfl) rfl (by kernel_rfl) (by kernel_rfl) (fun _ _ _ h => h) (Or.inl ⟨by rfl, ?_⟩) ?_
              rotate_left
              · (intro w hSw; go_simp; try with_reducible rfl)
              try simp only [Act.put, List.getElem_toArray, List.getElem_cons_succ, List.getElem_cons_zero, List.setIfInBounds_toArray, List.set_cons_zero, List.set_cons_succ]
              refine wpAnyE_take (i := 7) (v := ?_) hS (by kernel_rfl) rfl (by kernel_rfl) (by kernel_rfl) (fun _ _ _ h => h) (Or.inl ⟨by rfl, ?_⟩) ?_
              rotate_left
              · (intro w hSw; go_simp; try with_reducible rfl)
              try simp only [Act.put, List.getElem_toArray, List.getElem_cons_succ, List.getElem_cons_zero, List.setIfInBounds_toArray, List.set_cons_zero, List.set_cons_succ]
              refine wpAnyE_take (i := 8) (v := ?_) hS (by kernel_rfl) rfl (by kernel_rfl) (by kernel_rfl) (fun _ _ _ h => h) (Or.inl ⟨by rfl, ?_⟩) ?_
              rotate_left
              · (intro w hSw; go_simp; try with_reducible rfl)
              try simp only [Act.put, List.getElem_toArray, List.getElem_cons_succ, List.getElem_cons_zero, List.setIfInBounds_toArray, List.set_cons_zero, List.set_cons_succ]
              refine wpAnyE_take (i := 9) (v := ?_) hS (by kernel_rfl) rfl (by kernel_rfl) (by kernel_rfl) (fun _ _ _ h => h) (Or.inl ⟨by rfl, ?_⟩) ?_
              rotate_left
              · (intro w hSw; go_simp; try with_reducible rfl)
              try simp only [Act.put, List.getElem_toArray, List.getElem_cons_succ, List.getElem_cons_zero, List.setIfInBounds_toArray, List.set_cons_zero, List.set_cons_succ]
              refine wpAnyE_take (i := 10) (v := ?_) hS (by kernel_rfl) rfl (by kernel_rfl) (by kernel_rfl) (fun _ _ _ h => h) (Or.inl ⟨by rfl, ?_⟩) ?_
              rotate_left
              · (intro w hSw; go_simp; try with_reducible rfl)
              try simp only [Act.put, List.getElem_toArray, List.getElem_cons_succ, List.getElem_cons_zero, List.setIfInBounds_toArray, List.set_cons_zero, List.set_cons_succ]
              refine wpAnyE_take (i := 11) (v := ?_) hS (by kernel_rfl) rfl (by kernel_rfl) (by kernel_rfl) (fun _ _ _ h => h) (Or.inl ⟨by rfl, ?_⟩) ?_
              rotate_left
              · (intro w hSw; go_simp; try with_reducible rfl)
              try simp only [Act.put, List.getElem_toArray, List.getElem_cons_succ, List.getElem_cons_zero, List.setIfInBounds_toArray, List.set_cons_zero, List.set_cons_succ]
              refine wpAnyE_one 12 (by kernel_rfl) rfl (fun K hK => ?_)
              go_simp
              go_at_call 42
              (with_reducible refine (HU1.out _).mono ?_)
              rintro e w6 ⟨rfl, hb6⟩
              replace q2 := q2.below hb6
              obtain ⟨e1, e2, e3, e4, e5, e6, e7, e8, e9, e10, e11, f1, f2, f3⟩ := q2.two k hlt HLL.out j hjk R HR.out rfl rfl
              refine hK.out _ _ (fun _ => ⟨e1, e2, e4, e5⟩) (fun hS => ?_)
              replace hS := hS (by decide)
              clear hK K
              try simp only [Act.put, List.getElem_toArray, List.getElem_cons_succ, List.getElem_cons_zero, List.setIfInBounds_toArray, List.set_cons_zero, List.set_cons_succ]
              refine wpAnyE_take (i := 13) (v := ?_) hS (by kernel_rfl) rfl (by kernel_rfl) (by kernel_rfl) (fun _ _ _ h => h) (Or.inl ⟨by rfl, ?_⟩) ?_
              rotate_left
              · (intro w hSw; go_simp; try with_reducible rfl)
              try simp only [Act.put, List.getElem_toArray, List.getElem_cons_succ, List.getElem_cons_zero, List.setIfInBounds_toArray, List.set_cons_zero, List.set_cons_succ]
              refine wpAnyE_take (i := 14) (v := ?_) hS (by kernel_rfl) rfl (by kernel_rfl) (by kernel_rfl) (fun _ _ _ h => h) (Or.inl ⟨by rfl, ?_⟩) ?_
              rotate_left
              · (intro w hSw; go_simp; try with_reducible rfl)
              try simp only [Act.put, List.getElem_toArray, List.getElem_cons_succ, List.getElem_cons_zero, List.setIfInBounds_toArray, List.set_cons_zero, List.set_cons_succ]
              refine wpAnyE_one 15 (by kernel_rfl) rfl (fun K hK => ?_)
              go_simp
              refine hK.out _ _ (fun h => absurd rfl h) (fun _ => ?_)
              clear hK K
              refine wpAnyE_done (by kernel_rfl) ?_ _
              go_wp2
              go_roundw
              case rel => exact ⟨m + 1, _, by omega, by go_num, HFT, q2.set hgl hql V k HLL.out.symm⟩
              case measure => simp [intOf]; omega
            · as_aux_lemma =>
              obtain rfl : Y = y := by rw [← hY]; rfl
              go_wp2_with fail
              have q2 := HW.out _ rfl
              generalize wr.setCell ⟨w.heap.size + 1 + 1 + 1, k * 3 + 2, none⟩ (.bool Y) = W2 at q2 ⊢
              clear HW e1 e2 e3 e4 e5 e6 e7 e8 e9 e10 e11 f1 f2 f3
              replace q2 := q2.drew
              obtain ⟨e1, e2, e3, e4, e5, e6, e7, e8, e9, e10, e11, f1, f2, f3⟩ := q2.two k hlt HLL.out j hjk R HR.out rfl rfl
              refine wp_region_heldE (fun w' => w'.cell? ⟨w.heap.size + 1 + 1 + 1, k * 3, none⟩ = some (Value.int .u64 (lo T.set : Int)) ∧ w'.cell? ⟨w.heap.size + 1 + 1 + 1, k * 3 + 1, none⟩ = some (Value.int .u64 (hi T.set : Int)) ∧ w'.cell? ⟨w.heap.size + 1 + 1 + 1, j * 3, none⟩ = some (Value.int .u64 (lo R.set : Int)) ∧ w'.cell? ⟨w.heap.size + 1 + 1 + 1, j * 3 + 1, none⟩ = some (Value.int .u64 (hi R.set : Int))) 15 (by kernel_rfl) ⟨e1, e2, e4, e5⟩ (fun hS => ?_)
              refine wpAnyE_take (i := 0) (v := ?_) hS (by kernel_rfl) rfl (by kernel_rfl) (by kernel_rfl) (fun _ _ _ h => h) (Or.inl ⟨by rfl, ?_⟩) ?_
              rotate_left
              · (intro w hSw; go_simp; try with_reducible rfl)
              try simp only [Act.put, List.getElem_toArray, List.getElem_cons_succ, List.getElem_cons_zero, List.setIfInBounds_toArray, List.set_cons_zero, List.set_cons_succ]
              refine wpAnyE_take (i := 1) (v := ?_) hS (by kernel_rfl) rfl (by kernel_rfl) (by kernel_rfl) (fun _ _ _ h => h) (Or.inl ⟨by rfl, ?_⟩) ?_
              rotate_left
              · (intro w hSw; go_simp; try with_reducible rfl)
              try simp only [Act.put, List.getElem_toArray, List.getElem_cons_succ, List.getElem_cons_zero, List.setIfInBounds_toArray, List.set_cons_zero, List.set_cons_succ]
              refine wpAnyE_take (i := 2) (v := ?_) hS (by kernel_rfl) rfl (by kernel_rfl) (by kernel_rfl) (fun _ _ _ h => h) (Or.inl ⟨by rfl, ?_⟩) ?_
              rotate_left
              · (intro w hSw; go_simp; try with_reducible rfl)
              try simp only [Act.put, List.getElem_toArray, List.getElem_cons_succ, List.getElem_cons_zero, List.setIfInBounds_toArray, List.set_cons_zero, List.set_cons_succ]
              refine wpAnyE_take (i := 3) (v := ?_) hS (by kernel_rfl) rfl (by kernel_rfl) (by kernel_rfl) (fun _ _ _ h => h) (Or.inl ⟨by rfl, ?_⟩) ?_
              rotate_left
              · (intro w hSw; go_simp; try with_reducible rfl)
              try simp only [Act.put, List.getElem_toArray, List.getElem_cons_succ, List.getElem_cons_zero, List.setIfInBounds_toArray, List.set_cons_zero, List.set_cons_succ]
              refine wpAnyE_take (i := 4) (v := ?_) hS (by kernel_rfl) rfl (by kernel_rfl) (by kernel_rfl) (fun _ _ _ h => h) (Or.inl ⟨by rfl, ?_⟩) ?_
              rotate_left
              · (intro w hSw; go_simp; try with_reducible rfl)
              try simp only [Act.put, List.getElem_toArray, List.getElem_cons_succ, List.getElem_cons_zero, List.setIfInBounds_toArray, List.set_cons_zero, List.set_cons_succ]
              refine wpAnyE_take (i := 5) (v := ?_) hS (by kernel_rfl) rfl (by kernel_rfl) (by kernel_rfl) (fun _ _ _ h => h) (Or.inl ⟨by rfl, ?_⟩) ?_
              rotate_left
              · (intro w hSw; go_simp; try with_reducible rfl)
              try simp only [Act.put, List.getElem_toArray, List.getElem_cons_succ, List.getElem_cons_zero, List.setIfInBounds_toArray, List.set_cons_zero, List.set_cons_succ]
              refine wpAnyE_take (i := 6) (v := ?_) hS (by kernel_rfl) rfl (by kernel_rfl) (by kernel_rfl) (fun _ _ _ h => h) (Or.inl ⟨by rfl, ?_⟩) ?_
              rotate_left
              · (intro w hSw; go_simp; try with_reducible rfl)
              try simp only [Act.put, List.getElem_toArray, List.getElem_cons_succ, List.getElem_cons_zero, List.setIfInBounds_toArray, List.set_cons_zero, List.set_cons_succ]
              refine wpAnyE_take (i := 7) (v := ?_) hS (by kernel_rfl) rfl (by kernel_rfl) (by kernel_rfl) (fun _ _ _ h => h) (Or.inl ⟨by rfl, ?_⟩) ?_
              rotate_left
              · (intro w hSw; go_simp; try with_reducible rfl)
              try simp only [Act.put, List.getElem_toArray, List.getElem_cons_succ, List.getElem_cons_zero, List.setIfInBounds_toArray, List.set_cons_zero, List.set_cons_succ]
              refine wpAnyE_take (i := 8) (v := ?_) hS (by kernel_rfl) rfl (by kernel_rfl) (by kernel_rfl) (fun _ _ _ h => h) (Or.inl ⟨by rfl, ?_⟩) ?_
              rotate_left
              · (intro w hSw; go_simp; try with_reducible rfl)
              try simp only [Act.put, List.getElem_toArray, List.getElem_cons_succ, List.getElem_cons_zero, List.setIfInBounds_toArray, List.set_cons_zero, List.set_cons_succ]
              refine wpAnyE_take (i := 9) (v := ?_) hS (by kernel_rfl) rfl (by kernel_rfl) (by kernel_rfl) (fun _ _ _ h => h) (Or.inl ⟨by rfl, ?_⟩) ?_
              rotate_left
              · (intro w hSw; go_simp; try with_reducible rfl)
              try simp only [Act.put, List.getElem_toArray, List.getElem_cons_succ, List.getElem_cons_zero, List.setIfInBounds_toArray, List.set_cons_zero, List.set_cons_succ]
              refine wpAnyE_take (i := 10) (v := ?_) hS (by kernel_rfl) rfl (by kernel_rfl) (by kernel_rfl) (fun _ _ _ h => h) (Or.inl ⟨by rfl, ?_⟩) ?_
              rotate_left
              · (intro w hSw; go_simp; try with_reducible rfl)
              try simp only [Act.put, List.getElem_toArray, List.getElem_cons_succ, List.getElem_cons_zero, List.setIfInBounds_toArray, List.set_cons_zero, List.set_cons_succ]
              refine wpAnyE_take (i := 11) (v := ?_) hS (by kernel_rfl) rfl (by kernel_rfl) (by kernel_rfl) (fun _ _ _ h => h) (Or.inl ⟨by rfl, ?_⟩) ?_
              rotate_left
              · (intro w hSw; go_simp; try with_reducible rfl)
              try simp only [Act.put, List.getElem_toArray, List.getElem_cons_succ, List.getElem_cons_zero, List.setIfInBounds_toArray, List.set_cons_zero, List.set_cons_succ]
              refine wpAnyE_one 12 (by kernel_rfl) rfl (fun K hK => ?_)
              go_simp
              go_at_call 42
              (with_reducible refine (HU1.out _).mono ?_)
              rintro e w6 ⟨rfl, hb6⟩
              replace q2 := q2.below hb6
              obtain ⟨e1, e2, e3, e4, e5, e6, e7, e8, e9, e10, e11, f1, f2, f3⟩ := q2.two k hlt HLL.out j hjk R HR.out rfl rfl
              refine hK.out _ _ (fun _ => ⟨e1, e2, e4, e5⟩) (fun hS => ?_)
              replace hS := hS (by decide)
              clear hK K
              try simp only [Act.put, List.getElem_toArray, List.getElem_cons_succ, List.getElem_cons_zero, List.setIfInBounds_toArray, List.set_cons_zero, List.set_cons_succ]
              refine wpAnyE_take (i := 13) (v := ?_) hS (by kernel_rfl) rfl (by kernel_rfl) (by kernel_rfl) (fun _ _ _ h => h) (Or.inl ⟨by rfl, ?_⟩) ?_
              rotate_left
              · (intro w hSw; go_simp; try with_reducible rfl)
              try simp only [Act.put, List.getElem_toArray, List.getElem_cons_succ, List.getElem_cons_zero, List.setIfInBounds_toArray, List.set_cons_zero, List.set_cons_succ]
              refine wpAnyE_take (i := 14) (v := ?_) hS (by kernel_rfl) rfl (by kernel_rfl) (by kernel_rfl) (fun _ _ _ h => h) (Or.inl ⟨by rfl, ?_⟩) ?_
              rotate_left
              · (intro w hSw; go_simp; try with_reducible rfl)
              try simp only [Act.put, List.getElem_toArray, List.getElem_cons_succ, List.getElem_cons_zero, List.setIfInBounds_toArray, List.set_cons_zero, List.set_cons_succ]
              refine wpAnyE_one 15 (by kernel_rfl) rfl (fun K hK => ?_)
              go_simp
              refine hK.out _ _ (fun h => absurd rfl h) (fun _ => ?_)
              clear hK K
              refine wpAnyE_done (by kernel_rfl) ?_ _
              go_wp2
              go_roundw
              case rel => exact ⟨m + 1, _, by omega, by go_num, HFT, q2.set hgl hql V k HLL.out.symm⟩
              case measure => simp [intOf]; omega
          · as_aux_lemma =>
            obtain rfl : m = ins.length := by omega
            have hfo := HP.out
            rw [List.take_length] at hfo
            have hst : ptStep (own N.l) a f L ⟨3, lt, ins⟩ = T := hfo
            have hnx := HT.out
            rw [hst] at hnx
            have HNX := Lib.hid hnx
            clear hfo hst hnx
            go_wp2
            go_roundw
            case rel => exact ⟨k + 1, by omega, by go_num, by rw [HNX.out]; exact hE⟩
            case measure => simp [intOf]; omega
      · as_aux_lemma =>
        clear HLO HNIL
        have HRW2 := HRW
        have HQ := Lib.hid (hE.start.alloc (.cells #[.int .i64 4, .int .i64 lt, .slice A' ins.length c'] 41))
        clear hE
        go_wp2
        go_loopw [138] (fun t wq => ∃ (m : Nat) (T : Pt), m ≤ ins.length ∧ t = .int .i64 m ∧ Hid ((ins.take m).foldl (ptIn (own N.l) L (a &&& f) ⟨4, lt, ins⟩) (ptStart a f ⟨4, lt, ins⟩) = T) ∧ LeR w N (some ⟨b, o, none⟩) c g q a f (L ++ [T]) wq) (fun t _ => ins.length - (intOf t).toNat)
        case atStart => exact ⟨0, ptStart a f ⟨4, lt, ins⟩, by omega, rfl, Lib.hid rfl, HQ.out⟩
        case round =>
          clear HQ s1 s2 s3 o1 o2 o3 o4 o5 o6 hk1 hk2 hk3
          obtain ⟨m, T, hm, rfl, HP, hE⟩ := hrel
          by_cases hmlt : m < ins.length
          · as_aux_lemma =>
            obtain ⟨b', o', rfl, hbB', hcs⟩ := HRW.out (by omega)
            have hc := below_cell hE.bl hbB' (hcs m hmlt)
            clear hcs
            obtain ⟨j, hj, hjk⟩ := HMEM.out ins[m] (List.getElem_mem hmlt)
            have hii : intF ins m = .int .i64 (j : Int) := by unfold intF; rw [List.getD_eq_getElem?_getD, List.getElem?_eq_getElem hmlt]; simp [hj]
            rw [hii] at hc
            obtain ⟨R, hR⟩ : ∃ R, L.getD j ⟨0, false⟩ = R := ⟨_, rfl⟩
            obtain ⟨Ok, hOk⟩ : ∃ s, (own N.l).getD k 0 = s := ⟨_, rfl⟩
            obtain ⟨Oj, hOj⟩ : ∃ s, (own N.l).getD j 0 = s := ⟨_, rfl⟩
            have hft : (ins.take (m + 1)).foldl (ptIn (own N.l) L (a &&& f) ⟨4, lt, ins⟩) (ptStart a f ⟨4, lt, ins⟩) = if R.ok then (if !T.ok || lessB (R.set ||| (minus Ok Oj &&& (a &&& f))) T.set then ⟨R.set ||| (minus Ok Oj &&& (a &&& f)), true⟩ else T) else T := by
              rw [List.take_succ_eq_append_getElem hmlt, List.foldl_append, HP.out]
              show ptIn (own N.l) L (a &&& f) ⟨4, lt, ins⟩ T ins[m] = _
              unfold ptIn
              rw [if_neg (show ¬ (4 : Int) = 3 by decide), hj, HLL.out, Int.toNat_natCast, hR, hOk, hOj]
            have HFT := Lib.hid hft
            have HR := Lib.hid hR
            have HOK := Lib.hid hOk
            have HOJ := Lib.hid hOj
            have q1 := hE
            obtain ⟨e1, e2, e3, e4, e5, e6, e7, e8, e9, e10, e11, f1, f2, f3⟩ := q1.two k hlt HLL.out j hjk R HR.out HOK.out HOJ.out
            have j0 : (0 : Int) ≤ (j : Int) := by omega
            have j1 : (j : Int) < (N.l.length : Int) := by omega
            have hQ2 := hE.out.lt
            clear hft hii hR hOk hOj hj
            obtain ⟨y, hy⟩ : ∃ y, R.ok = y := ⟨_, rfl⟩
            rw [hy] at e6
            have HY := Lib.hid hy
            clear hy
            cases y
            · as_aux_lemma =>
              have HF2 := Lib.hid (HFT.out.trans (by rw [HY.out] <;> rfl))
              go_wp2
              go_roundw
              case rel => exact ⟨m + 1, T, by omega, by go_num, HF2, hE⟩
              case measure => simp [intOf]; omega
            · as_aux_lemma =>
              have hl1 := fun W h h2 => (least1_any W ⟨R.set, true⟩ Ok Oj a f w.heap.size (w.heap.size + 1) h h2 : Calls Tryd.prog 88 _ W fun e w' => e = .returned (setV (R.set ||| (minus Ok Oj &&& (a &&& f)))) ∧ Below W.heap.size W w')
              have hle := fun W h => less_any W (R.set ||| (minus Ok Oj &&& (a &&& f))) T.set h
              have hfu := HFT.out.trans (by rw [HY.out, if_pos rfl])
              obtain ⟨V, hV⟩ : ∃ V, R.set ||| (minus Ok Oj &&& (a &&& f)) = V := ⟨_, rfl⟩
              rw [hV] at hfu
              simp only [hV] at hl1 hle
              have HFU := Lib.hid hfu
              have HL1 := Lib.hid hl1
              obtain ⟨D, hD⟩ : ∃ b, lessB V T.set = b := ⟨_, rfl⟩
              simp only [hD] at hle
              have HLE := Lib.hid hle
              have HD := Lib.hid hD
              clear hfu hl1 hV hle hD HFT
              go_wp2_with fail
              go_cut [17] from 139 to 188 (fun p wx => ∃ gs, p = .pointer (some ⟨gs, 0, none⟩) ∧ wx.rowIs gs 27 2 (setF V) ∧ LeR w N (some ⟨b, o, none⟩) c g q a f (L ++ [T]) wx)
              case first =>
                replace q1 := q1.drew
                have hz := (setZero wr 27 wr.heap.size rfl).drew
                have M1 : Hid (wr.heap.size ≠ w.heap.size + 1 + 1 + 1) := Lib.hid (by omega)
                have M2 : Hid (wr.heap.size ≠ g) := Lib.hid (by omega)
                have M3 : Hid (wr.heap.size ≠ q) := Lib.hid (by omega)
                obtain ⟨e1, e2, e3, e4, e5, e6, e7, e8, e9, e10, e11, f1, f2, f3⟩ := q1.two k hlt HLL.out j hjk R HR.out HOK.out HOJ.out
                rw [HY.out] at e6
                go_region_held3 (fun w' => w'.cell? ⟨w.heap.size + 1 + 1 + 1, j * 3, none⟩ = some (.int .u64 (lo R.set : Int)) ∧ w'.cell? ⟨w.heap.size + 1 + 1 + 1, j * 3 + 1, none⟩ = some (.int .u64 (hi R.set : Int)) ∧ w'.cell? ⟨w.heap.size + 1 + 1 + 1, j * 3 + 2, none⟩ = some (.bool true) ∧ w'.cell? ⟨g, 2, none⟩ = some (.slice (some ⟨q, 0, none⟩) N.l.length N.l.length) ∧ w'.cell? ⟨q, k * 2, none⟩ = some (.int .u64 (lo Ok : Int)) ∧ w'.cell? ⟨q, k * 2 + 1, none⟩ = some (.int .u64 (hi Ok : Int)) ∧ w'.cell? ⟨q, j * 2, none⟩ = some (.int .u64 (lo Oj : Int)) ∧ w'.cell? ⟨q, j * 2 + 1, none⟩ = some (.int .u64 (hi Oj : Int))) (first | exact ⟨e4, e5, e6, e7, e8, e9, e10, e11⟩ | exact ⟨putFar M1.out e4, putFar M1.out e5, putFar M1.out e6, putFar M2.out e7, putFar M3.out e8, putFar M3.out e9, putFar M3.out e10, putFar M3.out e11⟩ | go_keep)
                  (first
                    | (go_simp
                       go_at_call 88
                       (with_reducible refine (HL1.out _ q1.a q1.f).mono ?_)
                       rintro e w5 ⟨rfl, hb5⟩
                       replace q1 := q1.below hb5
                       obtain ⟨e1, e2, e3, e4, e5, e6, e7, e8, e9, e10, e11, f1, f2, f3⟩ := q1.two k hlt HLL.out j hjk R HR.out HOK.out HOJ.out
                       rw [HY.out] at e6)
                    | (go_simp
                       go_at_call 88
                       (with_reducible refine (HL1.out _ (hE.a.alloc _).drew (hE.f.alloc _).drew).mono ?_)
                       rintro e w5 ⟨rfl, hb5⟩
                       have hz5 := rowBelow hz hb5
                       replace q1 := (hE.alloc _).drew.below hb5
                       obtain ⟨e1, e2, e3, e4, e5, e6, e7, e8, e9, e10, e11, f1, f2, f3⟩ := q1.two k hlt HLL.out j hjk R HR.out HOK.out HOJ.out
                       obtain ⟨_, _, z1, z2⟩ := setCells hz5
                       rw [HY.out] at e6))
                all_goals
                  try go_wp2
                  go_meet
                  case rel =>
                    first
                      | exact ⟨_, rfl, setNew _ V _ _ rfl, q1.alloc _⟩
                      | exact ⟨_, rfl, setPut hz5 V, (q1.other hgl hql hQ2 _ _).other hgl hql hQ2 _ _⟩
              case rest =>
                obtain ⟨gs, rfl, hs, q2⟩ := hcut
                clear q1 e1 e2 e3 e4 e5 e6 e7 e8 e9 e10 e11 f1 f2 f3 hE
                go_wp2_with fail
                have HE2 := Lib.hid q2
                obtain ⟨y1, y2, y3, y4, y5, y6, y7, y8, y9, y10, y11, w1, w2, w3⟩ := q2.two k hlt HLL.out j hjk R HR.out HOK.out HOJ.out
                replace q2 := q2.drew
                replace hs := hs.drew
                obtain ⟨g1, g2⟩ := cellsOf hs
                obtain ⟨e1, e2, e3, e4, e5, e6, e7, e8, e9, e10, e11, f1, f2, f3⟩ := q2.two k hlt HLL.out j hjk R HR.out HOK.out HOJ.out
                obtain ⟨z, hz⟩ : ∃ z, T.ok = z := ⟨_, rfl⟩
                rw [hz] at e3
                have HZ := Lib.hid hz
                clear hz
                cases z
                · have HF2 := Lib.hid (HFU.out.trans (by rw [HZ.out] <;> rfl))
                  refine wp_region_heldE (fun w' => w'.cell? ⟨w.heap.size + 1 + 1 + 1, k * 3 + 2, none⟩ = some (Value.bool false)) 14 (by kernel_rfl) e3 (fun hS => ?_)
                  refine wpAnyE_take (i := 0) (v := ?_) hS (by kernel_rfl) rfl (by kernel_rfl) (by kernel_rfl) (fun _ _ _ h => h) (Or.inl ⟨by rfl, ?_⟩) ?_
                  rotate_left
                  · (intro w hSw; go_simp; try with_reducible rfl)
                  try simp only [Act.put, List.getElem_toArray, List.getElem_cons_succ, List.getElem_cons_zero, List.setIfInBounds_toArray, List.set_cons_zero, List.set_cons_succ]
                  refine wpAnyE_take (i := 1) (v := ?_) hS (by kernel_rfl) rfl (by kernel_rfl) (by kernel_rfl) (fun _ _ _ h => h) (Or.inl ⟨by rfl, ?_⟩) ?_
                  rotate_left
                  · (intro w hSw; go_simp; try with_reducible rfl)
                  try simp only [Act.put, List.getElem_toArray, List.getElem_cons_succ, List.getElem_cons_zero, List.setIfInBounds_toArray, List.set_cons_zero, List.set_cons_succ]
                  refine wpAnyE_take (i := 2) (v := ?_) hS (by kernel_rfl) rfl (by kernel_rfl) (by kernel_rfl) (fun _ _ _ h => h) (Or.inl ⟨by rfl, ?_⟩) ?_
                  rotate_left
                  · (intro w hSw; go_simp; try with_reducible rfl)
                  try simp only [Act.put, List.getElem_toArray, List.getElem_cons_succ, List.getElem_cons_zero, List.setIfInBounds_toArray, List.set_cons_zero, List.set_cons_succ]
                  refine wpAnyE_take (i := 3) (v := ?_) hS (by kernel_rfl) rfl (by kernel_rfl) (by kernel_rfl) (fun _ _ _ h => h) (Or.inl ⟨by rfl, ?_⟩) ?_
                  rotate_left
                  · (intro w hSw; go_simp; try with_reducible rfl)
                  try simp only [Act.put, List.getElem_toArray, List.getElem_cons_succ, List.getElem_cons_zero, List.setIfInBounds_toArray, List.set_cons_zero, List.set_cons_succ]
                  refine wpAnyE_take (i := 4) (v := ?_) hS (by kernel_rfl) rfl (by kernel_rfl) (by kernel_rfl) (fun _ _ _ h => h) (Or.inl ⟨by rfl, ?_⟩) ?_
                  rotate_left
                  · (intro w hSw; go_simp; try with_reducible rfl)
                  try simp only [Act.put, List.getElem_toArray, List.getElem_cons_succ, List.getElem_cons_zero, List.setIfInBounds_toArray, List.set_cons_zero, List.set_cons_succ]
                  refine wpAnyE_take (i := 5) (v := ?_) hS (by kernel_rfl) rfl (by kernel_rfl) (by kernel_rfl) (fun _ _ _ h => h) (Or.inl ⟨by rfl, ?_⟩) ?_
                  rotate_left
                  · (intro w hSw; go_simp; try with_reducible rfl)
                  try simp only [Act.put, List.getElem_toArray, List.getElem_cons_succ, List.getElem_cons_zero, List.setIfInBounds_toArray, List.set_cons_zero, List.set_cons_succ]
                  refine wpAnyE_take (i := 6) (v := ?_) hS (by kernel_rfl) rfl (by kernel_rfl) (by kernel_rfl) (fun _ _ _ h => h) (Or.inl ⟨by rfl, ?_⟩) ?_
                  rotate_left
                  · (intro w hSw; go_simp; try with_reducible rfl)
                  try simp only [Act.put, List.getElem_toArray, List.getElem_cons_succ, List.getElem_cons_zero, List.setIfInBounds_toArray, List.set_cons_zero, List.set_cons_succ]
                  refine wpAnyE_take (i := 7) (v := undef) hS (by kernel_rfl) rfl (by kernel_rfl) (by kernel_rfl) (fun _ _ _ h => h) (Or.inr ⟨by rfl, rfl⟩) ?_
                  simp only [Act.put, List.getElem_toArray, List.getElem_cons_succ, List.getElem_cons_zero, List.setIfInBounds_toArray, List.set_cons_zero, List.set_cons_succ]
                  refine wpAnyE_take (i := 8) (v := undef) hS (by kernel_rfl) rfl (by kernel_rfl) (by kernel_rfl) (fun _ _ _ h => h) (Or.inr ⟨by rfl, rfl⟩) ?_
                  simp only [Act.put, List.getElem_toArray, List.getElem_cons_succ, List.getElem_cons_zero, List.setIfInBounds_toArray, List.set_cons_zero, List.set_cons_succ]
                  refine wpAnyE_take (i := 9) (v := undef) hS (by kernel_rfl) rfl (by kernel_rfl) (by kernel_rfl) (fun _ _ _ h => h) (Or.inr ⟨by rfl, rfl⟩) ?_
                  simp only [Act.put, List.getElem_toArray, List.getElem_cons_succ, List.getElem_cons_zero, List.setIfInBounds_toArray, List.set_cons_zero, List.set_cons_succ]
                  refine wpAnyE_take (i := 10) (v := undef) hS (by kernel_rfl) rfl (by kernel_rfl) (by kernel_rfl) (fun _ _ _ h => h) (Or.inr ⟨by rfl, rfl⟩) ?_
                  simp only [Act.put, List.getElem_toArray, List.getElem_cons_succ, List.getElem_cons_zero, List.setIfInBounds_toArray, List.set_cons_zero, List.set_cons_succ]
                  refine wpAnyE_take (i := 11) (v := undef) hS (by kernel_rfl) rfl (by kernel_rfl) (by kernel_rfl) (fun _ _ _ h => h) (Or.inr ⟨by rfl, rfl⟩) ?_
                  simp only [Act.put, List.getElem_toArray, List.getElem_cons_succ, List.getElem_cons_zero, List.setIfInBounds_toArray, List.set_cons_zero, List.set_cons_succ]
                  refine wpAnyE_take (i := 12) (v := undef) hS (by kernel_rfl) rfl (by kernel_rfl) (by kernel_rfl) (fun _ _ _ h => h) (Or.inr ⟨by rfl, rfl⟩) ?_
                  simp only [Act.put, List.getElem_toArray, List.getElem_cons_succ, List.getElem_cons_zero, List.setIfInBounds_toArray, List.set_cons_zero, List.set_cons_succ]
                  refine wpAnyE_take (i := 13) (v := undef) hS (by kernel_rfl) rfl (by kernel_rfl) (by kernel_rfl) (fun _ _ _ h => h) (Or.inr ⟨by rfl, rfl⟩) ?_
                  simp only [Act.put, List.getElem_toArray, List.getElem_cons_succ, List.getElem_cons_zero, List.setIfInBounds_toArray, List.set_cons_zero, List.set_cons_succ]
                  refine wpAnyE_one 14 (by kernel_rfl) rfl (fun K hK => ?_)
                  go_simp
                  refine hK.out _ _ (fun h => absurd rfl h) (fun _ => ?_)
                  clear hK K
                  refine wpAnyE_done (by kernel_rfl) ?_ _
                  go_wp2
                  go_roundw
                  case rel => exact ⟨m + 1, ⟨V, true⟩, by omega, by go_num, HF2, (HE2.out.put hgl hql ⟨V, true⟩ k HLL.out.symm).drew⟩
                  case measure => simp [intOf]; omega
                · cases D
                  · have HF2 := Lib.hid (HFU.out.trans (by rw [HZ.out, HD.out] <;> rfl))
                    refine wp_region_heldE (fun w' => w'.cell? ⟨w.heap.size + 1 + 1 + 1, k * 3 + 2, none⟩ = some (Value.bool true) ∧ w'.cell? ⟨w.heap.size + 1 + 1 + 1, k * 3, none⟩ = some (Value.int .u64 (lo T.set : Int)) ∧ w'.cell? ⟨w.heap.size + 1 + 1 + 1, k * 3 + 1, none⟩ = some (Value.int .u64 (hi T.set : Int)) ∧ w'.cell? ⟨gs, 0, none⟩ = some (Value.int .u64 (lo V : Int)) ∧ w'.cell? ⟨gs, 1, none⟩ = some (Value.int .u64 (hi V : Int))) 14 (by kernel_rfl) ⟨e3, e1, e2, g1, g2⟩ (fun hS => ?_)
                    refine wpAnyE_take (i := 0) (v := ?_) hS (by kernel_rfl) rfl (by kernel_rfl) (by kernel_rfl) (fun _ _ _ h => h) (Or.inl ⟨by rfl, ?_⟩) ?_
                    rotate_left
                    · (intro w hSw; go_simp; try with_reducible rfl)
                    try simp only [Act.put, List.getElem_toArray, List.getElem_cons_succ, List.getElem_cons_zero, List.setIfInBounds_toArray, List.set_cons_zero, List.set_cons_succ]
                    refine wpAnyE_take (i := 1) (v := ?_) hS (by kernel_rfl) rfl (by kernel_rfl) (by kernel_rfl) (fun _ _ _ h => h) (Or.inl ⟨by rfl, ?_⟩) ?_
                    rotate_left
                    · (intro w hSw; go_simp; try with_reducible rfl)
                    try simp only [Act.put, List.getElem_toArray, List.getElem_cons_succ, List.getElem_cons_zero, List.setIfInBounds_toArray, List.set_cons_zero, List.set_cons_succ]
                    refine wpAnyE_take (i := 2) (v := ?_) hS (by kernel_rfl) rfl (by kernel_rfl) (by kernel_rfl) (fun _ _ _ h => h) (Or.inl ⟨by rfl, ?_⟩) ?_
                    rotate_left
                    · (intro w hSw; go_simp; try with_reducible rfl)
                    try simp only [Act.put, List.getElem_toArray, List.getElem_cons_succ, List.getElem_cons_zero, List.setIfInBounds_toArray, List.set_cons_zero, List.set_cons_succ]
                    refine wpAnyE_take (i := 3) (v := ?_) hS (by kernel_rfl) rfl (by kernel_rfl) (by kernel_rfl) (fun _ _ _ h => h) (Or.inl ⟨by rfl, ?_⟩) ?_
                    rotate_left
                    · (intro w hSw; go_simp; try with_reducible rfl)
                    try simp only [Act.put, List.getElem_toArray, List.getElem_cons_succ, List.getElem_cons_zero, List.setIfInBounds_toArray, List.set_cons_zero, List.set_cons_succ]
                    refine wpAnyE_take (i := 4) (v := ?_) hS (by kernel_rfl) rfl (by kernel_rfl) (by kernel_rfl) (fun _ _ _ h => h) (Or.inl ⟨by rfl, ?_⟩) ?_
                    rotate_left
                    · (intro w hSw; go_simp; try with_reducible rfl)
                    try simp only [Act.put, List.getElem_toArray, List.getElem_cons_succ, List.getElem_cons_zero, List.setIfInBounds_toArray, List.set_cons_zero, List.set_cons_succ]
                    refine wpAnyE_take (i := 5) (v := ?_) hS (by kernel_rfl) rfl (by kernel_rfl) (by kernel_rfl) (fun _ _ _ h => h) (Or.inl ⟨by rfl, ?_⟩) ?_
                    rotate_left
                    · (intro w hSw; go_simp; try with_reducible rfl)
                    try simp only [Act.put, List.getElem_toArray, List.getElem_cons_succ, List.getElem_cons_zero, List.setIfInBounds_toArray, List.set_cons_zero, List.set_cons_succ]
                    refine wpAnyE_take (i := 6) (v := ?_) hS (by kernel_rfl) rfl (by kernel_rfl) (by kernel_rfl) (fun _ _ _ h => h) (Or.inl ⟨by rfl, ?_⟩) ?_
                    rotate_left
                    · (intro w hSw; go_simp; try with_reducible rfl)
                    try simp only [Act.put, List.getElem_toArray, List.getElem_cons_succ, List.getElem_cons_zero, List.setIfInBounds_toArray, List.set_cons_zero, List.set_cons_succ]
                    refine wpAnyE_take (i := 7) (v := ?_) hS (by kernel_rfl) rfl (by kernel_rfl) (by kernel_rfl) (fun _ _ _ h => h) (Or.inl ⟨by rfl, ?_⟩) ?_
                    rotate_left
                    · (intro w hSw; go_simp; try with_reducible rfl)
                    try simp only [Act.put, List.getElem_toArray, List.getElem_cons_succ, List.getElem_cons_zero, List.setIfInBounds_toArray, List.set_cons_zero, List.set_cons_succ]
                    refine wpAnyE_take (i := 8) (v := ?_) hS (by kernel_rfl) rfl (by kernel_rfl) (by kernel_rfl) (fun _ _ _ h => h) (Or.inl ⟨by rfl, ?_⟩) ?_
                    rotate_left
                    · (intro w hSw; go_simp; try with_reducible rfl)
                    try simp only [Act.put, List.getElem_toArray, List.getElem_cons_succ, List.getElem_cons_zero, List.setIfInBounds_toArray, List.set_cons_zero, List.set_cons_succ]
                    refine wpAnyE_take (i := 9) (v := ?_) hS (by kernel_rfl) rfl (by kernel_rfl) (by kernel_rfl) (fun _ _ _ h => h) (Or.inl ⟨by rfl, ?_⟩) ?_
                    rotate_left
                    · (intro w hSw; go_simp; try with_reducible rfl)
                    try simp only [Act.put, List.getElem_toArray, List.getElem_cons_succ, List.getElem_cons_zero, List.setIfInBounds_toArray, List.set_cons_zero, List.set_cons_succ]
                    refine wpAnyE_take (i := 10) (v := ?_) hS (by kernel_rfl) rfl (by kernel_rfl) (by kernel_rfl) (fun _ _ _ h => h) (Or.inl ⟨by rfl, ?_⟩) ?_
                    rotate_left
                    · (intro w hSw; go_simp; try with_reducible rfl)
                    try simp only [Act.put, List.getElem_toArray, List.getElem_cons_succ, List.getElem_cons_zero, List.setIfInBounds_toArray, List.set_cons_zero, List.set_cons_succ]
                    refine wpAnyE_take (i := 11) (v := ?_) hS (by kernel_rfl) rfl (by kernel_rfl) (by kernel_rfl) (fun _ _ _ h => h) (Or.inl ⟨by rfl, ?_⟩) ?_
                    rotate_left
                    · (intro w hSw; go_simp; try with_reducible rfl)
                    try simp only [Act.put, List.getElem_toArray, List.getElem_cons_succ, List.getElem_cons_zero, List.setIfInBounds_toArray, List.set_cons_zero, List.set_cons_succ]
                    refine wpAnyE_take (i := 12) (v := ?_) hS (by kernel_rfl) rfl (by kernel_rfl) (by kernel_rfl) (fun _ _ _ h => h) (Or.inl ⟨by rfl, ?_⟩) ?_
                    rotate_left
                    · (intro w hSw; go_simp; try with_reducible rfl)
                    try simp only [Act.put, List.getElem_toArray, List.getElem_cons_succ, List.getElem_cons_zero, List.setIfInBounds_toArray, List.set_cons_zero, List.set_cons_succ]
                    refine wpAnyE_one 13 (by kernel_rfl) rfl (fun K hK => ?_)
                    go_simp
                    go_at_call 89
                    (with_reducible refine (HLE.out _ (hT.below q2.bl)).mono ?_)
                    rintro e w6 ⟨rfl, hb6⟩
                    replace q2 := q2.below hb6
                    replace hs := rowBelow hs hb6
                    obtain ⟨g1, g2⟩ := cellsOf hs
                    obtain ⟨e1, e2, e3, e4, e5, e6, e7, e8, e9, e10, e11, f1, f2, f3⟩ := q2.two k hlt HLL.out j hjk R HR.out HOK.out HOJ.out
                    rw [HZ.out] at e3
                    refine hK.out _ _ (fun _ => ⟨e3, e1, e2, g1, g2⟩) (fun hS => ?_)
                    replace hS := hS (by decide)
                    clear hK K
                    try simp only [Act.put, List.getElem_toArray, List.getElem_cons_succ, List.getElem_cons_zero, List.setIfInBounds_toArray, List.set_cons_zero, List.set_cons_succ]
                    refine wpAnyE_one 14 (by kernel_rfl) rfl (fun K hK => ?_)
                    go_simp
                    refine hK.out _ _ (fun h => absurd rfl h) (fun _ => ?_)
                    clear hK K
                    refine wpAnyE_done (by kernel_rfl) ?_ _
                    go_wp2
                    go_roundw
                    case rel => exact ⟨m + 1, T, by omega, by go_num, HF2, q2⟩
                    case measure => simp [intOf]; omega
                  · have HF2 := Lib.hid (HFU.out.trans (by rw [HZ.out, HD.out] <;> rfl))
                    refine wp_region_heldE (fun w' => w'.cell? ⟨w.heap.size + 1 + 1 + 1, k * 3 + 2, none⟩ = some (Value.bool true) ∧ w'.cell? ⟨w.heap.size + 1 + 1 + 1, k * 3, none⟩ = some (Value.int .u64 (lo T.set : Int)) ∧ w'.cell? ⟨w.heap.size + 1 + 1 + 1, k * 3 + 1, none⟩ = some (Value.int .u64 (hi T.set : Int)) ∧ w'.cell? ⟨gs, 0, none⟩ = some (Value.int .u64 (lo V : Int)) ∧ w'.cell? ⟨gs, 1, none⟩ = some (Value.int .u64 (hi V : Int))) 14 (by kernel_rfl) ⟨e3, e1, e2, g1, g2⟩ (fun hS => ?_)
                    refine wpAnyE_take (i := 0) (v := ?_) hS (by kernel_rfl) rfl (by kernel_rfl) (by kernel_rfl) (fun _ _ _ h => h) (Or.inl ⟨by rfl, ?_⟩) ?_
                    rotate_left
                    · (intro w hSw; go_simp; try with_reducible rfl)
                    try simp only [Act.put, List.getElem_toArray, List.getElem_cons_succ, List.getElem_cons_zero, List.setIfInBounds_toArray, List.set_cons_zero, List.set_cons_succ]
                    refine wpAnyE_take (i := 1) (v := ?_) hS (by kernel_rfl) rfl (by kernel_rfl) (by kernel_rfl) (fun _ _ _ h => h) (Or.inl ⟨by rfl, ?_⟩) ?_
                    rotate_left
                    · (intro w hSw; go_simp; try with_reducible rfl)
                    try simp only [Act.put, List.getElem_toArray, List.getElem_cons_succ, List.getElem_cons_zero, List.setIfInBounds_toArray, List.set_cons_zero, List.set_cons_succ]
                    refine wpAnyE_take (i := 2) (v := ?_) hS (by kernel_rfl) rfl (by kernel_rfl) (by kernel_rfl) (fun _ _ _ h => h) (Or.inl ⟨by rfl, ?_⟩) ?_
                    rotate_left
                    · (intro w hSw; go_simp; try with_reducible rfl)
                    try simp only [Act.put, List.getElem_toArray, List.getElem_cons_succ, List.getElem_cons_zero, List.setIfInBounds_toArray, List.set_cons_zero, List.set_cons_succ]
                    refine wpAnyE_take (i := 3) (v := ?_) hS (by kernel_rfl) rfl (by kernel_rfl) (by kernel_rfl) (fun _ _ _ h => h) (Or.inl ⟨by rfl, ?_⟩) ?_
                    rotate_left
                    · (intro w hSw; go_simp; try with_reducible rfl)
                    try simp only [Act.put, List.getElem_toArray, List.getElem_cons_succ, List.getElem_cons_zero, List.setIfInBounds_toArray, List.set_cons_zero, List.set_cons_succ]
                    refine wpAnyE_take (i := 4) (v := ?_) hS (by kernel_rfl) rfl (by kernel_rfl) (by kernel_rfl) (fun _ _ _ h => h) (Or.inl ⟨by rfl, ?_⟩) ?_
                    rotate_left
                    · (intro w hSw; go_simp; try with_reducible rfl)
                    try simp only [Act.put, List.getElem_toArray, List.getElem_cons_succ, List.getElem_cons_zero, List.setIfInBounds_toArray, List.set_cons_zero, List.set_cons_succ]
                    refine wpAnyE_take (i := 5) (v := ?_) hS (by kernel_rfl) rfl (by kernel_rfl) (by kernel_rfl) (fun _ _ _ h => h) (Or.inl ⟨by rfl, ?_⟩) ?_
                    rotate_left
                    · (intro w hSw; go_simp; try with_reducible rfl)
                    try simp only [Act.put, List.getElem_toArray, List.getElem_cons_succ, List.getElem_cons_zero, List.setIfInBounds_toArray, List.set_cons_zero, List.set_cons_succ]
                    refine wpAnyE_take (i := 6) (v := ?_) hS (by kernel_rfl) rfl (by kernel_rfl) (by kernel_rfl) (fun _ _ _ h => h) (Or.inl ⟨by rfl, ?_⟩) ?_
                    rotate_left
                    · (intro w hSw; go_simp; try with_reducible rfl)
                    try simp only [Act.put, List.getElem_toArray, List.getElem_cons_succ, List.getElem_cons_zero, List.setIfInBounds_toArray, List.set_cons_zero, List.set_cons_succ]
                    refine wpAnyE_take (i := 7) (v := ?_) hS (by kernel_rfl) rfl (by kernel_rfl) (by kernel_rfl) (fun _ _ _ h => h) (Or.inl ⟨by rfl, ?_⟩) ?_
                    rotate_left
                    · (intro w hSw; go_simp; try with_reducible rfl)
                    try simp only [Act.put, List.getElem_toArray, List.getElem_cons_succ, List.getElem_cons_zero, List.setIfInBounds_toArray, List.set_cons_zero, List.set_cons_succ]
                    refine wpAnyE_take (i := 8) (v := ?_) hS (by kernel_rfl) rfl (by kernel_rfl) (by kernel_rfl) (fun _ _ _ h => h) (Or.inl ⟨by rfl, ?_⟩) ?_
                    rotate_left
                    · (intro w hSw; go_simp; try with_reducible rfl)
                    try simp only [Act.put, List.getElem_toArray, List.getElem_cons_succ, List.getElem_cons_zero, List.setIfInBounds_toArray, List.set_cons_zero, List.set_cons_succ]
                    refine wpAnyE_take (i := 9) (v := ?_) hS (by kernel_rfl) rfl (by kernel_rfl) (by kernel_rfl) (fun _ _ _ h => h) (Or.inl ⟨by rfl, ?_⟩) ?_
                    rotate_left
                    · (intro w hSw; go_simp; try with_reducible rfl)
                    try simp only [Act.put, List.getElem_toArray, List.getElem_cons_succ, List.getElem_cons_zero, List.setIfInBounds_toArray, List.set_cons_zero, List.set_cons_succ]
                    refine wpAnyE_take (i := 10) (v := ?_) hS (by kernel_rfl) rfl (by kernel_rfl) (by kernel_rfl) (fun _ _ _ h => h) (Or.inl ⟨by rfl, ?_⟩) ?_
                    rotate_left
                    · (intro w hSw; go_simp; try with_reducible rfl)
                    try simp only [Act.put, List.getElem_toArray, List.getElem_cons_succ, List.getElem_cons_zero, List.setIfInBounds_toArray, List.set_cons_zero, List.set_cons_succ]
                    refine wpAnyE_take (i := 11) (v := ?_) hS (by kernel_rfl) rfl (by kernel_rfl) (by kernel_rfl) (fun _ _ _ h => h) (Or.inl ⟨by rfl, ?_⟩) ?_
                    rotate_left
                    · (intro w hSw; go_simp; try with_reducible rfl)
                    try simp only [Act.put, List.getElem_toArray, List.getElem_cons_succ, List.getElem_cons_zero, List.setIfInBounds_toArray, List.set_cons_zero, List.set_cons_succ]
                    refine wpAnyE_take (i := 12) (v := ?_) hS (by kernel_rfl) rfl (by kernel_rfl) (by kernel_rfl) (fun _ _ _ h => h) (Or.inl ⟨by rfl, ?_⟩) ?_
                    rotate_left
                    · (intro w hSw; go_simp; try with_reducible rfl)
                    try simp only [Act.put, List.getElem_toArray, List.getElem_cons_succ, List.getElem_cons_zero, List.setIfInBounds_toArray, List.set_cons_zero, List.set_cons_succ]
                    refine wpAnyE_one 13 (by kernel_rfl) rfl (fun K hK => ?_)
                    go_simp
                    go_at_call 89
                    (with_reducible refine (HLE.out _ (hT.below q2.bl)).mono ?_)
                    rintro e w6 ⟨rfl, hb6⟩
                    replace q2 := q2.below hb6
                    replace hs := rowBelow hs hb6
                    obtain ⟨g1, g2⟩ := cellsOf hs
                    obtain ⟨e1, e2, e3, e4, e5, e6, e7, e8, e9, e10, e11, f1, f2, f3⟩ := q2.two k hlt HLL.out j hjk R HR.out HOK.out HOJ.out
                    rw [HZ.out] at e3
                    refine hK.out _ _ (fun _ => ⟨e3, e1, e2, g1, g2⟩) (fun hS => ?_)
                    replace hS := hS (by decide)
                    clear hK K
                    try simp only [Act.put, List.getElem_toArray, List.getElem_cons_succ, List.getElem_cons_zero, List.setIfInBounds_toArray, List.set_cons_zero, List.set_cons_succ]
                    refine wpAnyE_one 14 (by kernel_rfl) rfl (fun K hK => ?_)
                    go_simp
                    refine hK.out _ _ (fun h => absurd rfl h) (fun _ => ?_)
                    clear hK K
                    refine wpAnyE_done (by kernel_rfl) ?_ _
                    go_wp2
                    go_roundw
                    case rel => exact ⟨m + 1, ⟨V, true⟩, by omega, by go_num, HF2, q2.put hgl hql ⟨V, true⟩ k HLL.out.symm⟩
                    case measure => simp [intOf]; omega
          · as_aux_lemma =>
            obtain rfl : m = ins.length := by omega
            have hfo := HP.out
            rw [List.take_length] at hfo
            have hst : ptStep (own N.l) a f L ⟨4, lt, ins⟩ = T := hfo
            have hnx := HT.out
            rw [hst] at hnx
            have HNX := Lib.hid hnx
            clear hfo hst hnx
            go_wp2
            go_roundw
            case rel => exact ⟨k + 1, by omega, by go_num, by rw [HNX.out]; exact hE⟩
            case measure => simp [intOf]; omega
    · as_aux_lemma =>
      obtain rfl : k = N.l.length := by omega
      rw [List.take_length] at hE
      change LeR w N A c g q a f (pts N a f) wr at hE
      have hend := HEND.out
      obtain ⟨T, hT⟩ : ∃ T, (pts N a f).getD (N.l.length - 1) ⟨0, false⟩ = T := ⟨_, rfl⟩
      obtain ⟨Ok, hOk⟩ : ∃ s, (own N.l).getD (N.l.length - 1) 0 = s := ⟨_, rfl⟩
      rw [hT, hOk] at hend
      obtain ⟨t1, t2, t3⟩ := ptsCells hE.out (N.l.length - 1) (by omega) T hT
      have hi2 : (0 : Int) ≤ (N.l.length : Int) - 1 := by omega
      have hi4 : (1 : Int) ≤ (N.l.length : Int) := by omega
      have hrl := hE.r.lt
      have hi3 : (N.l.length : Int) - 1 < (N.l.length : Int) := by omega
      have hwr : IntKind.i64.wrap ((N.l.length : Int) - 1) = (N.l.length : Int) - 1 := by rw [IntKind.wrap_i64]; omega
      have htn : ((N.l.length : Int) - 1).toNat = N.l.length - 1 := by omega
      have hQ := hE.out.lt
      have HOK := Lib.hid hOk
      obtain ⟨_, _, f1, f2⟩ := setCells hE.r
      obtain ⟨z, hz⟩ : ∃ z, T.ok = z := ⟨_, rfl⟩
      rw [hz] at t3 hend
      have HZ := Lib.hid hz
      clear hz
      cases z
      · as_aux_lemma =>
        have he : TN = ⟨0, false⟩ := hend
        subst he
        clear hend HEND hT hOk
        go_wp2
        exact ret_set2 rfl 0 rfl rfl ((hE.r.set 0 _).set 1 _) rfl rfl rfl ⟨rfl, (hE.bl.setCell (by simp <;> omega) _).setCell (by simp <;> omega) _⟩
      · as_aux_lemma =>
        have he : TN = ⟨T.set ||| (minus (allTo N.n) Ok &&& (a &&& f)), true⟩ := hend
        have ht1 := fun W h h2 => (least1_any W ⟨T.set, true⟩ (allTo N.n) Ok a f w.heap.size (w.heap.size + 1) h h2 : Calls Tryd.prog 88 _ W fun e w' => e = .returned (setV (T.set ||| (minus (allTo N.n) Ok &&& (a &&& f)))) ∧ Below W.heap.size W w')
        have hal := fun W => all_any W N.n
        obtain ⟨U, hU⟩ : ∃ U, T.set ||| (minus (allTo N.n) Ok &&& (a &&& f)) = U := ⟨_, rfl⟩
        simp only [hU] at ht1
        rw [hU] at he
        subst he
        obtain ⟨X, hX⟩ : ∃ X, allTo N.n = X := ⟨_, rfl⟩
        simp only [hX] at ht1 hal
        have HT1 := Lib.hid ht1
        have HAL := Lib.hid hal
        have HTT := Lib.hid hT
        have q1 := hE.drew
        obtain ⟨t1, t2, t3⟩ := ptsCells q1.out (N.l.length - 1) (by omega) T HTT.out
        rw [HZ.out] at t3
        obtain ⟨s1, s2, s3⟩ := lsCells q1.ls
        obtain ⟨o1, o2, _, _⟩ := setsCells q1.own (N.l.length - 1) (by omega)
        rw [HOK.out] at o1 o2
        obtain ⟨_, _, f1, f2⟩ := setCells q1.r
        have NE1 : Hid (w.heap.size + 1 + 1 ≠ w.heap.size + 1 + 1 + 1) := Lib.hid (by omega)
        have NE2 : Hid (w.heap.size + 1 + 1 ≠ g) := Lib.hid (by omega)
        have NE3 : Hid (w.heap.size + 1 + 1 ≠ q) := Lib.hid (by omega)
        have HE1 := Lib.hid hE
        clear hend HEND hT hOk ht1 hal hU hX hE
        go_wp2_with fail
        first
          | go_region_held3 (fun w' => w'.cell? ⟨w.heap.size + 1 + 1 + 1, (N.l.length - 1) * 3, none⟩ = some (.int .u64 (lo T.set : Int)) ∧ w'.cell? ⟨w.heap.size + 1 + 1 + 1, (N.l.length - 1) * 3 + 1, none⟩ = some (.int .u64 (hi T.set : Int)) ∧ w'.cell? ⟨w.heap.size + 1 + 1 + 1, (N.l.length - 1) * 3 + 2, none⟩ = some (.bool true) ∧ w'.cell? ⟨g, 0, none⟩ = some (.int .i64 N.n) ∧ w'.cell? ⟨g, 2, none⟩ = some (.slice (some ⟨q, 0, none⟩) N.l.length N.l.length) ∧ w'.cell? ⟨q, (N.l.length - 1) * 2, none⟩ = some (.int .u64 (lo Ok : Int)) ∧ w'.cell? ⟨q, (N.l.length - 1) * 2 + 1, none⟩ = some (.int .u64 (hi Ok : Int)))
              (first | exact ⟨t1, t2, t3, s1, s3, o1, o2⟩ | exact ⟨putFar NE1.out t1, putFar NE1.out t2, putFar NE1.out t3, putFar NE2.out s1, putFar NE2.out s3, putFar NE3.out o1, putFar NE3.out o2⟩ | go_keep)
              (first
                | (go_simp
                   go_at_call 53
                   (with_reducible refine (HAL.out _).mono ?_)
                   rintro e w5 ⟨rfl, hb5⟩
                   replace q1 := q1.below hb5
                   obtain ⟨t1, t2, t3⟩ := ptsCells q1.out (N.l.length - 1) (by omega) T HTT.out
                   rw [HZ.out] at t3
                   obtain ⟨s1, s2, s3⟩ := lsCells q1.ls
                   obtain ⟨o1, o2, _, _⟩ := setsCells q1.own (N.l.length - 1) (by omega)
                   rw [HOK.out] at o1 o2
                   obtain ⟨_, _, f1, f2⟩ := setCells q1.r)
                | (go_simp
                   go_at_call 88
                   (with_reducible refine (HT1.out _ q1.a q1.f).mono ?_)
                   rintro e w6 ⟨rfl, hb6⟩
                   replace q1 := q1.below hb6
                   obtain ⟨t1, t2, t3⟩ := ptsCells q1.out (N.l.length - 1) (by omega) T HTT.out
                   rw [HZ.out] at t3
                   obtain ⟨s1, s2, s3⟩ := lsCells q1.ls
                   obtain ⟨o1, o2, _, _⟩ := setsCells q1.own (N.l.length - 1) (by omega)
                   rw [HOK.out] at o1 o2
                   obtain ⟨_, _, f1, f2⟩ := setCells q1.r))
          | fail
        all_goals
          try go_wp2
          exact ret_set2 rfl U rfl rfl (setPut q1.r _) rfl rfl rfl ⟨rfl, (q1.bl.setCell (by simp <;> omega) _).setCell (by simp <;> omega) _⟩
end Go.Proofs.YtemgfhdgpkmmaaaDoor
