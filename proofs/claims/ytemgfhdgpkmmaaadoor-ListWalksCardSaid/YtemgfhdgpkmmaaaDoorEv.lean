/- The walk of node.Eval. -/
import Derived.Test.YtemgfhdgpkmmaaaDoorV2
import Derived.Test.YtemgfhdgpkmmaaaDoorN4
set_option linter.unusedSimpArgs false
set_option linter.unusedVariables false
open Go Go.RowKit Cs
namespace Cs
theorem getD_snocB (L : List Bool) (b : Bool) (i : Nat) : (L ++ [b]).getD i false = if i = L.length then b else L.getD i false := by
  rw [List.getD_eq_getElem?_getD, List.getD_eq_getElem?_getD, List.getElem?_append]
  by_cases h : i < L.length
  · rw [if_pos h, if_neg (by omega)]
  · rw [if_neg h]
    by_cases h2 : i = L.length
    · rw [if_pos h2, h2, Nat.sub_self]; rfl
    · rw [if_neg h2, List.getElem?_eq_none (by simp; omega), List.getElem?_eq_none (by omega)]
end Cs
namespace Go.Proofs.YtemgfhdgpkmmaaaDoor
theorem info_bool : (Tryd.prog.info? 4).map (fun i => (i.zero, i.size, i.bytes)) = some (some (.bool false), 1, 1) := by kernel_rfl
theorem mk_bool (n : Nat) (h : n ≤ 1000000000) (u : World) : (Instr.makeSlice 78 (.int .i64 (n : Int)) (.int .i64 (n : Int))).run Tryd.prog u =
    .ok (.slice (some ⟨u.heap.size, 0, none⟩) n n) (u.alloc (.cells (madeCells #[.bool false] n) 4)) := by
  obtain ⟨i0, hi, hz0, hz1, hz2⟩ := info_parts info_bool
  exact run_make_row 78 4 i0 (.bool false) Tryd.underlying78 hi hz0 hz1 rfl .i64 .i64 n (by rw [hz2]; omega) (by omega) u
/-- The cells of a node. -/
def ndF (x : Nd) (A : Option Addr) (c : Nat) (i : Nat) : Value := if i = 0 then .int .i64 x.kind else if i = 1 then .int .i64 x.lit else .slice A x.ins.length c
theorem ndNew (w : World) (x : Nd) (A : Option Addr) (c : Nat) (t : TypeId) (g : Nat) (hg : w.heap.size = g) : (w.alloc (.cells #[.int .i64 x.kind, .int .i64 x.lit, .slice A x.ins.length c] t)).rowIs g t 3 (ndF x A c) := by
  subst hg
  exact World.rowIs_alloc w _ t (ndF x A c) fun i hi => by
    have : i = 0 ∨ i = 1 ∨ i = 2 := by simp at hi; omega
    rcases this with rfl | rfl | rfl <;> rfl
theorem ndCells {w : World} {g : Nat} {t : TypeId} {x : Nd} {A : Option Addr} {c : Nat} (h : w.rowIs g t 3 (ndF x A c)) :
    w.cell? ⟨g, 0, none⟩ = some (.int .i64 x.kind) ∧ w.cell? ⟨g, 1, none⟩ = some (.int .i64 x.lit) ∧ w.cell? ⟨g, 2, none⟩ = some (.slice A x.ins.length c) := ⟨h.cell (i := 0) (by omega), h.cell (i := 1) (by omega), h.cell (i := 2) (by omega)⟩
section
variable {w : World} {g n : Nat} {t : TypeId} {L : List Bool}
theorem boolsMade (w : World) (n : Nat) (t : TypeId) (g : Nat) (hg : w.heap.size = g) : (w.alloc (.cells (madeCells #[.bool false] n) t)).rowIs g t n (boolF []) :=
  rowMade w _ n t g hg fun i _ => by unfold boolF; simp
theorem boolsNext (h : w.rowIs g t n (boolF L)) (j : Nat) (b : Bool) (hj : j = L.length) : (w.setCell ⟨g, j, none⟩ (.bool b)).rowIs g t n (boolF (L ++ [b])) :=
  (h.set j _).congr fun i hi => by
    unfold boolF
    by_cases h1 : i = j
    · rw [if_pos h1, getD_snocB, if_pos (by omega)]
    · rw [if_neg h1, getD_snocB, if_neg (by omega)]
theorem boolsSame (h : w.rowIs g t n (boolF L)) : w.rowIs g t n (boolF (L ++ [false])) :=
  h.congr fun i hi => by
    unfold boolF
    rw [getD_snocB]
    split
    · rename_i h1; rw [List.getD_eq_getElem?_getD, List.getElem?_eq_none (by omega)]; rfl
    · rfl
end
set_option maxRecDepth 100000 in
theorem eval1_any (w : World) (b Q n x : Nat) (L : List Bool) (t : TypeId) (hb : w.cell? ⟨b, 0, none⟩ = some (.slice (some ⟨Q, 0, none⟩) n n)) (hr : w.rowIs Q t n (boolF L)) (hx : x < n) :
    Calls Tryd.prog 45 #[.int .i64 (x : Int), .pointer (some ⟨b, 0, none⟩)] w fun e w' => e = .returned (.bool (!L.getD x false)) ∧ w = w' := by
  have hc := hr.cell hx
  unfold boolF at hc
  obtain ⟨y, hy⟩ : ∃ y, L.getD x false = y := ⟨_, rfl⟩
  rw [hy] at hc ⊢
  have i0 : (0 : Int) ≤ (x : Int) := by omega
  have i1 : (x : Int) < (n : Int) := by omega
  clear hr hy
  go_enter Tryd.func45, Tryd.ntmps45
  go_wp2
  go_ret
  exact ⟨rfl, rfl⟩
set_option maxRecDepth 100000 in
theorem eval2_any (w : World) (b Q n x : Nat) (L : List Bool) (t : TypeId) (hb : w.cell? ⟨b, 0, none⟩ = some (.slice (some ⟨Q, 0, none⟩) n n)) (hr : w.rowIs Q t n (boolF L)) (hx : x < n) :
    Calls Tryd.prog 46 #[.int .i64 (x : Int), .pointer (some ⟨b, 0, none⟩)] w fun e w' => e = .returned (.bool (L.getD x false)) ∧ w = w' := by
  have hc := hr.cell hx
  unfold boolF at hc
  obtain ⟨y, hy⟩ : ∃ y, L.getD x false = y := ⟨_, rfl⟩
  rw [hy] at hc ⊢
  have i0 : (0 : Int) ≤ (x : Int) := by omega
  have i1 : (x : Int) < (n : Int) := by omega
  clear hr hy
  go_enter Tryd.func46, Tryd.ntmps46
  go_wp2
  go_ret
  exact ⟨rfl, rfl⟩
/-- What lies in memory ahead of a round of Eval. -/
structure EvR (w : World) (n : Int) (l : List Nd) (A : Option Addr) (c s Q : Nat) (L : List Bool) (wr : World) : Prop where
  net : wr.rowIs w.heap.size 24 2 (ntF ⟨n, l⟩ A c)
  set : wr.rowIs (w.heap.size + 1) 27 2 (fun i => if i = 0 then .int .u64 (lo s : Int) else .int .u64 (hi s : Int))
  row : wr.rowIs Q 4 l.length (boolF L)
  box : wr.rowIs (Q + 1) 78 1 (fun _ => .slice (some ⟨Q, 0, none⟩) l.length l.length)
  bl : Below w.heap.size w wr
  lt : w.heap.size + 1 < Q
section
variable {w : World} {n : Int} {l : List Nd} {A : Option Addr} {c s Q : Nat} {L : List Bool} {wr w' : World}
theorem EvR.below (h : EvR w n l A c s Q L wr) (hb : Below wr.heap.size wr w') : EvR w n l A c s Q L w' := ⟨rowBelow h.net hb, rowBelow h.set hb, rowBelow h.row hb, rowBelow h.box hb, Cs.Below.trans' h.bl hb h.bl.size, h.lt⟩
theorem EvR.drew (h : EvR w n l A c s Q L wr) : EvR w n l A c s Q L wr.drew := h.below (belowDrewN (Below.refl _ _) 1)
theorem EvR.next (h : EvR w n l A c s Q L wr) (b : Bool) (j : Nat) (hj : j = L.length) : EvR w n l A c s Q (L ++ [b]) (wr.setCell ⟨Q, j, none⟩ (.bool b)) := by
  have := h.lt
  exact ⟨h.net.setOther (by simp; omega) _, h.set.setOther (by simp; omega) _, boolsNext h.row j b hj, h.box.setOther (by simp) _, h.bl.setCell (by simp; omega) _, h.lt⟩
theorem EvR.same (h : EvR w n l A c s Q L wr) : EvR w n l A c s Q (L ++ [false]) wr := ⟨h.net, h.set, boolsSame h.row, h.box, h.bl, h.lt⟩
end
set_option maxRecDepth 100000 in
set_option maxHeartbeats 4000000 in
theorem all_anyN {α : Type} (xs : List α) (p : α → Bool) : xs.all p = !xs.any (fun j => !p j) := by
  induction xs with
  | nil => rfl
  | cons a xs ih => simp only [List.all_cons, List.any_cons, ih]; cases p a <;> rfl

theorem eval_ok (w : World) (N : Nt) (A : Option Addr) (c s : Nat) (hN : NtAt w w.heap.size A N.l) (hv : vld N = true) :
    Calls Tryd.prog 19 #[ntV N A c, setV s] w fun e w' => e = .returned (.bool (evB N s)) ∧ Below w.heap.size w w' := by
  obtain ⟨hn0, hn1, hl0, hl1⟩ := vld_bounds hv
  have hck := fun W h => nodeCheck_any W N A c (by omega) h
  rw [show chk N = 0 by unfold chk; rw [hv]; rfl] at hck
  have hfm := fun k hk => vld_formed hv k hk
  have hev : (truth s N.l).getD (N.l.length - 1) false = evB N s := rfl
  obtain ⟨E, hE⟩ : ∃ b, evB N s = b := ⟨_, rfl⟩
  rw [hE] at hev ⊢
  obtain ⟨n, l⟩ := N
  simp only at hN hn0 hn1 hl0 hl1 hfm hev
  have HCK := Lib.hid hck
  have HF := Lib.hid hfm
  have HEV := Lib.hid hev
  clear hck hfm hev hE hv
  have hmk := mk_bool l.length (by omega)
  have hbox := (ntNew w ⟨n, l⟩ A c 24 _ rfl).alloc (.cells #[.int .u64 (lo s : Int), .int .u64 (hi s : Int)] 27)
  have hsb := pairNew (w.alloc (.cells #[.int .i64 n, .slice A l.length c] 24)) (.int .u64 (lo s : Int)) (.int .u64 (hi s : Int)) 27 (w.heap.size + 1) (by simp)
  have hbl : Below w.heap.size w ((w.alloc (.cells #[.int .i64 n, .slice A l.length c] 24)).alloc (.cells #[.int .u64 (lo s : Int), .int .u64 (hi s : Int)] 27)) := ((Below.refl _ _).alloc (Nat.le_refl _) _).alloc (by simp) _
  go_enter Tryd.func19, Tryd.ntmps19
  go_wp2_with fail
  refine (HCK.out _ ((hN.below hbl).more hbl.size)).mono ?_
  rintro e w5 ⟨rfl, hb5⟩
  replace hbox := rowBelow hbox hb5
  replace hsb := rowBelow hsb hb5
  replace hbl := Cs.Below.trans' hbl hb5 hbl.size
  have hq := hsb.lt
  have hq2 := hbox.lt
  obtain ⟨hc1, hc2⟩ := ntCells hbox
  have hE0 : EvR w n l A c s w5.heap.size [] ((w5.alloc (.cells (madeCells #[.bool false] l.length) 4)).alloc (.cells #[.slice (some ⟨w5.heap.size, 0, none⟩) l.length l.length] 78)) :=
    ⟨(hbox.alloc _).alloc _, (hsb.alloc _).alloc _, (boolsMade w5 l.length 4 _ rfl).alloc _, boxNew _ _ _ _ (by simp), (hbl.alloc hbl.size _).alloc (by simp; have := hbl.size; omega) _, hq⟩
  have HE0 := Lib.hid hE0
  clear hbox hsb hbl hE0 hb5 HCK
  go_wp2
  go_loopw [18] (fun t wr => ∃ k : Nat, k ≤ l.length ∧ t = .int .i64 k ∧ EvR w n l A c s w5.heap.size (truth s (l.take k)) wr) (fun t _ => l.length - (intOf t).toNat)
  case atStart => exact ⟨0, by omega, rfl, HE0.out⟩
  case round =>
    clear HE0 hc1 hc2 hmk
    obtain ⟨k, hk, rfl, hE⟩ := hrel
    obtain ⟨Q, hQ⟩ : ∃ Q, w5.heap.size = Q := ⟨_, rfl⟩
    simp only [hQ] at hE ⊢
    by_cases hlt : k < l.length
    · obtain ⟨b, o, rfl, hbB, hcs⟩ := hN (by omega)
      have hnd := hcs k hlt
      clear hcs
      have ht := scan_take (evStep s) l k hlt
      have hfk := HF.out k hlt
      obtain ⟨x, hx⟩ : ∃ x, l[k] = x := ⟨_, rfl⟩
      rw [hx] at hnd ht hfk
      have hks := formed_kinds hfk
      have hmem := formed_mem hfk
      have hnil : x.kind ≠ 3 → x.kind ≠ 4 → x.ins = [] := fun h3 h4 => by
        rcases formed_kind hfk with ⟨_, h⟩ | h | h
        · exact List.length_eq_zero_iff.1 h
        · exact absurd h h3
        · exact absurd h h4
      have HMEM := Lib.hid hmem
      have HNIL := Lib.hid hnil
      have HT := Lib.hid ht
      clear hmem hnil ht hx hfk
      obtain ⟨hk1, hk2, ⟨A', c', hk3, hrd⟩, hr1, hr2, hr3, hr4⟩ := hnd
      replace hk1 := below_cell hE.bl hbB hk1
      replace hk2 := below_cell hE.bl hbB hk2
      replace hk3 := below_cell hE.bl hbB hk3
      have HRD := Lib.hid ((hrd.below hE.bl).more hE.bl.size); clear hrd
      obtain ⟨L, hL⟩ : ∃ L, truth s (l.take k) = L := ⟨_, rfl⟩
      have hLl : L.length = k := by rw [← hL]; exact scan_len _ _ _ (by omega)
      rw [hL] at hE
      change Hid (truth s (l.take (k + 1)) = truth s (l.take k) ++ [evStep s (truth s (l.take k)) x]) at HT
      rw [hL] at HT
      have HLL := Lib.hid hLl
      clear hL hLl
      obtain ⟨hl1', hl2'⟩ := hr2
      have hi0 : (0 : Int) ≤ (k : Int) := by omega
      have hi1 : (k : Int) < (l.length : Int) := by omega
      have hal : Below wr.heap.size wr (wr.alloc (.cells #[.int .i64 x.kind, .int .i64 x.lit, .slice A' x.ins.length c'] 41)) := (Below.refl _ _).alloc (Nat.le_refl _) _
      have hE1 := hE.below hal
      have hnr := ndNew wr x A' c' 41 _ rfl
      have hlaid : ∀ (W : World) (a1 : Int), W = wr.alloc (.cells #[.int .i64 a1, .int .i64 x.lit, .slice A' x.ins.length c'] 41) → a1 = x.kind →
          EvR w n l (some ⟨b, o, none⟩) c s Q L W ∧ W.rowIs wr.heap.size 41 3 (ndF x A' c') := fun W a1 hW e1 => by
        subst hW; subst e1; exact ⟨hE1, hnr⟩
      have HLAID := Lib.hid hlaid
      have hc18 := boxCell hE.box
      have hc19 := hE.row.cell (i := k) (by omega)
      have hc20 := hE.row.frozen k
      have hQr := hE.row.lt
      have hQb := hE.box.lt
      have HE := Lib.hid hE
      clear hlaid hnr hE1 hal hE
      obtain ⟨kd, hkd⟩ : ∃ kd, kd = x.kind := ⟨_, rfl⟩
      rw [← hkd] at hks hk1
      have HKD := Lib.hid hkd
      have hstep : ∀ kd, x.kind = kd → evStep s L x = if kd = 3 then x.ins.all (fun j => L.getD j.toNat false) else if kd = 4 then x.ins.any (fun j => L.getD j.toNat false) else evStart s x := fun kd h => by
        show x.ins.foldl (evIn L x) (evStart s x) = _
        by_cases h3 : kd = 3
        · rw [if_pos h3, fold_all x (by omega), show evStart s x = true by unfold evStart; rw [h, h3]; rfl, Bool.true_and]
        · rw [if_neg h3]
          by_cases h4 : kd = 4
          · rw [if_pos h4, fold_ev x (by omega), show evStart s x = false by unfold evStart; rw [h, h4]; rfl, Bool.false_or]
          · rw [if_neg h4, HNIL.out (by omega) (by omega)]; rfl
      have hst := hstep kd hkd.symm
      have hes : evStart s x = (decide (kd = 1) || decide (kd = 3) || (decide (kd = 2) && hld s x.lit)) := by unfold evStart; rw [hkd]
      rw [hes] at hst
      have HST := Lib.hid hst
      clear hstep hst hes hkd hr1
      rcases hks with rfl | rfl | rfl | rfl | rfl
      · go_wp2
        have HX := Lib.hid (HLAID.out _ _ rfl HKD.out).1.same
        have hst : evStep s L x = false := by rw [HST.out]; simp
        have hnx := HT.out
        rw [hst] at hnx
        have HNX := Lib.hid hnx
        clear hnx
        go_roundw
        case rel => exact ⟨k + 1, by omega, by go_num, by rw [HNX.out]; exact HX.out⟩
        case measure => simp [intOf]; omega
      · go_wp2
        have hx := (HLAID.out _ _ rfl HKD.out).1.next true k HLL.out.symm
        rw [World.setCell_alloc_past _ _ _ _ hQr] at hx
        have HX := Lib.hid hx
        have hst : evStep s L x = true := by rw [HST.out]; simp
        have hnx := HT.out
        rw [hst] at hnx
        have HNX := Lib.hid hnx
        clear hnx
        go_roundw
        case rel => exact ⟨k + 1, by omega, by go_num, by rw [HNX.out]; exact HX.out⟩
        case measure => simp [intOf]; omega
      · go_wp2_with fail
        obtain ⟨q1, q2⟩ := HLAID.out _ _ rfl HKD.out
        replace q1 := q1.drew
        replace q2 := q2.drew
        obtain ⟨d1, d2, d3⟩ := ndCells q2
        have e1 := boxCell q1.box
        have e2 := q1.set.cell (i := 0) (by omega)
        have e3 := q1.set.cell (i := 1) (by omega)
        rw [if_pos rfl] at e2
        rw [if_neg (by omega)] at e3
        have e4 := q1.row.cell (i := k) (by omega)
        have e5 := q1.row.frozen k
        have hho := fun W => holds_any W s x.lit hl1' hl2'
        obtain ⟨H, hH⟩ : ∃ b, hld s x.lit = b := ⟨_, rfl⟩
        rw [hH] at HST
        simp only [hH] at hho
        have HHO := Lib.hid hho
        have hst : evStep s L x = H := by rw [HST.out]; simp
        have hnx := HT.out
        rw [hst] at hnx
        have hlt5 := q1.lt
        have HN1 : Hid (Q ≠ Q + 1) := Lib.hid (by omega)
        have HN2 : Hid (Q ≠ w.heap.size + 1) := Lib.hid (by omega)
        have HN3 : Hid (Q ≠ wr.heap.size) := Lib.hid (by omega)
        have HNX := Lib.hid hnx
        clear hnx hho hH
        go_region_held3 (fun w' => w'.cell? ⟨Q + 1, 0, none⟩ = some (.slice (some ⟨Q, 0, none⟩) l.length l.length) ∧ w'.cell? ⟨w.heap.size + 1, 0, none⟩ = some (.int .u64 (lo s : Int)) ∧ w'.cell? ⟨w.heap.size + 1, 1, none⟩ = some (.int .u64 (hi s : Int)) ∧ w'.cell? ⟨wr.heap.size, 1, none⟩ = some (.int .i64 x.lit))
          (first | exact ⟨e1, e2, e3, d2⟩ | exact ⟨(World.cell?_setCell_far _ _ _ _ HN1.out).trans e1, (World.cell?_setCell_far _ _ _ _ HN2.out).trans e2, (World.cell?_setCell_far _ _ _ _ HN2.out).trans e3, (World.cell?_setCell_far _ _ _ _ HN3.out).trans d2⟩ | go_keep)
          (first
            | (go_simp
               go_at_call 43
               (with_reducible refine (HHO.out _).mono ?_)
               rintro e' w9 ⟨rfl, hb9⟩
               replace q1 := q1.below hb9
               replace q2 := rowBelow q2 hb9
               obtain ⟨d1, d2, d3⟩ := ndCells q2
               have e1 := boxCell q1.box
               have e2 : w9.cell? ⟨w.heap.size + 1, 0, none⟩ = some (.int .u64 (lo s : Int)) := q1.set.cell (i := 0) (by omega)
               have e3 : w9.cell? ⟨w.heap.size + 1, 1, none⟩ = some (.int .u64 (hi s : Int)) := q1.set.cell (i := 1) (by omega)
               have e4 := q1.row.cell (i := k) (by omega)
               have e5 := q1.row.frozen k))
        all_goals
          try go_wp2
          have HX := Lib.hid (q1.next H k HLL.out.symm)
          go_roundw
          case rel => exact ⟨k + 1, by omega, by go_num, by rw [HNX.out]; exact HX.out⟩
          case measure => simp [intOf]; omega
      · go_wp2_with fail
        obtain ⟨q1, q2⟩ := HLAID.out _ _ rfl HKD.out
        have hrd1 := (HRD.out.below ((Below.refl _ _).alloc (Nat.le_refl _) (.cells #[.int .i64 3, .int .i64 x.lit, .slice A' x.ins.length c'] 41))).more (B' := (wr.alloc (.cells #[.int .i64 3, .int .i64 x.lit, .slice A' x.ins.length c'] 41)).heap.size) (by simp)
        generalize wr.alloc (.cells #[.int .i64 3, .int .i64 x.lit, .slice A' x.ins.length c'] 41) = W1 at q1 q2 hrd1 ⊢
        have HRD1 := Lib.hid ((hrd1.below (belowDrewN (Below.refl _ _) 1)).more (B' := W1.drew.heap.size) (Nat.le_refl _))
        clear hrd1
        replace q1 := q1.drew
        replace q2 := q2.drew
        obtain ⟨d1, d2, d3⟩ := ndCells q2
        have e1 := boxCell q1.box
        have e4 := q1.row.cell (i := k) (by omega)
        have e5 := q1.row.frozen k
        have hcf := fun W (h1 : Rd W W.heap.size A' x.ins.length (intF x.ins)) (h2 : EvR w n l (some ⟨b, o, none⟩) c s Q L W) => containsFunc_any W A' c' x.ins hr4 h1 45 (.pointer (some ⟨Q + 1, 0, none⟩)) (fun j => !L.getD j.toNat false) (enters_of Tryd.func45 (by kernel_rfl) rfl) (fun j hj => by
          obtain ⟨m, rfl, hm⟩ := HMEM.out j hj
          have := eval1_any W (Q + 1) Q l.length m L 4 (boxCell h2.box) h2.row (by omega)
          rw [Int.toNat_natCast]; exact this)
        obtain ⟨B, hB⟩ : ∃ B, x.ins.any (fun j => !L.getD j.toNat false) = B := ⟨_, rfl⟩
        simp only [hB] at hcf
        have HCF := Lib.hid hcf
        have hst : evStep s L x = (!B) := by rw [HST.out, ← hB, if_pos trivial]; exact all_anyN x.ins _
        have hnx := HT.out
        rw [hst] at hnx
        have HNX := Lib.hid hnx
        have hlt5 := q1.lt
        have HN1 : Hid (Q ≠ Q + 1) := Lib.hid (by omega)
        have HN3 : Hid (Q ≠ wr.heap.size) := Lib.hid (by omega)
        clear hnx hcf hst hB
        go_region_held3 (fun w' => w'.cell? ⟨Q + 1, 0, none⟩ = some (.slice (some ⟨Q, 0, none⟩) l.length l.length) ∧ w'.cell? ⟨wr.heap.size, 2, none⟩ = some (.slice A' x.ins.length c'))
          (first | exact ⟨e1, d3⟩ | exact ⟨(World.cell?_setCell_far _ _ _ _ HN1.out).trans e1, (World.cell?_setCell_far _ _ _ _ HN3.out).trans d3⟩ | go_keep)
          (first
            | (go_simp
               go_at_call 44
               (with_reducible refine (HCF.out _ HRD1.out q1).mono ?_)
               rintro e' w9 ⟨rfl, rfl⟩))
        all_goals
          try go_wp2
          have HX := Lib.hid (q1.next (!B) k HLL.out.symm)
          go_roundw
          case rel => exact ⟨k + 1, by omega, by go_num, by rw [HNX.out]; exact HX.out⟩
          case measure => simp [intOf]; omega
      · go_wp2_with fail
        obtain ⟨q1, q2⟩ := HLAID.out _ _ rfl HKD.out
        have hrd1 := (HRD.out.below ((Below.refl _ _).alloc (Nat.le_refl _) (.cells #[.int .i64 4, .int .i64 x.lit, .slice A' x.ins.length c'] 41))).more (B' := (wr.alloc (.cells #[.int .i64 4, .int .i64 x.lit, .slice A' x.ins.length c'] 41)).heap.size) (by simp)
        generalize wr.alloc (.cells #[.int .i64 4, .int .i64 x.lit, .slice A' x.ins.length c'] 41) = W1 at q1 q2 hrd1 ⊢
        have HRD1 := Lib.hid ((hrd1.below (belowDrewN (Below.refl _ _) 1)).more (B' := W1.drew.heap.size) (Nat.le_refl _))
        clear hrd1
        replace q1 := q1.drew
        replace q2 := q2.drew
        obtain ⟨d1, d2, d3⟩ := ndCells q2
        have e1 := boxCell q1.box
        have e4 := q1.row.cell (i := k) (by omega)
        have e5 := q1.row.frozen k
        have hcf := fun W (h1 : Rd W W.heap.size A' x.ins.length (intF x.ins)) (h2 : EvR w n l (some ⟨b, o, none⟩) c s Q L W) => containsFunc_any W A' c' x.ins hr4 h1 46 (.pointer (some ⟨Q + 1, 0, none⟩)) (fun j => L.getD j.toNat false) (enters_of Tryd.func46 (by kernel_rfl) rfl) (fun j hj => by
          obtain ⟨m, rfl, hm⟩ := HMEM.out j hj
          have := eval2_any W (Q + 1) Q l.length m L 4 (boxCell h2.box) h2.row (by omega)
          rw [Int.toNat_natCast]; exact this)
        obtain ⟨B, hB⟩ : ∃ B, x.ins.any (fun j => L.getD j.toNat false) = B := ⟨_, rfl⟩
        simp only [hB] at hcf
        have HCF := Lib.hid hcf
        have hst : evStep s L x = B := by rw [HST.out, ← hB]; simp
        have hnx := HT.out
        rw [hst] at hnx
        have HNX := Lib.hid hnx
        have hlt5 := q1.lt
        have HN1 : Hid (Q ≠ Q + 1) := Lib.hid (by omega)
        have HN3 : Hid (Q ≠ wr.heap.size) := Lib.hid (by omega)
        clear hnx hcf hst hB
        go_region_held3 (fun w' => w'.cell? ⟨Q + 1, 0, none⟩ = some (.slice (some ⟨Q, 0, none⟩) l.length l.length) ∧ w'.cell? ⟨wr.heap.size, 2, none⟩ = some (.slice A' x.ins.length c'))
          (first | exact ⟨e1, d3⟩ | exact ⟨(World.cell?_setCell_far _ _ _ _ HN1.out).trans e1, (World.cell?_setCell_far _ _ _ _ HN3.out).trans d3⟩ | go_keep)
          (first
            | (go_simp
               go_at_call 44
               (with_reducible refine (HCF.out _ HRD1.out q1).mono ?_)
               rintro e' w9 ⟨rfl, rfl⟩))
        all_goals
          try go_wp2
          have HX := Lib.hid (q1.next B k HLL.out.symm)
          go_roundw
          case rel => exact ⟨k + 1, by omega, by go_num, by rw [HNX.out]; exact HX.out⟩
          case measure => simp [intOf]; omega
    · obtain rfl : k = l.length := by omega
      rw [List.take_length] at hE
      have hi1 : ¬ ((l.length : Int) < (l.length : Int)) := by omega
      have hi2 : (0 : Int) ≤ (l.length : Int) - 1 := by omega
      have hi3 : (l.length : Int) - 1 < (l.length : Int) := by omega
      have hwr : IntKind.i64.wrap ((l.length : Int) - 1) = (l.length : Int) - 1 := by rw [IntKind.wrap_i64]; omega
      have htn : ((l.length : Int) - 1).toNat = l.length - 1 := by omega
      have hc18 := boxCell hE.box
      have hc19 := hE.row.cell (i := l.length - 1) (by omega)
      unfold boolF at hc19
      rw [HEV.out] at hc19
      have hb := hE.bl
      clear hE hlt
      go_wp2
      go_ret
      exact ⟨rfl, hb⟩
end Go.Proofs.YtemgfhdgpkmmaaaDoor
