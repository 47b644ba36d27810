/- The walk of list.all. -/
import Derived.Test.YtemgfhdgpkmmaaaDoorL2
set_option linter.unusedSimpArgs false
set_option linter.unusedVariables false
open Go Go.RowKit Cs
namespace Go.Proofs.YtemgfhdgpkmmaaaDoor
/-- A row of turns. -/
def tnsF (L : List Tn) (i : Nat) : Value := if i % 3 = 0 then .int .u64 (lo (L.getD (i / 3) ⟨0, 0⟩).set : Int) else if i % 3 = 1 then .int .u64 (hi (L.getD (i / 3) ⟨0, 0⟩).set : Int) else .int .i64 ((L.getD (i / 3) ⟨0, 0⟩).far : Int)
theorem tnsCells {w : World} {g n : Nat} {t : TypeId} {L : List Tn} (h : w.rowIs g t n (tnsF L)) (j : Nat) (hj : j * 3 + 2 < n) (T : Tn) (hT : L.getD j ⟨0, 0⟩ = T) :
    w.cell? ⟨g, j * 3, none⟩ = some (.int .u64 (lo T.set : Int)) ∧ w.cell? ⟨g, j * 3 + 1, none⟩ = some (.int .u64 (hi T.set : Int)) ∧ w.cell? ⟨g, j * 3 + 2, none⟩ = some (.int .i64 (T.far : Int)) := by
  subst hT
  refine ⟨(h.cell (i := j * 3) (by omega)).trans ?_, (h.cell (i := j * 3 + 1) (by omega)).trans ?_, (h.cell (i := j * 3 + 2) (by omega)).trans ?_⟩
  · unfold tnsF; rw [if_pos (by omega), show j * 3 / 3 = j by omega]
  · unfold tnsF; rw [if_neg (by omega), if_pos (by omega), show (j * 3 + 1) / 3 = j by omega]
  · unfold tnsF; rw [if_neg (by omega), if_neg (by omega), show (j * 3 + 2) / 3 = j by omega]
theorem size_turn : (Tryd.prog.info? 133).map (·.size) = some 3 := by kernel_rfl
theorem ret_turn {fn : Func} {R : Ending → World → Prop} {a : Act} {w : World} {p : Tmp} (h : fn.results = #[.cell p 133]) {g : Nat} {t : TypeId} (T : Tn)
    (hp : a.tmps.getD p undef = .pointer (some ⟨g, 0, none⟩)) (hrow : w.rowIs g t 3 (tnF T)) (hdf : a.defers = []) (hR : R (.returned (tnV T)) w) : bodyPost Tryd.prog fn R .ret a w := by
  refine ret_row h g t 3 (tnF T) hp hrow _ Tryd.underlying133 rfl size_turn hdf ?_
  exact hR
theorem lows_le (F : List Nat) : (lows F).1 ≤ 129 ∧ (lows F).2 ≤ 129 := by
  unfold lows
  suffices h : ∀ (F : List Nat) (p : Nat × Nat), p.1 ≤ 129 → p.2 ≤ 129 → (F.foldl low2 p).1 ≤ 129 ∧ (F.foldl low2 p).2 ≤ 129 from h F _ (by decide) (by decide)
  intro F
  induction F with
  | nil => exact fun p h1 h2 => ⟨h1, h2⟩
  | cons f F ih =>
    intro p h1 h2
    rw [List.foldl_cons]
    refine ih _ ?_ ?_
    · unfold low2; split
      · simp only; omega
      · exact h1
    · unfold low2; split
      · exact h1
      · simp only; omega
def fars (L : List Tn) (ins : List Int) : List Nat := ins.map fun k => (L.getD k.toNat ⟨0, 0⟩).far
theorem fars_take (L : List Tn) (ins : List Int) (k : Nat) (h : k < ins.length) : lows (fars L (ins.take (k + 1))) = low2 (lows (fars L (ins.take k))) (L.getD (ins[k]).toNat ⟨0, 0⟩).far := by
  rw [List.take_succ_eq_append_getElem h]
  unfold fars lows
  rw [List.map_append, List.foldl_append]; rfl
def accN (L : List Tn) (P : Nat × Nat) (ins : List Int) : Nat := ins.foldl (fun s k => s ||| upToN (L.getD k.toNat ⟨0, 0⟩).set (othr P (L.getD k.toNat ⟨0, 0⟩).far)) 0
theorem acc_take (L : List Tn) (P : Nat × Nat) (ins : List Int) (k : Nat) (h : k < ins.length) : accN L P (ins.take (k + 1)) = accN L P (ins.take k) ||| upToN (L.getD (ins[k]).toNat ⟨0, 0⟩).set (othr P (L.getD (ins[k]).toNat ⟨0, 0⟩).far) := by
  rw [List.take_succ_eq_append_getElem h]
  unfold accN
  rw [List.foldl_append]; rfl
theorem tnPut {w : World} {g : Nat} {t : TypeId} {s0 f : Nat} (h : w.rowIs g t 3 (tnF ⟨s0, f⟩)) (s : Nat) :
    ((w.setCell ⟨g, 0, none⟩ (.int .u64 (lo s : Int))).setCell ⟨g, 1, none⟩ (.int .u64 (hi s : Int))).rowIs g t 3 (tnF ⟨s, f⟩) :=
  ((h.set 0 _).set 1 _).congr fun i hi => by
    have : i = 0 ∨ i = 1 ∨ i = 2 := by omega
    rcases this with rfl | rfl | rfl <;> rfl
theorem tnAllPut {w : World} {g : Nat} {t : TypeId} {f : Nat → Value} (h : w.rowIs g t 3 f) (T : Tn) :
    (((w.setCell ⟨g, 0, none⟩ (.int .u64 (lo T.set : Int))).setCell ⟨g, 1, none⟩ (.int .u64 (hi T.set : Int))).setCell ⟨g, 2, none⟩ (.int .i64 (T.far : Int))).rowIs g t 3 (tnF T) :=
  (((h.set 0 _).set 1 _).set 2 _).congr fun i hi => by
    have : i = 0 ∨ i = 1 ∨ i = 2 := by omega
    rcases this with rfl | rfl | rfl <;> rfl
theorem tnSet {w : World} {g : Nat} {t : TypeId} {p : Tn} (h : w.rowIs g t 3 (tnF p)) :
    w.cell? ⟨g, 0, none⟩ = some (.int .u64 (lo p.set : Int)) ∧ w.cell? ⟨g, 1, none⟩ = some (.int .u64 (hi p.set : Int)) := ⟨h.cell (i := 0) (by omega), h.cell (i := 1) (by omega)⟩
theorem tnFree {w : World} {g : Nat} {t : TypeId} {p : Tn} (h : w.rowIs g t 3 (tnF p)) : w.frozen? ⟨g, 0, none⟩ = false ∧ w.frozen? ⟨g, 1, none⟩ = false := ⟨h.frozen _, h.frozen _⟩
set_option maxRecDepth 100000 in
set_option maxHeartbeats 4000000 in
theorem all_list (w : World) (G m c : Nat) (L : List Tn) (A : Option Addr) (c2 : Nat) (ins : List Int) (hm : m ≤ 65536) (hlen : ins.length ≤ 140737488355328)
    (hr : w.rowIs G 133 (m * 3) (tnsF L)) (hi : Rd w w.heap.size A ins.length (intF ins)) (hmem : ∀ j ∈ ins, ∃ i : Nat, j = i ∧ i < m) :
    Calls Tryd.prog 99 #[.slice (some ⟨G, 0, none⟩) m c, .slice A ins.length c2] w fun e w' => e = .returned (tnV (tnAll L ins)) ∧ Below w.heap.size w w' := by
  have hall : tnAll L ins = ⟨accN L (lows (fars L ins)) ins, (lows (fars L ins)).1⟩ := rfl
  obtain ⟨T0, hT0⟩ : ∃ T0, tnAll L ins = T0 := ⟨_, rfl⟩
  rw [hT0] at hall ⊢
  have HALL := Lib.hid hall
  have HMEM := Lib.hid hmem
  have HIN := Lib.hid hi
  have HR := Lib.hid hr
  have hG := hr.lt
  have hz := row3 w (.int .u64 0) (.int .u64 0) (.int .i64 0) 133 _ rfl
  have hbl : Below w.heap.size w (w.alloc (.cells #[.int .u64 0, .int .u64 0, .int .i64 0] 133)) := (Below.refl _ _).alloc (Nat.le_refl _) _
  have HZ := Lib.hid (And.intro hz hbl)
  clear hmem hi hr hz hbl hall hT0
  go_enter Tryd.func99, Tryd.ntmps99
  go_wp2
  go_loopw [5, 6, 16] (fun p q t wr => wr = w.alloc (.cells #[.int .u64 0, .int .u64 0, .int .i64 0] 133) ∧ ∃ k : Nat, k ≤ ins.length ∧ t = .int .i64 k ∧ p = .int .i64 ((lows (fars L (ins.take k))).1 : Int) ∧ q = .int .i64 ((lows (fars L (ins.take k))).2 : Int)) (fun p q t _ => ins.length - (intOf t).toNat)
  case atStart => exact ⟨rfl, 0, by omega, rfl, rfl, rfl⟩
  case round =>
    obtain ⟨rfl, k, hk, rfl, rfl, rfl⟩ := hrel
    by_cases hlt : k < ins.length
    · obtain ⟨b, o, rfl, hbB, hcs⟩ := HIN.out (by omega)
      have hc3 := below_cell HZ.out.2 hbB (hcs k hlt)
      clear hcs
      have hft := fars_take L ins k hlt
      obtain ⟨j, hj, hjm⟩ := HMEM.out ins[k] (List.getElem_mem hlt)
      have hii : intF ins k = .int .i64 (j : Int) := by unfold intF; rw [List.getD_eq_getElem?_getD, List.getElem?_eq_getElem hlt]; simp [hj]
      rw [hii] at hc3
      rw [hj, Int.toNat_natCast] at hft
      obtain ⟨T, hT⟩ : ∃ T, L.getD j ⟨0, 0⟩ = T := ⟨_, rfl⟩
      rw [hT] at hft
      have hl2 := (lows_le (fars L (ins.take k))).2
      obtain ⟨⟨p, q⟩, hp⟩ : ∃ p, lows (fars L (ins.take k)) = p := ⟨_, rfl⟩
      rw [hp] at hft hl2 ⊢
      obtain ⟨d1, d2, d3⟩ := tnsCells (rowBelow HR.out HZ.out.2) j (by omega) T hT
      clear hp hii hj hT
      obtain ⟨f, hf⟩ : ∃ f, T.far = f := ⟨_, rfl⟩
      rw [hf] at hft d3
      have j0 : (0 : Int) ≤ (j : Int) := by omega
      have j1 : (j : Int) < (m : Int) := by omega
      have hmn : min (q : Int) (f : Int) = ((min q f : Nat) : Int) := by omega
      by_cases hfp : f < p
      · have hl : low2 (p, q) f = (f, p) := if_pos hfp
        rw [hl] at hft
        have HFT := Lib.hid hft
        have hfp2 : (f : Int) < (p : Int) := by omega
        clear hft hl
        go_wp2
        go_roundw
        case rel => exact ⟨trivial, k + 1, by omega, by go_num, by rw [HFT.out], by rw [HFT.out]⟩
        case measure => simp [intOf]; omega
      · have hl : low2 (p, q) f = (p, min q f) := if_neg hfp
        rw [hl] at hft
        have HFT := Lib.hid hft
        have hfp2 : ¬ (f : Int) < (p : Int) := by omega
        clear hft hl
        go_wp2
        all_goals
          go_roundw
          case rel => exact ⟨trivial, k + 1, by omega, by go_num, by rw [HFT.out], by first | (rw [HFT.out]; done) | (rw [HFT.out]; go_num)⟩
          case measure => simp [intOf]; omega
    · obtain rfl : k = ins.length := by omega
      rw [List.take_length]
      have hall := HALL.out
      have hl1 := lows_le (fars L ins)
      obtain ⟨P, hP⟩ : ∃ P, lows (fars L ins) = P := ⟨_, rfl⟩
      rw [hP] at hl1 hall ⊢
      obtain ⟨p, q⟩ := P
      simp only at hl1 hall ⊢
      have HALL2 := Lib.hid hall
      obtain ⟨hp129, hq129⟩ := hl1
      clear hP hall hlt
      have hz2 := HZ.out.1.alloc (.cells #[.int .u64 0, .int .u64 0, .int .i64 (p : Int)] 133)
      have ho2 : ((w.alloc (.cells #[.int .u64 0, .int .u64 0, .int .i64 0] 133)).alloc (.cells #[.int .u64 0, .int .u64 0, .int .i64 (p : Int)] 133)).rowIs (w.heap.size + 1) 133 3 (tnF ⟨0, p⟩) := (row3 (w.alloc (.cells #[.int .u64 0, .int .u64 0, .int .i64 0] 133)) (.int .u64 0) (.int .u64 0) (.int .i64 (p : Int)) 133 (w.heap.size + 1) (by simp)).congr fun i hi => by
        have h0 : lo 0 = 0 := by decide
        have h1 : Cs.hi 0 = 0 := by decide
        have : i = 0 ∨ i = 1 ∨ i = 2 := by omega
        rcases this with rfl | rfl | rfl <;> simp [tnF, h0, h1]
      have hb2 := HZ.out.2.alloc HZ.out.2.size (.cells #[.int .u64 0, .int .u64 0, .int .i64 (p : Int)] 133)
      have H2 := Lib.hid (And.intro hz2 (And.intro ho2 hb2))
      clear hz2 ho2 hb2
      go_wp2
      go_loopw [38] (fun t wr => ∃ k : Nat, k ≤ ins.length ∧ t = .int .i64 k ∧ wr.rowIs w.heap.size 133 3 (fun i => if i = 0 then .int .u64 0 else if i = 1 then .int .u64 0 else .int .i64 0) ∧ wr.rowIs (w.heap.size + 1) 133 3 (tnF ⟨accN L (p, q) (ins.take k), p⟩) ∧ Below w.heap.size w wr) (fun t _ => ins.length - (intOf t).toNat)
      case atStart => exact ⟨0, by omega, rfl, H2.out.1, by rw [List.take_zero]; exact H2.out.2.1, H2.out.2.2⟩
      case round =>
        clear HZ H2 HALL
        obtain ⟨k, hk, rfl, hx1, hx2, hbl⟩ := hrel
        by_cases hlt : k < ins.length
        · obtain ⟨b, o, rfl, hbB, hcs⟩ := HIN.out (by omega)
          have hc3 := below_cell hbl hbB (hcs k hlt)
          clear hcs
          have hat := acc_take L (p, q) ins k hlt
          obtain ⟨j, hj, hjm⟩ := HMEM.out ins[k] (List.getElem_mem hlt)
          have hii : intF ins k = .int .i64 (j : Int) := by unfold intF; rw [List.getD_eq_getElem?_getD, List.getElem?_eq_getElem hlt]; simp [hj]
          rw [hii] at hc3
          rw [hj, Int.toNat_natCast] at hat
          obtain ⟨T, hT⟩ : ∃ T, L.getD j ⟨0, 0⟩ = T := ⟨_, rfl⟩
          rw [hT] at hat
          obtain ⟨s0, hs0⟩ : ∃ s0, accN L (p, q) (ins.take k) = s0 := ⟨_, rfl⟩
          rw [hs0] at hat hx2
          have hrow := rowBelow HR.out hbl
          obtain ⟨d1, d2, d3⟩ := tnsCells hrow j (by omega) T hT
          have j0 : (0 : Int) ≤ (j : Int) := by omega
          have j1 : (j : Int) < (m : Int) := by omega
          have ho : othr (p, q) T.far ≤ 129 := by unfold othr; split <;> assumption
          have hoe : othr (p, q) T.far = if T.far = p then q else p := rfl
          obtain ⟨v, hv⟩ : ∃ v, othr (p, q) T.far = v := ⟨_, rfl⟩
          rw [hv] at hat ho hoe
          have hup := fun W => upTo_any W T.set v (by omega)
          have hun := fun W => union_any W s0 (upToN T.set v)
          obtain ⟨U, hU⟩ : ∃ U, upToN T.set v = U := ⟨_, rfl⟩
          simp only [hU] at hup hun hat
          obtain ⟨R, hR⟩ : ∃ R, s0 ||| U = R := ⟨_, rfl⟩
          rw [hR] at hat
          simp only [hR] at hun
          have HUP := Lib.hid hup
          have HUN := Lib.hid hun
          have HAT := Lib.hid hat
          clear hup hun hat hR hU hs0 hT hj hii hrow
          by_cases hfp : T.far = p
          · rw [if_pos hfp] at hoe
            rw [hfp] at d3
            subst hoe
            clear hv hfp
            go_wp2
            obtain ⟨e1, e2⟩ := tnSet hx2
            obtain ⟨e3, e4⟩ := tnFree hx2
            first
              | go_region_with (first
                  | (go_simp
                     go_at_call 98
                     refine (HUP.out _).mono ?_
                     rintro e w5 ⟨rfl, hb5⟩
                     replace hx1 := rowBelow hx1.drew hb5
                     replace hx2 := rowBelow hx2.drew hb5
                     replace hbl := Cs.Below.trans' (belowDrewN hbl 1) hb5 hbl.size
                     obtain ⟨e1, e2⟩ := tnSet hx2
                     obtain ⟨e3, e4⟩ := tnFree hx2)
                  | (go_simp
                     go_at_call 42
                     refine (HUN.out _).mono ?_
                     rintro e w6 ⟨rfl, hb6⟩
                     replace hx1 := rowBelow hx1 hb6
                     replace hx2 := rowBelow hx2 hb6
                     replace hbl := Cs.Below.trans' hbl hb6 hbl.size
                     obtain ⟨e1, e2⟩ := tnSet hx2
                     obtain ⟨e3, e4⟩ := tnFree hx2))
              | fail
            all_goals
              try go_wp2
              go_roundw
              case rel => exact ⟨k + 1, by omega, by go_num, (hx1.setOther (by simp) _).setOther (by simp) _, by rw [HAT.out]; exact tnPut hx2 R, (hbl.setCell (by simp) _).setCell (by simp) _⟩
              case measure => simp [intOf]; omega
          · rw [if_neg hfp] at hoe
            subst hoe
            have hfi : ¬ ((T.far : Int) = (v : Int)) := by omega
            clear hv hfp
            go_wp2
            obtain ⟨e1, e2⟩ := tnSet hx2
            obtain ⟨e3, e4⟩ := tnFree hx2
            first
              | go_region_with (first
                  | (go_simp
                     go_at_call 98
                     refine (HUP.out _).mono ?_
                     rintro e w5 ⟨rfl, hb5⟩
                     replace hx1 := rowBelow hx1.drew hb5
                     replace hx2 := rowBelow hx2.drew hb5
                     replace hbl := Cs.Below.trans' (belowDrewN hbl 1) hb5 hbl.size
                     obtain ⟨e1, e2⟩ := tnSet hx2
                     obtain ⟨e3, e4⟩ := tnFree hx2)
                  | (go_simp
                     go_at_call 42
                     refine (HUN.out _).mono ?_
                     rintro e w6 ⟨rfl, hb6⟩
                     replace hx1 := rowBelow hx1 hb6
                     replace hx2 := rowBelow hx2 hb6
                     replace hbl := Cs.Below.trans' hbl hb6 hbl.size
                     obtain ⟨e1, e2⟩ := tnSet hx2
                     obtain ⟨e3, e4⟩ := tnFree hx2))
              | fail
            all_goals
              try go_wp2
              go_roundw
              case rel => exact ⟨k + 1, by omega, by go_num, (hx1.setOther (by simp) _).setOther (by simp) _, by rw [HAT.out]; exact tnPut hx2 R, (hbl.setCell (by simp) _).setCell (by simp) _⟩
              case measure => simp [intOf]; omega
        · obtain rfl : k = ins.length := by omega
          rw [List.take_length] at hx2
          obtain ⟨d1, d2, d3⟩ := tnCells hx2
          have g1 : wr.cell? ⟨w.heap.size, 0, none⟩ = some (.int .u64 0) := hx1.cell (i := 0) (by omega)
          have g2 : wr.cell? ⟨w.heap.size, 1, none⟩ = some (.int .u64 0) := hx1.cell (i := 1) (by omega)
          have g3 : wr.cell? ⟨w.heap.size, 2, none⟩ = some (.int .i64 0) := hx1.cell (i := 2) (by omega)
          have f1 := hx1.frozen 0
          have f2 := hx1.frozen 1
          have f3 := hx1.frozen 2
          have hT := HALL2.out
          clear HALL2
          obtain ⟨S, hS⟩ : ∃ S, accN L (p, q) ins = S := ⟨_, rfl⟩
          rw [hS] at hT d1 d2
          subst hT
          clear hlt hS hx2
          go_wp2
          exact ret_turn rfl ⟨S, p⟩ rfl (tnAllPut hx1 ⟨S, p⟩) rfl ⟨rfl, ((hbl.setCell (Nat.le_refl _) _).setCell (Nat.le_refl _) _).setCell (Nat.le_refl _) _⟩
end Go.Proofs.YtemgfhdgpkmmaaaDoor
