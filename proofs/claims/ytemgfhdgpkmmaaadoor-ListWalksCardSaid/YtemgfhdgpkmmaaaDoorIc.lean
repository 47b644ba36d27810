/- The walks of the references' Models, Less, Error, Seek; the laws' light. What Seek finds, as a search through the list of models; the walk of the reference's Seek. -/
import Derived.Test.YtemgfhdgpkmmaaaDoorIb
import Derived.Test.YtemgfhdgpkmmaaaDoorG2
import Derived.Laws.AppendOwn
import Derived.Test.YtemgfhdgpkmmaaaDoorGa
import Derived.Test.YtemgfhdgpkmmaaaDoorLC
/-! The walks of the references' Models, Less, Error, Seek; the laws' light. -/
section
set_option linter.unusedSimpArgs false
set_option linter.unusedVariables false
open Go Go.RowKit Cs
namespace Cs
/-- The cells of sets, one behind the other. -/
def flat : List Nat → List Value
  | [] => []
  | s :: L => .int .u64 (lo s : Int) :: .int .u64 (hi s : Int) :: flat L
theorem flat_snoc (s : Nat) : ∀ L : List Nat, flat (L ++ [s]) = flat L ++ [.int .u64 (lo s : Int), .int .u64 (hi s : Int)]
  | [] => rfl
  | x :: L => by simp only [List.cons_append, flat, flat_snoc s L]
theorem flat_len : ∀ L : List Nat, (flat L).length = L.length * 2
  | [] => rfl
  | x :: L => by simp only [flat, List.length_cons, flat_len L]; omega
theorem flat_get : ∀ (L : List Nat) (i : Nat), i < L.length * 2 → (flat L)[i]? = some (setsF L i)
  | [], i, h => by simp at h
  | s :: L, 0, _ => by simp [flat, setsF]
  | s :: L, 1, _ => by simp [flat, setsF]
  | s :: L, i + 2, h => by
    have h2 := flat_get L i (by simp at h; omega)
    simp only [flat, List.getElem?_cons_succ]
    rw [h2]
    unfold setsF
    rw [show (i + 2) % 2 = i % 2 by omega, show (i + 2) / 2 = i / 2 + 1 by omega, List.getD_cons_succ]
/-- The models among the first m assignments of n variables, in order. -/
def mdl (N : Nt) (n m : Nat) : List Nat := ((List.range m).filter fun k => evB N (asg k n)).map fun k => asg k n
theorem mdl_succ (N : Nt) (n m : Nat) : mdl N n (m + 1) = if evB N (asg m n) then mdl N n m ++ [asg m n] else mdl N n m := by
  unfold mdl
  rw [List.range_succ, List.filter_append, List.map_append]
  cases h : evB N (asg m n)
  · simp [h]
  · simp [h]
theorem mdl_len (N : Nt) (n m : Nat) : (mdl N n m).length ≤ m := by
  unfold mdl
  rw [List.length_map]
  have := List.length_filter_le (fun k => evB N (asg k n)) (List.range m)
  simpa using this
end Cs
namespace Go.Proofs.YtemgfhdgpkmmaaaDoor
theorem twoInt {a b : Int} (u : Value) (h : u ∈ [Value.int .u64 a, Value.int .u64 b]) : u.oneCell' = true := by
  simp at h; rcases h with rfl | rfl <;> rfl
theorem newTwo {w : World} {a b : Value} {t : TypeId} (j : Nat) (u : Value) (h : ([a, b] : List Value)[j]? = some u) : (w.alloc (.cells #[a, b] t)).cell? ((⟨w.heap.size, 0, none⟩ : Addr).add j) = some u := by
  have hr := pairNew w a b t _ rfl
  match j, h with
  | 0, h => simp at h; subst h; exact hr.cell (i := 0) (by decide)
  | 1, h => simp at h; subst h; exact hr.cell (i := 1) (by decide)
set_option maxRecDepth 100000 in
set_option maxHeartbeats 2000000 in
theorem models21_own (w : World) (N : Nt) (A : Option Addr) (c n : Nat) (hn : N.n = (n : Int)) (hn12 : n ≤ 12) (hN : NtAt w w.heap.size A N.l) (hv : vld N = true) :
    Calls Tryd.prog 30 #[ntV N A c] w fun e w' => ∃ B cb, e = .returned (.slice B (mdl N n (2 ^ n)).length cb) ∧ Rd w' w'.heap.size B ((mdl N n (2 ^ n)).length * 2) (setsF (mdl N n (2 ^ n))) ∧ (0 < (mdl N n (2 ^ n)).length → ∃ gr, B = some ⟨gr, 0, none⟩ ∧ w.heap.size ≤ gr) ∧ Below w.heap.size w w' := by
  obtain ⟨hn0, hn1, hl0, hl1⟩ := vld_bounds hv
  obtain ⟨M, hM⟩ : ∃ M, 2 ^ n = M := ⟨_, rfl⟩
  have hM1 : 1 ≤ M := by rw [← hM]; exact Nat.one_le_two_pow
  have hM2 : M ≤ 4096 := by rw [← hM]; exact Nat.le_trans (Nat.pow_le_pow_right (by decide) hn12) (by decide)
  have hev := fun W hb k => eval21_any W N A c (asg k n) ((hN.below (w' := W) hb).more hb.size) hv
  have has := fun (W : World) (k : Nat) (hk : k < M) => assign5_any W k n (by omega) (by omega)
  have hbl : Below w.heap.size w (w.alloc (.cells #[.int .i64 N.n, .slice A N.l.length c] 24)) := (Below.refl _ _).alloc (Nat.le_refl _) _
  have hbx := ntNew w N A c 24 _ rfl
  have hMi : IntKind.i64.wrap ((2 : Int) ^ n) = (M : Int) := by
    rw [← hM, Int.natCast_pow]; exact IntWalk.i64_in _ (by rw [show ((2 : Int) ^ n) = ((2 ^ n : Nat) : Int) by simp, hM]; omega)
  have hMi2 : IntKind.i64.wrap (1 * (2 : Int) ^ n) = (M : Int) := by rw [Int.one_mul]; exact hMi
  obtain ⟨ti, hti, ht0, ht1, ht2⟩ := info_parts info_set
  have hsu := mdl_succ N n
  have hml := mdl_len N n
  simp only [ntV, hn] at hev
  rw [hn] at hbl hbx
  rw [hM]
  have HEV := Lib.hid hev
  have HAS := Lib.hid has
  have HMI := Lib.hid hMi
  have HSU := Lib.hid hsu
  have HML := Lib.hid hml
  clear hev has hMi hMi2 hsu hml hM hv
  simp only [ntV, hn]
  go_enter Tryd.func30, Tryd.ntmps30
  go_wp2_with fail
  go_loopw [3, 4] (fun out t wr => ∃ k : Nat, k ≤ M ∧ t = .int .i64 (k : Int) ∧ wr.ownsRow (w.heap.size + 1) 27 2 out (mdl N n k).length (flat (mdl N n k)) ∧ wr.rowIs w.heap.size 24 2 (ntF N A c) ∧ Below w.heap.size w wr) (fun _ t _ => M - (intOf t).toNat)
  case atStart => exact ⟨0, by omega, rfl, World.ownsRow_nil _ _ _ _, by simpa [ntF, hn] using hbx, hbl⟩
  case round =>
    clear hbx hbl
    obtain ⟨k, hk, rfl, hown, hbx, hbl⟩ := hrel
    obtain ⟨c1, c2⟩ := ntCells hbx
    rw [hn] at c1
    have hmi := HMI.out
    have hsu := HSU.out k
    have hml := HML.out k
    have hbs := hbl.size
    have hxl := hbx.lt
    by_cases hlt : k < M
    · have hc : decide ((k : Int) < (M : Int)) = true := decide_eq_true (by omega)
      have hak := HAS.out
      have HAK := Lib.hid (fun W => hak W k hlt)
      have HEK := Lib.hid (fun W hb => HEV.out W hb k)
      obtain ⟨B, hB⟩ : ∃ B, evB N (asg k n) = B := ⟨_, rfl⟩
      rw [hB] at HEK hsu
      obtain ⟨L, hL⟩ : ∃ L, mdl N n k = L := ⟨_, rfl⟩
      rw [hL] at hown hsu hml
      have HS := Lib.hid hsu
      clear hak hB hsu hL
      go_wp2_with fail
      clear hmi
      refine (HAK.out _).mono ?_
      rintro e w8 ⟨rfl, hb8⟩
      have hx8 := rowBelow hbx hb8
      have hw8 := Cs.Below.trans' hbl hb8 hbl.size
      have ho8 := ownsBelow hown hb8
      have hz8 := hx8.lt
      clear c1 c2
      obtain ⟨c1, c2⟩ := ntCells hx8
      rw [hn] at c1
      go_wp2_with fail
      refine (HEK.out _ (hw8.alloc hw8.size _)).mono ?_
      rintro e w9 ⟨rfl, hb9⟩
      have hx9 := rowBelow (hx8.alloc (.cells #[.int .u64 (lo (asg k n) : Int), .int .u64 (hi (asg k n) : Int)] 27)) hb9
      have hw9 := Cs.Below.trans' (hw8.alloc hw8.size (.cells #[.int .u64 (lo (asg k n) : Int), .int .u64 (hi (asg k n) : Int)] 27)) hb9 (hw8.alloc hw8.size _).size
      have ho9 := ownsBelow (ownsBelow ho8 ((Below.refl _ _).alloc (Nat.le_refl _) (.cells #[.int .u64 (lo (asg k n) : Int), .int .u64 (hi (asg k n) : Int)] 27))) hb9
      have hs9 := rowBelow (setNew w8 (asg k n) 27 w8.heap.size rfl) hb9
      clear c1 c2 hx8 hw8 ho8 hown hbx hbl hz8 hbs hxl
      cases B
      · go_wp2
        go_roundw
        case rel =>
          have h := HS.out
          rw [if_neg (by decide)] at h
          exact ⟨k + 1, by omega, by go_num, by rw [h]; exact ho9, hx9, hw9⟩
        case measure => simp [intOf]; omega
      · obtain ⟨s1, s2, _, _⟩ := setCells hs9
        have hz9 := hs9.lt
        have hlt0 : ∀ k, u3.ownBlock = some k → w.heap.size + 1 ≤ k := fun k hk => (ho9.lt k hk).1
        have hnb : u3.ownBlock ≠ some w.heap.size := fun e => by have := hlt0 _ e; omega
        have hsz9 := hw9.size
        have hx9l := hx9.lt
        go_wp2_with (at_builtin; refine wpList_append_own _ rfl _ _ 54 rfl (w.heap.size + 1) 27 ti (.agg #[.int .u64 0, .int .u64 0]) 2 16 Tryd.underlying54 hti ht0 ht1 ht2 rfl (by decide) _ _ _ rfl (ho9.alloc _) ⟨w9.heap.size, 0, none⟩ 1 1 [.int .u64 (lo (asg k n) : Int), .int .u64 (hi (asg k n) : Int)] rfl rfl newTwo twoInt (by unfold maxLen; omega) (by omega) (by simp; omega) ?_; intro v' w3 hown3 hgr3 _)
        have hbl3 := (hw9.alloc hw9.size _).grown hgr3 (by simp; omega) (fun k e => by have := hlt0 k e; omega)
        have hbox3 := rowGrown (hx9.alloc _) hgr3 (fun e => hnb e.symm)
        rw [← flat_snoc] at hown3
        go_wp2
        go_roundw
        case rel =>
          have h := HS.out.trans (if_pos (by first | rfl | trivial))
          exact ⟨k + 1, by omega, by go_num, by rw [h, List.length_append]; exact hown3, hbox3, hbl3⟩
        case measure => simp [intOf]; omega
    · obtain rfl : k = M := by omega
      have hc : decide ((k : Int) < (k : Int)) = false := decide_eq_false (by omega)
      have hfin : ∃ B cb, u3 = .slice B (mdl N n k).length cb ∧ Rd wr wr.heap.size B ((mdl N n k).length * 2) (setsF (mdl N n k)) ∧ (0 < (mdl N n k).length → ∃ gr, B = some ⟨gr, 0, none⟩ ∧ w.heap.size ≤ gr) := by
        rcases Nat.eq_zero_or_pos (mdl N n k).length with h0 | h0
        · rcases hown.2 with ⟨e, _⟩ | ⟨g, cap, cur, e, _⟩
          · exact ⟨none, 0, by rw [e, h0], fun h => absurd h (by omega), fun h => absurd h (by omega)⟩
          · exact ⟨_, _, e, fun h => absurd h (by omega), fun h => absurd h (by omega)⟩
        · obtain ⟨gr, cr, rfl, hgr1, hgr2⟩ := ownsForm hown h0
          exact ⟨_, _, rfl, fun _ => ⟨gr, 0, rfl, hgr2, fun i hi => by rw [Nat.zero_add, hown.cellAt i hi, flat_get _ i (by omega)]⟩, fun _ => ⟨gr, rfl, by omega⟩⟩
      obtain ⟨B, cb, rfl, hrd, hfr⟩ := hfin
      clear hown hsu hml
      go_wp2
      go_ret
      exact ⟨B, cb, rfl, hrd, hfr, hbl⟩
theorem models21_any (w : World) (N : Nt) (A : Option Addr) (c n : Nat) (hn : N.n = (n : Int)) (hn12 : n ≤ 12) (hN : NtAt w w.heap.size A N.l) (hv : vld N = true) :
    Calls Tryd.prog 30 #[ntV N A c] w fun e w' => ∃ B cb, e = .returned (.slice B (mdl N n (2 ^ n)).length cb) ∧ Rd w' w'.heap.size B ((mdl N n (2 ^ n)).length * 2) (setsF (mdl N n (2 ^ n))) ∧ Below w.heap.size w w' :=
  (models21_own w N A c n hn hn12 hN hv).mono fun _ _ ⟨B, cb, h1, h2, _, h3⟩ => ⟨B, cb, h1, h2, h3⟩
theorem lessB_of {a b i : Nat} (hi : i < 128) (h : ∀ j, j < i → a.testBit j = b.testBit j) (hne : a.testBit i ≠ b.testBit i) : lessB a b = b.testBit i := by
  unfold lessB
  cases h2 : b.testBit i
  · have h1 : a.testBit i = true := by rw [h2] at hne; simpa using hne
    have := key_first hi (fun j hj => (h j hj).symm) h2 h1
    exact decide_eq_false (by omega)
  · have h1 : a.testBit i = false := by rw [h2] at hne; simpa using hne
    exact decide_eq_true (key_first hi h h1 h2)
theorem lessB_same {a b : Nat} (ha : IsSet a) (hb : IsSet b) (h : ∀ j, j < 128 → a.testBit j = b.testBit j) : lessB a b = false := by
  have : a = b := set_ext a b ha hb h
  subst this
  unfold lessB
  exact decide_eq_false (by omega)
set_option maxRecDepth 100000 in
set_option maxHeartbeats 1000000 in
theorem less37_any (w : World) (a b : Nat) (ha : IsSet a) (hb : IsSet b) : Calls Tryd.prog 39 #[setV a, setV b] w fun e w' => e = .returned (.bool (lessB a b)) ∧ Below w.heap.size w w' := by
  have hq0 := (((Bag.start (Below.refl _ w)).new #[.int .u64 (lo a : Int), .int .u64 (hi a : Int)] 27 w.heap.size 2 rfl rfl).new #[.int .u64 (lo b : Int), .int .u64 (hi b : Int)] 27 (w.heap.size + 1) 2 (by simp) rfl)
  have hT := fun i (hi : i < 128) h hne => lessB_of (a := a) (b := b) hi h hne
  have hF := fun h => lessB_same ha hb h
  obtain ⟨B, hB⟩ : ∃ B, lessB a b = B := ⟨_, rfl⟩
  simp only [hB] at hT hF
  rw [hB]
  have HT := Lib.hid hT
  have HF := Lib.hid hF
  clear hT hF hB ha hb
  go_enter Tryd.func39, Tryd.ntmps39
  go_wp2
  go_loopw [5] (fun t wr => ∃ k : Nat, k ≤ 128 ∧ t = .int .i64 ((k : Int) + 1) ∧ Hid (∀ i, i < k → a.testBit i = b.testBit i) ∧ Bag w w w.heap.size [(w.heap.size + 1, 27, 2, #[.int .u64 (lo b : Int), .int .u64 (hi b : Int)]), (w.heap.size, 27, 2, #[.int .u64 (lo a : Int), .int .u64 (hi a : Int)])] wr) (fun t _ => 129 - (intOf t).toNat)
  case atStart => exact ⟨0, by omega, rfl, fun i h => absurd h (by omega), hq0⟩
  case round =>
    clear hq0
    obtain ⟨k, hk, rfl, HK, q⟩ := hrel
    by_cases hlt : k < 128
    · have ha := fun W => has5_any W a ((k : Int) + 1)
      have hb := fun W => has5_any W b ((k : Int) + 1)
      simp only [has_nat a k hlt] at ha
      simp only [has_nat b k hlt] at hb
      have ht := HT.out k hlt HK.out
      obtain ⟨x, hx⟩ : ∃ x, a.testBit k = x := ⟨_, rfl⟩
      obtain ⟨y, hy⟩ : ∃ y, b.testBit k = y := ⟨_, rfl⟩
      rw [hx, hy] at ht
      simp only [hx] at ha
      simp only [hy] at hb
      have HA := Lib.hid ha
      have HB := Lib.hid hb
      have HTT := Lib.hid ht
      have HXY := Lib.hid (show a.testBit k = x ∧ b.testBit k = y from ⟨hx, hy⟩)
      clear ha hb ht hx hy
      go_wp2_with fail
      replace q := q.drew
      have a1 := q.tail.is0 0 (by decide) (.int .u64 (lo a : Int)) rfl
      have a2 := q.tail.is0 1 (by decide) (.int .u64 (hi a : Int)) rfl
      have b1 := q.is0 0 (by decide) (.int .u64 (lo b : Int)) rfl
      have b2 := q.is0 1 (by decide) (.int .u64 (hi b : Int)) rfl
      cases x <;> cases y
      all_goals
        go_region_held3 (fun w' => w'.cell? ⟨w.heap.size, 0, none⟩ = some (.int .u64 (lo a : Int)) ∧ w'.cell? ⟨w.heap.size, 1, none⟩ = some (.int .u64 (hi a : Int)) ∧ w'.cell? ⟨w.heap.size + 1, 0, none⟩ = some (.int .u64 (lo b : Int)) ∧ w'.cell? ⟨w.heap.size + 1, 1, none⟩ = some (.int .u64 (hi b : Int)))
          (first | exact ⟨a1, a2, b1, b2⟩ | go_keep)
          (first
            | (go_simp
               go_at_call 73
               (with_reducible first | refine (HA.out _).mono ?_ | refine (HB.out _).mono ?_)
               rintro e w9 ⟨rfl, hb9⟩
               replace q := q.below hb9
               have a1 := q.tail.is0 0 (by decide) (.int .u64 (lo a : Int)) rfl
               have a2 := q.tail.is0 1 (by decide) (.int .u64 (hi a : Int)) rfl
               have b1 := q.is0 0 (by decide) (.int .u64 (lo b : Int)) rfl
               have b2 := q.is0 1 (by decide) (.int .u64 (hi b : Int)) rfl))
        all_goals
          try go_wp2_with fail
          first
            | (go_roundw
               case rel =>
                 refine ⟨k + 1, by omega, by go_num, fun i hi => ?_, q⟩
                 rcases Nat.lt_or_ge i k with h | h
                 · exact HK.out i h
                 · obtain rfl : i = k := by omega
                   rw [HXY.out.1, HXY.out.2]
               case measure => simp [intOf]; omega)
            | (have h := HTT.out (by decide)
               have H := Lib.hid h
               clear h
               refine (HB.out _).mono ?_
               rintro e w9 ⟨rfl, hb9⟩
               go_wp2
               go_ret
               exact ⟨by rw [H.out]; try rfl, (q.below hb9).bl⟩)
    · obtain rfl : k = 128 := by omega
      have h := HF.out HK.out
      have H := Lib.hid h
      clear h
      go_wp2
      go_ret
      exact ⟨by rw [H.out]; try rfl, q.bl⟩
theorem ref_err_any (w : World) (N : Nt) (A : Option Addr) (c a : Nat) (hlen : N.l.length ≤ 140737488355328) (hN : NtAt w w.heap.size A N.l) (ha : IsSet a) :
    Calls Tryd.prog 29 #[ntV N A c, setV a] w fun e w' => e = .returned (.int .i64 (lerr N a)) ∧ Below w.heap.size w w' := by
  have hq0 := (((Bag.start (Below.refl _ w)).new #[.int .i64 N.n, .slice A N.l.length c] 24 w.heap.size 2 rfl rfl).new #[.int .u64 (lo a : Int), .int .u64 (hi a : Int)] 27 (w.heap.size + 1) 2 (by simp) rfl)
  have hnt : ∀ W, Below w.heap.size w W → NtAt W W.heap.size A N.l := fun W hb => (hN.below hb).more hb.size
  have hvl := fun W hb => valid21_any W N A c hlen (hnt W hb)
  have hde := fun W hb => decomp21_any W N A c hlen (hnt W hb)
  have hle : lerr N a = if vld N && decide (minus a (allTo N.n) = 0) then (if dcmp N then 0 else 210) else 1 := rfl
  cases hv : vld N
  · rw [hv] at hvl hle
    simp only [Bool.false_and, Bool.false_eq_true, if_false] at hle
    rw [hle]
    have HVL := Lib.hid hvl
    clear hvl hde hle hv hnt hN
    go_enter Tryd.func29, Tryd.ntmps29
    go_wp2_with fail
    refine (HVL.out _ hq0.bl).mono ?_
    rintro e w5 ⟨rfl, hb5⟩
    go_wp2
    go_ret
    exact ⟨rfl, (hq0.below hb5).bl⟩
  · obtain ⟨h0, h1, _, _⟩ := vld_bounds hv
    obtain ⟨m, hm⟩ : ∃ m : Nat, N.n = (m : Int) := ⟨N.n.toNat, by omega⟩
    have has := fun W => assignment5_any W a m ha (by omega)
    rw [hv] at hvl hle hde
    rw [hm] at hle
    obtain ⟨D, hD⟩ : ∃ D, decide (minus a (allTo (m : Int)) = 0) = D := ⟨_, rfl⟩
    obtain ⟨E, hE⟩ : ∃ E, lerr N a = E := ⟨_, rfl⟩
    rw [hE] at hle ⊢
    simp only [hD, Bool.true_and] at has hle
    have hm128 : m ≤ 128 := by omega
    simp only [ntV, hm] at hvl hde
    rw [hm] at hq0
    simp only [ntV, hm]
    have HVL := Lib.hid hvl
    have HAS := Lib.hid has
    cases D
    · simp only [Bool.false_eq_true, if_false] at hle
      subst hle
      clear hvl hde has hv hnt hN hD hE h0 h1
      go_enter Tryd.func29, Tryd.ntmps29
      go_wp2_with fail
      refine (HVL.out _ hq0.bl).mono ?_
      rintro e w5 ⟨rfl, hb5⟩
      have q5 := hq0.below hb5
      have c1 := q5.tail.is0 0 (by decide) (.int .i64 (m : Int)) rfl
      have s1 := q5.is0 0 (by decide) (.int .u64 (lo a : Int)) rfl
      have s2 := q5.is0 1 (by decide) (.int .u64 (hi a : Int)) rfl
      go_wp2_with fail
      refine (HAS.out _).mono ?_
      rintro e w6 ⟨rfl, hb6⟩
      go_wp2
      go_ret
      exact ⟨rfl, (q5.below hb6).bl⟩
    · simp only [if_true, Bool.true_and] at hle hde
      cases hd : dcmp N
      all_goals
        rw [hd] at hle hde
        simp only [Bool.false_eq_true, if_false, if_true] at hle
        subst hle
        have HDE := Lib.hid hde
        clear hvl hde has hv hnt hN hD hE h0 h1 hd
        go_enter Tryd.func29, Tryd.ntmps29
        go_wp2_with fail
        refine (HVL.out _ hq0.bl).mono ?_
        rintro e w5 ⟨rfl, hb5⟩
        have q5 := hq0.below hb5
        have c1 := q5.tail.is0 0 (by decide) (.int .i64 (m : Int)) rfl
        have s1 := q5.is0 0 (by decide) (.int .u64 (lo a : Int)) rfl
        have s2 := q5.is0 1 (by decide) (.int .u64 (hi a : Int)) rfl
        go_wp2_with fail
        refine (HAS.out _).mono ?_
        rintro e w6 ⟨rfl, hb6⟩
        have q6 := q5.below hb6
        clear c1 s1 s2
        have c1 := q6.tail.is0 0 (by decide) (.int .i64 (m : Int)) rfl
        have c2 := q6.tail.is0 1 (by decide) (.slice A N.l.length c) rfl
        go_wp2_with fail
        refine (HDE.out _ q6.bl).mono ?_
        rintro e w7 ⟨rfl, hb7⟩
        go_wp2
        go_ret
        exact ⟨rfl, (q6.below hb7).bl⟩
end Go.Proofs.YtemgfhdgpkmmaaaDoor
end
/-! What Seek finds, as a search through the list of models; the walk of the reference's Seek. -/
section
set_option linter.unusedSimpArgs false
set_option linter.unusedVariables false
open Go Go.RowKit Cs
namespace Cs
/-- The places of the models. -/
def plc (N : Nt) (n m : Nat) : List Nat := (List.range m).filter fun k => evB N (asg k n)
theorem mdl_plc (N : Nt) (n m : Nat) : mdl N n m = (plc N n m).map fun k => asg k n := rfl
theorem plc_mem {N : Nt} {n m k : Nat} : k ∈ plc N n m ↔ k < m ∧ evB N (asg k n) = true := by unfold plc; simp
theorem plc_sorted (N : Nt) (n m : Nat) : (plc N n m).Pairwise (· < ·) := List.Pairwise.filter _ List.pairwise_lt_range
theorem mdl_getD {N : Nt} {n m j : Nat} (hj : j < (mdl N n m).length) : ∃ k, (mdl N n m).getD j 0 = asg k n ∧ k < m ∧ evB N (asg k n) = true := by
  have hj2 : j < (plc N n m).length := by rw [mdl_plc, List.length_map] at hj; exact hj
  refine ⟨(plc N n m)[j], ?_, plc_mem.1 (List.getElem_mem hj2)⟩
  rw [List.getD_eq_getElem?_getD, List.getElem?_eq_getElem hj]
  simp [mdl_plc]
section
variable {N : Nt} (hv : vld N = true) (hd : dcmp N = true) (n : Nat) (hn : N.n = (n : Int))
include hv hn
theorem mdl_at {s : Nat} (hs : In N.n s) (he : evB N s = true) : ∃ j, j < (mdl N n (2 ^ n)).length ∧ (mdl N n (2 ^ n)).getD j 0 = s := by
  obtain ⟨h0, h1, _, _⟩ := vld_bounds hv
  rw [hn] at hs
  have e := asg_hor s n (by omega) hs.lt
  have hm : hor s n ∈ plc N n (2 ^ n) := plc_mem.2 ⟨hor_lt s n, by rw [e]; exact he⟩
  obtain ⟨j, hj, hjk⟩ := List.getElem_of_mem hm
  refine ⟨j, by rw [mdl_plc, List.length_map]; exact hj, ?_⟩
  rw [List.getD_eq_getElem?_getD, mdl_plc, List.getElem?_map, List.getElem?_eq_getElem hj, hjk]
  exact e
theorem mdl_lt {i j : Nat} (hij : i < j) (hj : j < (mdl N n (2 ^ n)).length) : key ((mdl N n (2 ^ n)).getD i 0) < key ((mdl N n (2 ^ n)).getD j 0) := by
  have hj2 : j < (plc N n (2 ^ n)).length := by rw [mdl_plc, List.length_map] at hj; exact hj
  have h1 : (plc N n (2 ^ n))[i] < (plc N n (2 ^ n))[j] := List.pairwise_iff_getElem.1 (plc_sorted N n (2 ^ n)) i j (by omega) hj2 hij
  have e : ∀ q (hq : q < (plc N n (2 ^ n)).length), (mdl N n (2 ^ n)).getD q 0 = asg ((plc N n (2 ^ n))[q]) n := fun q hq => by
    rw [List.getD_eq_getElem?_getD, mdl_plc, List.getElem?_map, List.getElem?_eq_getElem hq]; rfl
  rw [e i (by omega), e j hj2]
  exact (asg_key_lt hv n hn (plc_mem.1 (List.getElem_mem (by omega))).1 (plc_mem.1 (List.getElem_mem hj2)).1).2 h1
include hd
theorem seek_list_hit (a : Nat) (ha : In N.n a) (j : Nat) (hj : j < (mdl N n (2 ^ n)).length) (hlt : ∀ i, i < j → lessB ((mdl N n (2 ^ n)).getD i 0) a = true) (hge : lessB ((mdl N n (2 ^ n)).getD j 0) a = false) : seekN N a = ⟨(mdl N n (2 ^ n)).getD j 0, true⟩ := by
  obtain ⟨h0, h1, _, _⟩ := vld_bounds hv
  obtain ⟨s1, s2⟩ := seek_spec hv hd a ha
  obtain ⟨k, hk1, hk2, hk3⟩ := mdl_getD hj
  have hin : In N.n ((mdl N n (2 ^ n)).getD j 0) := by rw [hk1, hn]; exact In.of_lt (asg_lt k n)
  have hev : evB N ((mdl N n (2 ^ n)).getD j 0) = true := by rw [hk1]; exact hk3
  have hge2 : key a ≤ key ((mdl N n (2 ^ n)).getD j 0) := by
    unfold lessB at hge
    have := of_decide_eq_false hge
    omega
  cases ho : (seekN N a).ok
  · have := (s2 ho).2 _ hin hev
    omega
  · obtain ⟨e1, e2, e3, e4⟩ := s1 ho
    have h5 := e4 _ hin hev hge2
    obtain ⟨q, hq1, hq2⟩ := mdl_at hv n hn e2 e1
    have hqj : j ≤ q := by
      rcases Nat.lt_or_ge q j with h | h
      · have := hlt q h
        unfold lessB at this
        have := of_decide_eq_true this
        rw [hq2] at this
        omega
      · exact h
    have hset : (seekN N a).set = (mdl N n (2 ^ n)).getD j 0 := by
      rcases Nat.lt_or_ge j q with h | h
      · have := mdl_lt hv n hn h hq1
        rw [hq2] at this
        omega
      · obtain rfl : q = j := by omega
        exact hq2.symm
    show _ = Pt.mk _ true
    rw [← hset, ← ho]
theorem seek_list_none (a : Nat) (ha : In N.n a) (hlt : ∀ i, i < (mdl N n (2 ^ n)).length → lessB ((mdl N n (2 ^ n)).getD i 0) a = true) : seekN N a = ⟨0, false⟩ := by
  obtain ⟨s1, s2⟩ := seek_spec hv hd a ha
  cases ho : (seekN N a).ok
  · exact Pt.none_of (s2 ho).1 ho
  · obtain ⟨e1, e2, e3, e4⟩ := s1 ho
    obtain ⟨q, hq1, hq2⟩ := mdl_at hv n hn e2 e1
    have := hlt q hq1
    unfold lessB at this
    have := of_decide_eq_true this
    rw [hq2] at this
    omega
end
theorem lerr_in {N : Nt} {a : Nat} (h : decide (minus a (allTo N.n) = 0) = true) : In N.n a := fun i hi => by
  have h1 := congrArg (fun x => x.testBit i) (of_decide_eq_true h)
  simp only [minus_bit, Nat.zero_testBit, hi, Bool.true_and] at h1
  have h2 : (allTo N.n).testBit i = true := by simpa using h1
  exact (allTo_lt h2).2
end Cs
namespace Go.Proofs.YtemgfhdgpkmmaaaDoor
set_option maxRecDepth 100000 in
set_option maxHeartbeats 2000000 in
theorem ref_seek_any (w : World) (N : Nt) (A : Option Addr) (c a : Nat) (hlen : N.l.length ≤ 140737488355328) (hN : NtAt w w.heap.size A N.l) (ha : IsSet a) (hn12 : vld N = true → N.n ≤ 12) :
    Calls Tryd.prog 15 #[ntV N A c, setV a] w fun e w' => e = .returned (skR N a) ∧ Below w.heap.size w w' := by
  have hq0 := (((Bag.start (Below.refl _ w)).new #[.int .i64 N.n, .slice A N.l.length c] 24 w.heap.size 2 rfl rfl).new #[.int .u64 (lo a : Int), .int .u64 (hi a : Int)] 27 (w.heap.size + 1) 2 (by simp) rfl).new #[.int .u64 0, .int .u64 0] 27 (w.heap.size + 1 + 1) 2 (by simp) rfl
  have hnt : ∀ W, Below w.heap.size w W → NtAt W W.heap.size A N.l := fun W hb => (hN.below hb).more hb.size
  have her := fun W hb => ref_err_any W N A c a hlen (hnt W hb) ha
  by_cases he : lerr N a = 0
  · obtain ⟨hv, hin, hd⟩ := lerr_zero he
    obtain ⟨h0, h1, hl0, hl1⟩ := vld_bounds hv
    obtain ⟨n, hn⟩ : ∃ n : Nat, N.n = (n : Int) := ⟨N.n.toNat, by omega⟩
    have hn12' : n ≤ 12 := by have := hn12 hv; omega
    have hsk : skR N a = .tuple #[setV (seekN N a).set, .bool (seekN N a).ok, .int .i64 0] := by unfold skR; rw [if_pos he]; rfl
    have hit := fun j hj hlt hge => seek_list_hit hv hd n hn a (lerr_in hin) j hj hlt hge
    have hno := fun h => seek_list_none hv hd n hn a (lerr_in hin) h
    have hmo := fun W hb => models21_any W N A c n hn hn12' (hnt W hb) hv
    have hml : (mdl N n (2 ^ n)).length ≤ 4096 := Nat.le_trans (mdl_len N n (2 ^ n)) (Nat.le_trans (Nat.pow_le_pow_right (by decide) hn12') (by decide))
    have hms : ∀ j, IsSet ((mdl N n (2 ^ n)).getD j 0) := fun j => by
      by_cases hj : j < (mdl N n (2 ^ n)).length
      · obtain ⟨k, hk1, _, _⟩ := mdl_getD hj
        rw [hk1]
        exact (In.of_lt (asg_lt k n)).isSet (by omega)
      · rw [List.getD_eq_getElem?_getD, List.getElem?_eq_none (by omega)]; exact isSet_zero
    obtain ⟨L, hL⟩ : ∃ L, mdl N n (2 ^ n) = L := ⟨_, rfl⟩
    simp only [hL] at hit hno hmo hml hms
    have hle := fun W j => less37_any W (L.getD j 0) a (hms j) ha
    rw [he] at her
    rw [hsk]
    obtain ⟨PS, hPS⟩ : ∃ PS, (seekN N a).set = PS := ⟨_, rfl⟩
    obtain ⟨PO, hPO⟩ : ∃ PO, (seekN N a).ok = PO := ⟨_, rfl⟩
    have hit2 : ∀ j, j < L.length → (∀ i, i < j → lessB (L.getD i 0) a = true) → lessB (L.getD j 0) a = false → PS = L.getD j 0 ∧ PO = true := fun j h1 h2 h3 => by
      rw [← hPS, ← hPO, hit j h1 h2 h3]; exact ⟨rfl, rfl⟩
    have hno2 : (∀ i, i < L.length → lessB (L.getD i 0) a = true) → PS = 0 ∧ PO = false := fun h => by
      rw [← hPS, ← hPO, hno h]; exact ⟨rfl, rfl⟩
    rw [hPS, hPO]
    have HER := Lib.hid her
    have HMO := Lib.hid hmo
    have HLE := Lib.hid hle
    have HIT := Lib.hid hit2
    have HNO := Lib.hid hno2
    clear her hmo hle hit2 hno2 hit hno hsk hPS hPO hL hms hnt hn12 he hv hin hd hn h0 h1
    go_enter Tryd.func15, Tryd.ntmps15
    have c1 := hq0.tail.tail.is0 0 (by decide) (.int .i64 N.n) rfl
    have c2 := hq0.tail.tail.is0 1 (by decide) (.slice A N.l.length c) rfl
    have s1 := hq0.tail.is0 0 (by decide) (.int .u64 (lo a : Int)) rfl
    have s2 := hq0.tail.is0 1 (by decide) (.int .u64 (hi a : Int)) rfl
    go_wp2_with fail
    refine (HER.out _ hq0.bl).mono ?_
    rintro e w5 ⟨rfl, hb5⟩
    have q5 := hq0.below hb5
    clear hq0 c1 c2 s1 s2
    have c1 := q5.tail.tail.is0 0 (by decide) (.int .i64 N.n) rfl
    have c2 := q5.tail.tail.is0 1 (by decide) (.slice A N.l.length c) rfl
    go_wp2_with fail
    refine (HMO.out _ q5.bl).mono ?_
    rintro e w6 ⟨B, cb, rfl, hrd, hb6⟩
    have q6 := (q5.below hb6).rebase
    clear q5 c1 c2
    go_wp2_with fail
    go_loopw [9] (fun t wr => ∃ j : Nat, j ≤ L.length ∧ t = .int .i64 (j : Int) ∧ Hid (∀ i, i < j → lessB (L.getD i 0) a = true) ∧ Bag w w6 w6.heap.size [(w.heap.size + 1 + 1, 27, 2, #[.int .u64 0, .int .u64 0]), (w.heap.size + 1, 27, 2, #[.int .u64 (lo a : Int), .int .u64 (hi a : Int)]), (w.heap.size, 24, 2, #[.int .i64 N.n, .slice A N.l.length c])] wr) (fun t _ => L.length - (intOf t).toNat)
    case atStart => exact ⟨0, by omega, rfl, fun i h => absurd h (by omega), q6⟩
    case round =>
      clear q6
      obtain ⟨j, hj, rfl, HJ, q⟩ := hrel
      by_cases hlt : j < L.length
      · have hji : (j : Int) < (L.length : Int) := by omega
        obtain ⟨bb, ob, rfl, hbB, hcs⟩ := hrd (by omega)
        have m1 := below_cell q.base hbB (hcs (j * 2) (by omega))
        have m2 := below_cell q.base hbB (hcs (j * 2 + 1) (by omega))
        have e1 : setsF L (j * 2) = .int .u64 (lo (L.getD j 0) : Int) := by unfold setsF; rw [if_pos (by omega), show j * 2 / 2 = j by omega]
        have e2 : setsF L (j * 2 + 1) = .int .u64 (hi (L.getD j 0) : Int) := by unfold setsF; rw [if_neg (by omega), show (j * 2 + 1) / 2 = j by omega]
        rw [e1] at m1
        rw [e2, ← Nat.add_assoc] at m2
        clear hcs e1 e2
        have hlj := HLE.out
        have HLJ := Lib.hid (fun W => hlj W j)
        have hit := HIT.out j hlt HJ.out
        obtain ⟨X, hX⟩ : ∃ X, L.getD j 0 = X := ⟨_, rfl⟩
        obtain ⟨Y, hY⟩ : ∃ Y, lessB (L.getD j 0) a = Y := ⟨_, rfl⟩
        rw [hY] at HLJ hit
        rw [hX] at m1 m2 HLJ hit
        have HYY := Lib.hid hY
        have HHT := Lib.hid hit
        clear hlj hit hX hY
        go_wp2_with fail
        have hDl := q.le
        replace q := q.drew
        have d1 : wr.drew.cell? ⟨bb, ob + j * 2, none⟩ = some (.int .u64 (lo X : Int)) := m1
        have d2 : wr.drew.cell? ⟨bb, ob + j * 2 + 1, none⟩ = some (.int .u64 (hi X : Int)) := m2
        clear m1 m2
        have hbl : bb < wr.drew.heap.size := Nat.lt_of_lt_of_le hbB hDl
        have s1 := q.tail.is0 0 (by decide) (.int .u64 (lo a : Int)) rfl
        have s2 := q.tail.is0 1 (by decide) (.int .u64 (hi a : Int)) rfl
        cases Y
        · obtain ⟨rfl, rfl⟩ := HHT.out rfl
          go_region_held3 (fun w' => w'.cell? ⟨bb, ob + j * 2, none⟩ = some (.int .u64 (lo PS : Int)) ∧ w'.cell? ⟨bb, ob + j * 2 + 1, none⟩ = some (.int .u64 (hi PS : Int)) ∧ w'.cell? ⟨w.heap.size + 1, 0, none⟩ = some (.int .u64 (lo a : Int)) ∧ w'.cell? ⟨w.heap.size + 1, 1, none⟩ = some (.int .u64 (hi a : Int)))
            (first | exact ⟨d1, d2, s1, s2⟩ | go_keep)
            (first
              | (go_simp
                 go_at_call 39
                 (with_reducible first | refine (HLJ.out _).mono ?_)
                 rintro e w9 ⟨rfl, hb9⟩
                 replace q := q.below hb9
                 have d1 := below_cell hb9 hbl d1
                 have d2 := below_cell hb9 hbl d2
                 have s1 := q.tail.is0 0 (by decide) (.int .u64 (lo a : Int)) rfl
                 have s2 := q.tail.is0 1 (by decide) (.int .u64 (hi a : Int)) rfl))
          all_goals
            have r1 := q.is0 0 (by decide) (.int .u64 0) rfl
            have r2 := q.is0 1 (by decide) (.int .u64 0) rfl
            have f1 := q.row0.frozen 0
            have f2 := q.row0.frozen 1
            try go_wp2
            exact ret_set3 rfl PS rfl rfl rfl (setPut q.row0 _) rfl rfl rfl ⟨rfl, (q.bl.setCell (by simp <;> omega) _).setCell (by simp <;> omega) _⟩
        · go_region_held3 (fun w' => w'.cell? ⟨bb, ob + j * 2, none⟩ = some (.int .u64 (lo X : Int)) ∧ w'.cell? ⟨bb, ob + j * 2 + 1, none⟩ = some (.int .u64 (hi X : Int)) ∧ w'.cell? ⟨w.heap.size + 1, 0, none⟩ = some (.int .u64 (lo a : Int)) ∧ w'.cell? ⟨w.heap.size + 1, 1, none⟩ = some (.int .u64 (hi a : Int)))
            (first | exact ⟨d1, d2, s1, s2⟩ | go_keep)
            (first
              | (go_simp
                 go_at_call 39
                 (with_reducible first | refine (HLJ.out _).mono ?_)
                 rintro e w9 ⟨rfl, hb9⟩
                 replace q := q.below hb9
                 have d1 := below_cell hb9 hbl d1
                 have d2 := below_cell hb9 hbl d2
                 have s1 := q.tail.is0 0 (by decide) (.int .u64 (lo a : Int)) rfl
                 have s2 := q.tail.is0 1 (by decide) (.int .u64 (hi a : Int)) rfl))
          all_goals
            try go_wp2
            go_roundw
            case rel =>
              refine ⟨j + 1, by omega, by go_num, fun i hi => ?_, q⟩
              rcases Nat.lt_or_ge i j with h | h
              · exact HJ.out i h
              · obtain rfl : i = j := by omega
                exact HYY.out
            case measure => simp [intOf]; omega
      · obtain rfl : j = L.length := by omega
        obtain ⟨rfl, rfl⟩ := HNO.out HJ.out
        have r1 := q.is0 0 (by decide) (.int .u64 0) rfl
        have r2 := q.is0 1 (by decide) (.int .u64 0) rfl
        have f1 := q.row0.frozen 0
        have f2 := q.row0.frozen 1
        go_wp2
        exact ret_set3 rfl 0 rfl rfl rfl (setPut q.row0 0) rfl rfl rfl ⟨rfl, (q.bl.setCell (by simp <;> omega) _).setCell (by simp <;> omega) _⟩
  · have hsk : skR N a = .tuple #[setV 0, .bool false, .int .i64 (lerr N a)] := by unfold skR; rw [if_neg he]; rfl
    obtain ⟨E, hE⟩ : ∃ E, lerr N a = E := ⟨_, rfl⟩
    simp only [hE] at her
    rw [hsk, hE]
    rw [hE] at he
    have hb : (E != 0) = true := bne_iff_ne.2 he
    have HER := Lib.hid her
    clear her hsk hE hnt hn12 hN he
    go_enter Tryd.func15, Tryd.ntmps15
    have s1 := hq0.tail.is0 0 (by decide) (.int .u64 (lo a : Int)) rfl
    have s2 := hq0.tail.is0 1 (by decide) (.int .u64 (hi a : Int)) rfl
    have c1 := hq0.tail.tail.is0 0 (by decide) (.int .i64 N.n) rfl
    have c2 := hq0.tail.tail.is0 1 (by decide) (.slice A N.l.length c) rfl
    go_wp2_with fail
    refine (HER.out _ hq0.bl).mono ?_
    rintro e w5 ⟨rfl, hb5⟩
    have q := hq0.below hb5
    have r1 := q.is0 0 (by decide) (.int .u64 0) rfl
    have r2 := q.is0 1 (by decide) (.int .u64 0) rfl
    have f1 := q.row0.frozen 0
    have f2 := q.row0.frozen 1
    clear s1 s2 c1 c2
    go_wp2
    exact ret_set3 rfl 0 rfl rfl rfl (setPut q.row0 0) rfl rfl rfl ⟨rfl, (q.bl.setCell (by simp <;> omega) _).setCell (by simp <;> omega) _⟩
end Go.Proofs.YtemgfhdgpkmmaaaDoor
namespace Cs
/-- Which nets chapter 37's laws look at. -/
def lightC (N : Nt) : Bool := lightB N 40 && (decide (N.n ≤ 7) || !vld N)
end Cs
namespace Go.Proofs.YtemgfhdgpkmmaaaDoor
theorem lightC_use {N : Nt} (h : lightC N = true) : slim N.l = true ∧ N.l.length ≤ 40 ∧ (vld N = true → N.n ≤ 7) := by
  unfold lightC lightB at h
  simp only [Bool.and_eq_true, Bool.or_eq_true, decide_eq_true_eq] at h
  refine ⟨h.1.1, h.1.2, fun hv => ?_⟩
  rcases h.2 with h | h
  · exact h
  · rw [hv] at h; cases h
set_option maxRecDepth 100000 in
set_option maxHeartbeats 1000000 in
theorem lightC_any (w : World) (N : Nt) (A : Option Addr) (c : Nat) (hlen : N.l.length ≤ 140737488355328) (hN : NtAt w w.heap.size A N.l) :
    Calls Tryd.prog 12 #[ntV N A c] w fun e w' => e = .returned (.bool (lightC N)) ∧ Below w.heap.size w w' := by
  have hq0 := ((Bag.start (Below.refl _ w)).new #[.int .i64 N.n, .slice A N.l.length c] 24 w.heap.size 2 rfl rfl)
  have hnt : ∀ W, Below w.heap.size w W → NtAt W W.heap.size A N.l := fun W hb => (hN.below hb).more hb.size
  have hli := fun W hb => light_any W N A c 40 hlen (hnt W hb) (by omega)
  have hvl := fun W hb => valid21_any W N A c hlen (hnt W hb)
  have hle : lightC N = (lightB N 40 && (decide (N.n ≤ 7) || !vld N)) := rfl
  obtain ⟨Z, hZ⟩ : ∃ Z, lightC N = Z := ⟨_, rfl⟩
  obtain ⟨X, hX⟩ : ∃ X, lightB N 40 = X := ⟨_, rfl⟩
  obtain ⟨Y, hY⟩ : ∃ Y, vld N = Y := ⟨_, rfl⟩
  rw [hZ, hX, hY] at hle
  rw [hZ]
  simp only [hX] at hli
  simp only [hY] at hvl
  have HLI := Lib.hid hli
  have HVL := Lib.hid hvl
  clear hli hvl hZ hX hY hnt hN
  cases X
  · simp only [Bool.false_and] at hle
    subst hle
    go_enter Tryd.func12, Tryd.ntmps12
    go_wp2_with fail
    refine (HLI.out _ hq0.bl).mono ?_
    rintro e w5 ⟨rfl, hb5⟩
    go_wp2
    go_ret
    exact ⟨rfl, (hq0.below hb5).bl⟩
  · simp only [Bool.true_and] at hle
    by_cases h7 : N.n ≤ 7
    · rw [decide_eq_true h7, Bool.true_or] at hle
      subst hle
      have hd : decide (N.n ≤ 7) = true := decide_eq_true h7
      go_enter Tryd.func12, Tryd.ntmps12
      go_wp2_with fail
      refine (HLI.out _ hq0.bl).mono ?_
      rintro e w5 ⟨rfl, hb5⟩
      have q5 := hq0.below hb5
      have c1 := q5.is0 0 (by decide) (.int .i64 N.n) rfl
      go_wp2
      go_ret
      exact ⟨rfl, q5.bl⟩
    · rw [decide_eq_false h7, Bool.false_or] at hle
      subst hle
      have hd : decide (N.n ≤ 7) = false := decide_eq_false h7
      go_enter Tryd.func12, Tryd.ntmps12
      go_wp2_with fail
      refine (HLI.out _ hq0.bl).mono ?_
      rintro e w5 ⟨rfl, hb5⟩
      have q5 := hq0.below hb5
      have c1 := q5.is0 0 (by decide) (.int .i64 N.n) rfl
      have c2 := q5.is0 1 (by decide) (.slice A N.l.length c) rfl
      go_wp2_with fail
      refine (HVL.out _ q5.bl).mono ?_
      rintro e w6 ⟨rfl, hb6⟩
      go_wp2
      go_ret
      exact ⟨rfl, (q5.below hb6).bl⟩
end Go.Proofs.YtemgfhdgpkmmaaaDoor
end
