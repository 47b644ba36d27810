/- ByCard's closures, as slices that are read. Polynomials: plus, times and the closure that weighs more variables. How long the polynomials are. What lies in memory while count.sum over polynomials runs. -/
import Derived.Test.YtcgejdlfiemjaaaDoorPolyT
import Derived.Test.YtcgejdlfiemjaaaDoorS1
set_option linter.unusedSimpArgs false
set_option linter.unusedVariables false
/-! ByCard's closures, as slices that are read. -/
section
open Go Go.RowKit Cs
namespace Go.Proofs.YtcgejdlfiemjaaaDoor
/-- The value v is a polynomial p, in no block below G. -/
def PolyAt (w : World) (G : Nat) (v : Value) (p : List Nat) : Prop := ∃ A c, v = .slice A p.length c ∧ Rd w w.heap.size A p.length (natsF p) ∧ ∀ b o, A = some ⟨b, o, none⟩ → G ≤ b
section
variable {w w' : World} {G : Nat} {v : Value} {p : List Nat}
theorem PolyAt.below (h : PolyAt w G v p) (hb : Below w.heap.size w w') : PolyAt w' G v p :=
  let ⟨A, c, h1, h2, h3⟩ := h
  ⟨A, c, h1, (h2.below hb).more hb.size, h3⟩
theorem PolyAt.drew (h : PolyAt w G v p) : PolyAt w.drew G v p := h
theorem PolyAt.alloc (h : PolyAt w G v p) (o : Obj) : PolyAt (w.alloc o) G v p := h.below ((Below.refl _ _).alloc (Nat.le_refl _) _)
theorem PolyAt.setCell (h : PolyAt w G v p) (a : Addr) (u : Value) (ha : a.block < G) : PolyAt (w.setCell a u) G v p :=
  let ⟨A, c, h1, h2, h3⟩ := h
  ⟨A, c, h1, (rdSetOther h2 a u fun b o e => by have := h3 b o e; omega).more (by simp), h3⟩
theorem PolyAt.more {G' : Nat} (h : PolyAt w G v p) (hG : G' ≤ G) : PolyAt w G' v p :=
  let ⟨A, c, h1, h2, h3⟩ := h
  ⟨A, c, h1, h2, fun b o e => Nat.le_trans hG (h3 b o e)⟩
theorem PolyAt.nil (w : World) (G : Nat) : PolyAt w G (.slice none 0 0) [] := ⟨none, 0, rfl, Rd.zero _ _ _ _, fun _ _ e => by cases e⟩
theorem PolyAt.of_row {g n : Nat} {t : TypeId} (h : w.rowIs g t n (natsF p)) (hn : n = p.length) (hG : G ≤ g) : PolyAt w G (.slice (some ⟨g, 0, none⟩) n n) p :=
  ⟨some ⟨g, 0, none⟩, n, by rw [hn], Rd.of_row h (by omega) h.lt, fun _ _ e => by cases e; exact hG⟩
end
set_option maxRecDepth 100000 in
theorem c1_fn (w : World) : Calls Tryd.prog 42 #[] w fun e w' => ∃ v, e = .returned v ∧ PolyAt w' w.heap.size v [] ∧ Below w.heap.size w w' := by
  go_enter Tryd.func42, Tryd.ntmps42
  go_wp2
  go_ret
  exact ⟨_, rfl, PolyAt.nil _ _, Below.refl _ _⟩
set_option maxRecDepth 100000 in
theorem c2_fn (w : World) (q : Nat) (hq : w.cell? ⟨q, 0, none⟩ = some (.string (natB 1))) : Calls Tryd.prog 43 #[.pointer (some ⟨q, 0, none⟩)] w fun e w' => ∃ v, e = .returned v ∧ PolyAt w' w.heap.size v [1] ∧ Below w.heap.size w w' := by
  have hr : (w.alloc (.cells #[.string (natB 1)] 28)).rowIs w.heap.size 28 1 (natsF [1]) := (boxNew w (.string (natB 1)) 28 _ rfl).congr fun i hi => by
    obtain rfl : i = 0 := by omega
    rfl
  go_enter Tryd.func43, Tryd.ntmps43
  go_wp2
  go_ret
  exact ⟨_, rfl, PolyAt.of_row hr rfl (Nat.le_refl _), (Below.refl _ _).alloc (Nat.le_refl _) _⟩
set_option maxRecDepth 100000 in
theorem c4_fn (w : World) (q : Nat) (v : Int) (hq : w.cell? ⟨q, 0, none⟩ = some (.string (natB 1))) : Calls Tryd.prog 47 #[.int .i64 v, .pointer (some ⟨q, 0, none⟩)] w fun e w' => ∃ v, e = .returned v ∧ PolyAt w' w.heap.size v [1, 1] ∧ Below w.heap.size w w' := by
  have hr : (w.alloc (.cells #[.string (natB 1), .string (natB 1)] 28)).rowIs w.heap.size 28 2 (natsF [1, 1]) := (pairNew w (.string (natB 1)) (.string (natB 1)) 28 _ rfl).congr fun i hi => by
    have : i = 0 ∨ i = 1 := by omega
    rcases this with rfl | rfl <;> rfl
  go_enter Tryd.func47, Tryd.ntmps47
  go_wp2
  go_ret
  exact ⟨_, rfl, PolyAt.of_row hr rfl (Nat.le_refl _), (Below.refl _ _).alloc (Nat.le_refl _) _⟩
set_option maxRecDepth 100000 in
theorem c3_fn (w : World) (q : Nat) (l : Int) (hq : w.cell? ⟨q, 0, none⟩ = some (.string (natB 1))) : Calls Tryd.prog 46 #[.int .i64 l, .pointer (some ⟨q, 0, none⟩)] w fun e w' => ∃ v, e = .returned v ∧ PolyAt w' w.heap.size v (RC.lit l) ∧ Below w.heap.size w w' := by
  by_cases h : l < 0
  · have hl : RC.lit l = [1] := by show (if l < 0 then [1] else [0, 1]) = _; rw [if_pos h]
    rw [hl]
    clear hl
    have hr : (w.alloc (.cells #[.string (natB 1)] 28)).rowIs w.heap.size 28 1 (natsF [1]) := (boxNew w (.string (natB 1)) 28 _ rfl).congr fun i hi => by
      obtain rfl : i = 0 := by omega
      rfl
    go_enter Tryd.func46, Tryd.ntmps46
    go_wp2
    go_ret
    exact ⟨_, rfl, PolyAt.of_row hr rfl (Nat.le_refl _), (Below.refl _ _).alloc (Nat.le_refl _) _⟩
  · have hl : RC.lit l = [0, 1] := by show (if l < 0 then [1] else [0, 1]) = _; rw [if_neg h]
    rw [hl]
    clear hl
    have hr : (w.alloc (.cells #[.string ⟨#[]⟩, .string (natB 1)] 28)).rowIs w.heap.size 28 2 (natsF [0, 1]) := (pairNew w (.string ⟨#[]⟩) (.string (natB 1)) 28 _ rfl).congr fun i hi => by
      have : i = 0 ∨ i = 1 := by omega
      rcases this with rfl | rfl
      · show Value.string ⟨#[]⟩ = Value.string (natB 0); rw [natB_zero]
      · rfl
    go_enter Tryd.func46, Tryd.ntmps46
    go_wp2
    go_ret
    exact ⟨_, rfl, PolyAt.of_row hr rfl (Nat.le_refl _), (Below.refl _ _).alloc (Nat.le_refl _) _⟩
end Go.Proofs.YtcgejdlfiemjaaaDoor
end
/-! Polynomials: plus, times and the closure that weighs more variables. -/
section
open Go Go.RowKit Cs
namespace Cs
theorem RC_wide_len : ∀ (vs : List Int) (p : List Nat), (RC.wide p vs).length ≤ p.length + vs.length
  | [], p => by show p.length ≤ _; simp
  | v :: vs, p => by
    have h := RC_wide_len vs (mulP p [1, 1])
    have h2 : (mulP p [1, 1]).length ≤ p.length + 1 := by
      rcases Nat.eq_zero_or_pos p.length with h0 | h0
      · unfold mulP; rw [if_pos (.inl h0)]; simp
      · rw [mulP_len p [1, 1] (by omega) (by decide)]; simp
    show (RC.wide (mulP p [1, 1]) vs).length ≤ p.length + (vs.length + 1)
    omega
theorem RC_wide_ev (vs : List Int) (p : List Nat) : ev (RC.wide p vs) = ev p * 2 ^ vs.length := by
  have h := RC_R1.wide vs p (ev p) rfl
  rw [R1_wide] at h
  exact h
theorem RC_wide_lt (vs : List Int) (h : vs.length ≤ 128) (p : List Nat) (hp : ev p < big) : ev (RC.wide p vs) * 2 < big * 2 ^ 200 := by
  rw [RC_wide_ev, Nat.mul_assoc, ← Nat.pow_succ]
  have h1 : 2 ^ (vs.length + 1) ≤ 2 ^ 200 := Nat.pow_le_pow_right (by decide) (by omega)
  calc ev p * 2 ^ (vs.length + 1) ≤ ev p * 2 ^ 200 := Nat.mul_le_mul_left _ h1
    _ < big * 2 ^ 200 := Nat.mul_lt_mul_of_pos_right hp (Nat.two_pow_pos _)
theorem two_lt : 2 < big * 2 ^ 200 := by
  have h1 := big_one
  have h2 : 2 ^ 2 ≤ 2 ^ 200 := Nat.pow_le_pow_right (show 0 < 2 by decide) (show 2 ≤ 200 by decide)
  calc 2 < 1 * 2 ^ 2 := by decide
    _ ≤ big * 2 ^ 200 := Nat.mul_le_mul (Nat.le_of_lt h1) h2
end Cs
namespace Go.Proofs.YtcgejdlfiemjaaaDoor
theorem plusP (w : World) {G1 G2 : Nat} {u1 u2 : Value} {p1 p2 : List Nat} (h1 : PolyAt w G1 u1 p1) (h2 : PolyAt w G2 u2 p2) (hl1 : p1.length ≤ 100000) (hl2 : p2.length ≤ 100000) (hev : ev p1 + ev p2 < big * 2 ^ 200) :
    Calls Tryd.prog 44 #[u1, u2] w fun e w' => ∃ v, e = .returned v ∧ PolyAt w' w.heap.size v (addP p1 p2) ∧ Below w.heap.size w w' := by
  obtain ⟨A, ca, rfl, hA, _⟩ := h1
  obtain ⟨B, cb, rfl, hB, _⟩ := h2
  refine (plus_any w A B ca cb p1 p2 hl1 hl2 hA hB hev).mono ?_
  rintro e w' ⟨g, rfl, hg, hr, hb⟩
  exact ⟨_, rfl, PolyAt.of_row hr rfl hg, hb⟩
theorem timesP (w : World) {G1 G2 : Nat} {u1 u2 : Value} {p1 p2 : List Nat} (h1 : PolyAt w G1 u1 p1) (h2 : PolyAt w G2 u2 p2) (hl1 : p1.length ≤ 100000) (hl2 : p2.length ≤ 100000) (hea : ev p1 < big * 2 ^ 200) (heb : ev p2 < big * 2 ^ 200) (hev : ev p1 * ev p2 < big * 2 ^ 200) :
    Calls Tryd.prog 45 #[u1, u2] w fun e w' => ∃ v, e = .returned v ∧ PolyAt w' w.heap.size v (mulP p1 p2) ∧ Below w.heap.size w w' := by
  obtain ⟨A, ca, rfl, hA, _⟩ := h1
  obtain ⟨B, cb, rfl, hB, _⟩ := h2
  by_cases h0 : p1.length = 0 ∨ p2.length = 0
  · refine (times_nil w A B ca cb p1.length p2.length h0).mono ?_
    rintro e w' ⟨rfl, hb⟩
    have hm : mulP p1 p2 = [] := by unfold mulP; rw [if_pos h0]
    rw [hm]
    exact ⟨_, rfl, PolyAt.nil _ _, hb⟩
  · refine (times_any w A B ca cb p1 p2 hl1 hl2 (by omega) (by omega) hA hB hea heb hev).mono ?_
    rintro e w' ⟨g, rfl, hg, hr, hb⟩
    exact ⟨_, rfl, PolyAt.of_row hr rfl hg, hb⟩
abbrev c4V (q : Nat) : Value := .func (.func 47) #[] #[.pointer (some ⟨q, 0, none⟩)]
abbrev c3V (q : Nat) : Value := .func (.func 46) #[] #[.pointer (some ⟨q, 0, none⟩)]
abbrev c2V (q : Nat) : Value := .func (.func 43) #[] #[.pointer (some ⟨q, 0, none⟩)]
abbrev cardA (q : Nat) : Array Value := #[.func (.func 42) #[] #[], c2V q, .func (.func 44) #[] #[], .func (.func 45) #[] #[], c3V q, c4V q]
set_option maxRecDepth 100000 in
set_option maxHeartbeats 2000000 in
/-- The polynomial of a node times the weights of more variables. -/
theorem wideC_any (w : World) (O : List Nat) (P : List Nat) (uk : Value) (k len all q go gs bo bs br G : Nat) (hk : k < len) (hlen : len ≤ 65536)
    (hbo : w.cell? ⟨bo, 0, none⟩ = some (.slice (some ⟨go, 0, none⟩) len len)) (hbs : w.cell? ⟨bs, 0, none⟩ = some (.slice (some ⟨gs, 0, none⟩) len len))
    (hr : ∀ i, i < 6 → w.cell? ⟨br, i, none⟩ = some (ringF (cardA q) i))
    (hout : w.cell? ⟨go, k, none⟩ = some uk) (hP : PolyAt w G uk P) (hG : G ≤ w.heap.size) (hPl : P.length ≤ 1000) (hPe : ev P < big) (how : w.rowIs gs 59 (len * 2) (setsF O))
    (hq : w.cell? ⟨q, 0, none⟩ = some (.string (natB 1))) (hT : Tab w) :
    Calls Tryd.prog 73 #[.int .i64 k, setV all, .pointer (some ⟨bo, 0, none⟩), .pointer (some ⟨bs, 0, none⟩), .pointer (some ⟨br, 0, none⟩)] w fun e w' =>
      ∃ v, e = .returned v ∧ PolyAt w' G v (RC.wide P (vl (minus all (O.getD k 0)))) ∧ Below w.heap.size w w' := by
  have hr3 : w.cell? ⟨br, 3, none⟩ = some (.func (.func 45) #[] #[]) := hr 3 (by omega)
  have hr5 : w.cell? ⟨br, 5, none⟩ = some (c4V q) := hr 5 (by omega)
  clear hr
  have hqlt := World.block_lt_of_cell? w _ hq
  have hbolt := World.block_lt_of_cell? w _ hbo
  have hbslt := World.block_lt_of_cell? w _ hbs
  have hbrlt := World.block_lt_of_cell? w _ hr3
  have hglt := World.block_lt_of_cell? w _ hout
  simp only at hqlt hbolt hbslt hbrlt hglt
  have hwlt := how.lt
  obtain ⟨hs5, hs6, _, _⟩ := setsCells how k (by omega)
  have hvl := vl_length (minus all (O.getD k 0))
  have hli := fun W h => vlist_rd W (minus all (O.getD k 0)) h
  obtain ⟨vs, hvs⟩ : ∃ vs, vl (minus all (O.getD k 0)) = vs := ⟨_, rfl⟩
  obtain ⟨sk, hsk⟩ : ∃ sk, O.getD k 0 = sk := ⟨_, rfl⟩
  rw [hvs] at hvl ⊢
  simp only [hvs] at hli
  rw [hsk] at hs5 hs6 hli
  have HLI := Lib.hid hli
  have HPE := Lib.hid hPe
  clear hvs hsk hli hPe
  have hi1 : (0 : Int) ≤ (k : Int) := by omega
  have hi2 : (k : Int) < (len : Int) := by omega
  have hWa : Below w.heap.size w (w.alloc (.cells #[.int .u64 (lo all : Int), .int .u64 (hi all : Int)] 59)) := (Below.refl _ _).alloc (Nat.le_refl _) _
  have hset := (setNew w all 59 _ rfl).drew
  have hb := belowDrewN hWa 1
  change Below _ _ (World.drew _) at hb
  replace hP := (hP.alloc (.cells #[.int .u64 (lo all : Int), .int .u64 (hi all : Int)] 59)).drew
  go_enter Tryd.func73, Tryd.ntmps73
  go_wp2_with fail
  obtain ⟨h91, h92, _, _⟩ := setCells hset
  have h93 := below_cell hb hbslt hbs
  have h94 := below_cell hb hwlt hs5
  have h95 := below_cell hb hwlt hs6
  go_region_held3 (fun w' => w'.cell? ⟨w.heap.size, 0, none⟩ = some (Value.int .u64 (lo all : Int)) ∧ w'.cell? ⟨w.heap.size, 1, none⟩ = some (Value.int .u64 (hi all : Int)) ∧ w'.cell? ⟨bs, 0, none⟩ = some (Value.slice (some ⟨gs, 0, none⟩) len len) ∧ w'.cell? ⟨gs, k * 2, none⟩ = some (Value.int .u64 (lo sk : Int)) ∧ w'.cell? ⟨gs, k * 2 + 1, none⟩ = some (Value.int .u64 (hi sk : Int)))
    (first | exact ⟨h91, h92, h93, h94, h95⟩ | exact ⟨(World.cell?_setCell_far _ _ _ _ (by simp)).trans h91, (World.cell?_setCell_far _ _ _ _ (by simp)).trans h92, (World.cell?_setCell_far _ _ _ _ (by simp)).trans h93, (World.cell?_setCell_far _ _ _ _ (by simp)).trans h94, (World.cell?_setCell_far _ _ _ _ (by simp)).trans h95⟩ | go_keep)
    (first
      | (go_simp
         go_at_call 61
         (with_reducible refine (minus_any _ all sk).mono ?_)
         rintro e w9 ⟨rfl, hb9⟩
         replace hset := rowBelow hset hb9
         replace hP := hP.below hb9
         replace hb := Cs.Below.trans' hb hb9 hb.size
         obtain ⟨h91, h92, _, _⟩ := setCells hset
         have h93 := below_cell hb hbslt hbs
         have h94 := below_cell hb hwlt hs5
         have h95 := below_cell hb hwlt hs6)
      | (go_simp
         go_at_call 60
         (with_reducible refine (HLI.out _ (hT.below hb)).mono ?_)
         rintro e w9 ⟨A9, c9, rfl, hrd9, hb9⟩
         replace hset := rowBelow hset hb9
         replace hP := hP.below hb9
         replace hb := Cs.Below.trans' hb hb9 hb.size
         obtain ⟨h91, h92, _, _⟩ := setCells hset
         have h93 := below_cell hb hbslt hbs
         have h94 := below_cell hb hwlt hs5
         have h95 := below_cell hb hwlt hs6))
  go_wp2
  clear h91 h92 h93 h94 h95 hset hWa HLI hb9
  have HRD := Lib.hid hrd9; clear hrd9
  go_loopw [8, 23] (fun u t wq => ∃ m : Nat, m ≤ vs.length ∧ t = .int .i64 m ∧ PolyAt wq G u (RC.wide P (vs.take m)) ∧ Rd wq wq.heap.size A9 vs.length (intF vs) ∧ Below w.heap.size w wq) (fun _ t _ => vs.length - (intOf t).toNat)
  case atStart => exact ⟨0, by omega, rfl, hP, HRD.out, hb⟩
  case round =>
    clear hP hb HRD
    obtain ⟨m, hm, rfl, hP, hrd, hb⟩ := hrel
    have HRD := Lib.hid hrd; clear hrd
    have hz3 := hb.size
    by_cases hmlt : m < vs.length
    · obtain ⟨b', o', rfl, hbB', hcs⟩ := HRD.out (by omega)
      have hc := hcs m hmlt
      clear hcs
      unfold intF at hc
      have htk : RC.wide P (vs.take (m + 1)) = mulP (RC.wide P (vs.take m)) [1, 1] := by
        rw [List.take_succ_eq_append_getElem hmlt]
        unfold Rg.wide
        rw [List.foldl_append]; rfl
      have hwb := RC_wide_lt (vs.take m) (by simp; omega) P HPE.out
      have hwl := RC_wide_len (vs.take m) P
      rw [List.length_take] at hwl
      obtain ⟨v, hv⟩ : ∃ v, vs.getD m 0 = v := ⟨_, rfl⟩
      obtain ⟨y, hy⟩ : ∃ y, RC.wide P (vs.take m) = y := ⟨_, rfl⟩
      rw [hy] at htk hwb hwl hP
      rw [hv] at hc
      have HTK := Lib.hid htk
      have hlq1 : y.length ≤ 100000 := by omega
      have HQ1 : Hid (ev y < big * 2 ^ 200) := Lib.hid (by omega)
      have HQ2 : Hid (ev [1, 1] < big * 2 ^ 200) := Lib.hid two_lt
      have HQ3 : Hid (ev y * ev [1, 1] < big * 2 ^ 200) := Lib.hid hwb
      clear htk hv hy hwb hwl
      have hP' := hP.drew
      have hrd' := HRD.out.drew
      have hb' := belowDrewN hb 1
      change Below _ _ (World.drew _) at hb'
      have hc3 := below_cell hb hbrlt hr3
      have hc5 := below_cell hb hbrlt hr5
      go_wp2_with fail
      have h93 := below_cell hb' hbrlt hr3
      have h95 := below_cell hb' hbrlt hr5
      go_region_held3 (fun w' => w'.cell? ⟨br, 3, none⟩ = some (Value.func (.func 45) #[] #[]) ∧ w'.cell? ⟨br, 5, none⟩ = some (c4V q))
        (first | exact ⟨h93, h95⟩ | exact ⟨(World.cell?_setCell_far _ _ _ _ (by simp)).trans h93, (World.cell?_setCell_far _ _ _ _ (by simp)).trans h95⟩ | go_keep)
        (first
          | (go_simp
             go_at_call 47
             (with_reducible refine (c4_fn _ q v (below_cell hb' hqlt hq)).mono ?_)
             rintro e w9 ⟨u2, rfl, hQ', hb9⟩
             have hzz := hb'.size
             replace hrd' := (hrd'.below hb9).more hb9.size
             replace hP' := hP'.below hb9
             replace hb' := Cs.Below.trans' hb' hb9 hb'.size
             have h93 := below_cell hb' hbrlt hr3
             have h95 := below_cell hb' hbrlt hr5)
          | (go_simp
             go_at_call 45
             (with_reducible refine (timesP _ hP' hQ' hlq1 (by decide) HQ1.out (HQ2.out) HQ3.out).mono ?_)
             rintro e w9 ⟨u3, rfl, hS', hb9⟩
             have hzz := hb'.size
             replace hrd' := (hrd'.below hb9).more hb9.size
             replace hP' := hP'.below hb9
             replace hb' := Cs.Below.trans' hb' hb9 hb'.size
             have h93 := below_cell hb' hbrlt hr3
             have h95 := below_cell hb' hbrlt hr5))
      all_goals
        try go_wp2
        go_roundw
        case rel =>
          refine ⟨m + 1, by omega, by go_num, ?_, hrd', hb'⟩
          rw [HTK.out]
          exact hS'.more (by omega)
        case measure => simp [intOf]; omega
    · obtain rfl : m = vs.length := by omega
      rw [List.take_length] at hP
      obtain ⟨uA, uc, rfl, hP2, hP3⟩ := hP
      go_wp2
      go_ret
      exact ⟨_, rfl, ⟨uA, uc, rfl, hP2, hP3⟩, hb⟩
end Go.Proofs.YtcgejdlfiemjaaaDoor
end
/-! How long the polynomials are. -/
section
open Go Go.RowKit Cs
namespace Cs
/-- How many variables a set has. -/
def crd (s : Nat) : Nat := (List.range 128).countP fun i => s.testBit i
theorem crd_vl (s : Nat) : (vl s).length = crd s := by
  rw [vl_eq, List.length_map]
  unfold vlist crd
  rw [List.length_map, List.countP_eq_length_filter]
theorem countP_or (f g : Nat → Bool) : ∀ l : List Nat, (∀ i ∈ l, (f i && g i) = false) → l.countP (fun i => f i || g i) = l.countP f + l.countP g
  | [], _ => rfl
  | x :: xs, h => by
    have h1 := h x (by simp)
    have h2 := countP_or f g xs fun i hi => h i (by simp [hi])
    rw [List.countP_cons, List.countP_cons, List.countP_cons, h2]
    cases hf : f x <;> cases hg : g x <;> simp_all <;> omega
theorem crd_or (s t : Nat) (h : s &&& t = 0) : crd (s ||| t) = crd s + crd t := by
  unfold crd
  rw [← countP_or]
  · congr 1; funext i; rw [Nat.testBit_or]
  · intro i _
    rw [← Nat.testBit_and, h, Nat.zero_testBit]
theorem crd_minus (s t : Nat) (h : ∀ i, t.testBit i = true → s.testBit i = true) : crd (minus s t) + crd t = crd s := by
  unfold crd
  rw [← countP_or]
  · congr 1; funext i
    rw [minus_bit]
    have := h i
    cases h1 : s.testBit i <;> cases h2 : t.testBit i <;> simp_all
  · intro i _
    rw [minus_bit]
    cases s.testBit i <;> cases t.testBit i <;> rfl
theorem crd_le (s : Nat) : crd s ≤ 128 := by rw [← crd_vl]; exact vl_length s
theorem crd_one (i : Nat) (h : i < 128) : 1 ≤ crd (2 ^ i) := by
  unfold crd
  rw [Nat.succ_le_iff, List.countP_pos_iff]
  exact ⟨i, by simpa using h, by simp [Nat.testBit_two_pow]⟩
theorem fold_sub (acc : List Nat) : ∀ (ks : List Int) (s : Nat), (∀ i, s.testBit i = true → (ks.foldl (fun s k => s ||| acc.getD k.toNat 0) s).testBit i = true) ∧ ∀ k ∈ ks, ∀ i, (acc.getD k.toNat 0).testBit i = true → (ks.foldl (fun s k => s ||| acc.getD k.toNat 0) s).testBit i = true
  | [], s => ⟨fun _ h => h, fun k hk => by cases hk⟩
  | k :: ks, s => by
    have ih := fold_sub acc ks (s ||| acc.getD k.toNat 0)
    refine ⟨fun i hi => ih.1 i (by rw [Nat.testBit_or, hi]; rfl), fun k' hk' i hi => ?_⟩
    rcases List.mem_cons.1 hk' with rfl | hk'
    · exact ih.1 i (by rw [Nat.testBit_or, hi, Bool.or_true])
    · exact ih.2 k' hk' i hi
theorem mulP_len_le (a b : List Nat) : (mulP a b).length ≤ a.length + b.length - 1 := by
  by_cases h : a.length = 0 ∨ b.length = 0
  · unfold mulP; rw [if_pos h]; simp
  · rw [mulP_len a b (by omega) (by omega)]; omega
theorem fold_bit (acc : List Nat) (i : Nat) : ∀ (ks : List Int) (s : Nat), (ks.foldl (fun s k => s ||| acc.getD k.toNat 0) s).testBit i = (s.testBit i || ks.any fun k => (acc.getD k.toNat 0).testBit i)
  | [], s => by simp
  | k :: ks, s => by
    show (ks.foldl _ (s ||| acc.getD k.toNat 0)).testBit i = _
    rw [fold_bit acc i ks, Nat.testBit_or, List.any_cons, Bool.or_assoc]
theorem crd_mono (s t : Nat) (h : ∀ i, t.testBit i = true → s.testBit i = true) : crd t ≤ crd s := by
  have := crd_minus s t h; omega
/-- The set of a node: its literal's, and its inputs'. -/
theorem own_bit {N : Nt} (hv : vld N = true) (k : Nat) (hk : k < N.l.length) (i : Nat) :
    ((own N.l).getD k 0).testBit i = ((wth 0 (litVar N.l[k].lit)).testBit i || N.l[k].ins.any fun j => ((own N.l).getD j.toNat 0).testBit i) := by
  have h1 : (own N.l).getD k 0 = ownStep (scan ownStep [] (N.l.take k)) N.l[k] := by unfold own; rw [scan_step _ _ _ _ hk]
  rw [h1]
  show (N.l[k].ins.foldl (fun s j => s ||| (scan ownStep [] (N.l.take k)).getD j.toNat 0) (wth 0 (litVar N.l[k].lit))).testBit i = _
  rw [fold_bit]
  congr 1
  have hin := Go.Proofs.YtcgejdlfiemjaaaDoor.formed_ins (vld_formed hv k hk)
  rw [Bool.eq_iff_iff, List.any_eq_true, List.any_eq_true]
  have key : ∀ j ∈ N.l[k].ins, (scan ownStep [] (N.l.take k)).getD j.toNat 0 = (own N.l).getD j.toNat 0 := fun j hj => by
    obtain ⟨a, ha, rfl⟩ := List.getElem_of_mem hj
    obtain ⟨m, hm1, hm2⟩ := hin a ha
    have : N.l[k].ins[a] = (m : Int) := by rw [← hm1]; simp [List.getD, ha]
    rw [this, Int.toNat_natCast]
    exact scan_get ownStep 0 N.l k m (by omega) hm2
  constructor
  · rintro ⟨j, hj, h⟩; exact ⟨j, hj, by rw [← key j hj]; exact h⟩
  · rintro ⟨j, hj, h⟩; exact ⟨j, hj, by rw [key j hj]; exact h⟩
theorem own_ins {N : Nt} (hv : vld N = true) (k : Nat) (hk : k < N.l.length) (j : Int) (hj : j ∈ N.l[k].ins) (i : Nat) (h : ((own N.l).getD j.toNat 0).testBit i = true) : ((own N.l).getD k 0).testBit i = true := by
  rw [own_bit hv k hk i, Bool.or_eq_true]
  exact .inr (List.any_eq_true.2 ⟨j, hj, h⟩)
theorem and_len (O : List Nat) (L : List (List Nat)) (x : Nd) (h3 : x.kind = 3) : ∀ (ks : List Int) (s : Nat) (p : List Nat), apart O s ks = true → (∀ k ∈ ks, (L.getD k.toNat []).length ≤ crd (O.getD k.toNat 0) + 1) → p.length ≤ crd s + 1 →
    ∀ m, ((ks.take m).foldl (RC.in1 O L x) p).length ≤ crd ((ks.take m).foldl (fun s k => s ||| O.getD k.toNat 0) s) + 1
  | [], s, p, _, _, hp, m => by simpa using hp
  | k :: ks, s, p, ha, hL, hp, 0 => by simpa using hp
  | k :: ks, s, p, ha, hL, hp, m + 1 => by
    unfold apart at ha
    split at ha
    · rename_i h0
      have h1 : RC.in1 O L x p k = mulP p (L.getD k.toNat []) := by unfold Rg.in1; rw [if_pos (.inr h3)]; rfl
      have h2 : (RC.in1 O L x p k).length ≤ crd (s ||| O.getD k.toNat 0) + 1 := by
        rw [h1, crd_or _ _ h0]
        have := mulP_len_le p (L.getD k.toNat [])
        have := hL k (by simp)
        omega
      exact and_len O L x h3 ks _ _ ha (fun k' hk' => hL k' (by simp [hk'])) h2 m
    · cases ha
theorem or_len (O : List Nat) (L : List (List Nat)) (x : Nd) (h3 : ¬ (x.kind = 1 ∨ x.kind = 3)) (c : Nat) : ∀ (ks : List Int) (p : List Nat), (∀ k ∈ ks, (RC.gap O L (O.getD L.length 0) k.toNat).length ≤ c) → p.length ≤ c →
    ∀ m, ((ks.take m).foldl (RC.in1 O L x) p).length ≤ c
  | [], p, _, hp, m => by simpa using hp
  | k :: ks, p, hL, hp, 0 => by simpa using hp
  | k :: ks, p, hL, hp, m + 1 => by
    have h1 : RC.in1 O L x p k = addP p (RC.gap O L (O.getD L.length 0) k.toNat) := by unfold Rg.in1; rw [if_neg h3]; rfl
    have h2 : (RC.in1 O L x p k).length ≤ c := by
      rw [h1, addP_len]
      have := hL k (by simp)
      omega
    exact or_len O L x h3 c ks _ (fun k' hk' => hL k' (by simp [hk'])) h2 m
theorem dcmpL_at (O : List Nat) : ∀ (l : List Nd) (k : Nat) (hk : k < l.length), dcmpL O l = true → l[k].kind = 3 → apart O 0 l[k].ins = true
  | x :: xs, 0, _, h, h3 => by
    unfold dcmpL at h
    change x.kind = 3 at h3
    rw [if_pos h3, Bool.and_eq_true] at h
    exact h.1
  | x :: xs, k + 1, hk, h, h3 => by
    unfold dcmpL at h
    have h2 : dcmpL O xs = true := by
      split at h
      · rw [Bool.and_eq_true] at h; exact h.2
      · exact h
    exact dcmpL_at O xs k (by simpa using hk) h2 h3
/-- The polynomials are short: of a node, at most its set's variables and one more. -/
theorem RC_part_len {N : Nt} (hv : vld N = true) (hd : dcmp N = true) (k : Nat) (hk : k < N.l.length) (L : List (List Nat)) (hLl : L.length = k) (hL : ∀ j, j < k → (L.getD j []).length ≤ crd ((own N.l).getD j 0) + 1) (m : Nat) :
    ((N.l[k].ins.take m).foldl (RC.in1 (own N.l) L N.l[k]) (RC.start N.l[k])).length ≤ crd ((own N.l).getD k 0) + 1 := by
  have hfm := vld_formed hv k hk
  have hin := Go.Proofs.YtcgejdlfiemjaaaDoor.formed_ins hfm
  have hmem : ∀ j ∈ N.l[k].ins, ∃ m : Nat, j = (m : Int) ∧ m < k := fun j hj => by
    obtain ⟨a, ha, rfl⟩ := List.getElem_of_mem hj
    obtain ⟨m, hm1, hm2⟩ := hin a ha
    exact ⟨m, by rw [← hm1]; simp [List.getD, ha], hm2⟩
  have hLm : ∀ j ∈ N.l[k].ins, (L.getD j.toNat []).length ≤ crd ((own N.l).getD j.toNat 0) + 1 := fun j hj => by
    obtain ⟨m, rfl, hm⟩ := hmem j hj
    exact hL _ (by simpa using hm)
  rcases formed_kind hfm with ⟨hkk, hil⟩ | h3 | h4
  · rw [List.length_eq_zero_iff] at hil
    have hf : (N.l[k].ins.take m).foldl (RC.in1 (own N.l) L N.l[k]) (RC.start N.l[k]) = RC.start N.l[k] := by rw [hil]; simp
    rw [hf]
    unfold Rg.start
    split
    · rename_i h2
      have hlit : litOk N.l[k].lit N.n = true := by
        have h := hfm
        unfold formed at h
        rw [hil] at h
        simp [h2] at h
        exact h
      unfold litOk at hlit
      simp at hlit
      have hlv := litVar_le N.l[k].lit
      have h1 : 1 ≤ crd ((own N.l).getD k 0) := by
        refine Nat.le_trans (crd_one ((litVar N.l[k].lit).toNat - 1) (by omega)) (crd_mono _ _ fun i hi => ?_)
        rw [own_bit hv k hk i, Bool.or_eq_true]
        left
        unfold wth
        rw [if_pos (by omega), Nat.zero_or]; exact hi
      show (if N.l[k].lit < 0 then [1] else [0, 1]).length ≤ _
      split
      · show 1 ≤ _; omega
      · show 2 ≤ _; omega
    · split
      · show 1 ≤ _; omega
      · show 0 ≤ _; omega
  · have ha := dcmpL_at (own N.l) N.l k hk hd h3
    have h1 := and_len (own N.l) L N.l[k] h3 N.l[k].ins 0 (RC.start N.l[k]) ha hLm (by unfold Rg.start; rw [if_neg (by omega), if_pos (.inr h3)]; show 1 ≤ _; omega) m
    refine Nat.le_trans h1 (Nat.succ_le_succ (crd_mono _ _ fun i hi => ?_))
    rw [fold_bit, Nat.zero_testBit, Bool.false_or, List.any_eq_true] at hi
    obtain ⟨j, hj, hji⟩ := hi
    exact own_ins hv k hk j (List.mem_of_mem_take hj) i hji
  · refine or_len (own N.l) L N.l[k] (by omega) _ N.l[k].ins (RC.start N.l[k]) (fun j hj => ?_) (by unfold Rg.start; rw [if_neg (by omega), if_neg (by omega)]; show 0 ≤ _; omega) m
    have h1 := hLm j hj
    have h2 := crd_minus ((own N.l).getD k 0) ((own N.l).getD j.toNat 0) fun i hi => own_ins hv k hk j hj i hi
    have h3 := RC_wide_len (vl (minus ((own N.l).getD k 0) ((own N.l).getD j.toNat 0))) (L.getD j.toNat [])
    rw [crd_vl] at h3
    unfold Rg.gap
    rw [hLl]
    show (RC.wide (L.getD j.toNat []) _).length ≤ _
    omega
theorem RC_all_len {N : Nt} (hv : vld N = true) (hd : dcmp N = true) : ∀ k, k ≤ N.l.length → ∀ j, j < k → ((scan (RC.step (own N.l)) [] (N.l.take k)).getD j []).length ≤ crd ((own N.l).getD j 0) + 1 := by
  intro k
  induction k with
  | zero => intro _ j hj; omega
  | succ k ih =>
    intro hk j hj
    have ih' := ih (by omega)
    rw [scan_take _ _ k (by omega)]
    have hlen := scan_len (RC.step (own N.l)) N.l k (by omega)
    by_cases h : j < k
    · rw [List.getD_eq_getElem?_getD, List.getElem?_append_left (by omega), ← List.getD_eq_getElem?_getD]; exact ih' j h
    · obtain rfl : j = k := by omega
      rw [List.getD_eq_getElem?_getD, List.getElem?_append_right (by omega), hlen, Nat.sub_self]
      have h1 := RC_part_len hv hd j (by omega) _ hlen ih' N.l[j].ins.length
      rw [List.take_length] at h1
      exact h1
end Cs
end
/-! What lies in memory while count.sum over polynomials runs. -/
section
open Go Go.RowKit Cs
namespace Go.Proofs.YtcgejdlfiemjaaaDoor
/-- The cells of a row of slices. -/
def vsF (U : List Value) (i : Nat) : Value := U.getD i (.slice none 0 0)
theorem vgetD_snoc (U : List Value) (s : Value) (j : Nat) : (U ++ [s]).getD j (.slice none 0 0) = if j = U.length then s else U.getD j (.slice none 0 0) := by
  rw [List.getD_eq_getElem?_getD, List.getElem?_append]
  by_cases h : j < U.length
  · rw [if_pos h, if_neg (by omega), ← List.getD_eq_getElem?_getD]
  · rw [if_neg h]
    by_cases h2 : j = U.length
    · subst h2; simp
    · rw [if_neg h2, List.getD_eq_getElem?_getD, List.getElem?_eq_none (by simp; omega), List.getElem?_eq_none (by omega)]
theorem pgetD_snoc (U : List (List Nat)) (s : List Nat) (j : Nat) : (U ++ [s]).getD j [] = if j = U.length then s else U.getD j [] := by
  rw [List.getD_eq_getElem?_getD, List.getElem?_append]
  by_cases h : j < U.length
  · rw [if_pos h, if_neg (by omega), ← List.getD_eq_getElem?_getD]
  · rw [if_neg h]
    by_cases h2 : j = U.length
    · subst h2; simp
    · rw [if_neg h2, List.getD_eq_getElem?_getD, List.getElem?_eq_none (by simp; omega), List.getElem?_eq_none (by omega)]
theorem vsNext {w : World} {g n : Nat} {t : TypeId} {U : List Value} (h : w.rowIs g t n (vsF U)) (j : Nat) (s : Value) (hj : j = U.length) : (w.setCell ⟨g, j, none⟩ s).rowIs g t n (vsF (U ++ [s])) :=
  (h.set j _).congr fun i hi => by
    by_cases h1 : i = j
    · rw [if_pos h1]; unfold vsF; rw [vgetD_snoc, if_pos (by omega)]
    · rw [if_neg h1]; unfold vsF; rw [vgetD_snoc, if_neg (by omega)]
theorem vsLast {w : World} {g n : Nat} {t : TypeId} {U : List Value} {s0 : Value} (h : w.rowIs g t n (vsF (U ++ [s0]))) (j : Nat) (s : Value) (hj : j = U.length) : (w.setCell ⟨g, j, none⟩ s).rowIs g t n (vsF (U ++ [s])) :=
  (h.set j _).congr fun i hi => by
    by_cases h1 : i = j
    · rw [if_pos h1]; unfold vsF; rw [vgetD_snoc, if_pos (by omega)]
    · rw [if_neg h1]; unfold vsF; rw [vgetD_snoc, vgetD_snoc, if_neg (by omega), if_neg (by omega)]
theorem vsMade (w : World) (m : Nat) (t : TypeId) (g : Nat) (hg : w.heap.size = g) : (w.alloc (.cells (madeCells #[.slice none 0 0] m) t)).rowIs g t m (vsF []) :=
  rowMade w _ m t g hg fun i _ => by unfold vsF; simp
theorem info_nats : (Tryd.prog.info? 35).map (fun i => (i.zero, i.size, i.bytes)) = some (some (.slice none 0 0), 1, 24) := by kernel_rfl
theorem mk_nats (n : Nat) (h : n ≤ 1000000000) (u : World) : (Instr.makeSlice 105 (.int .i64 (n : Int)) (.int .i64 (n : Int))).run Tryd.prog u =
    .ok (.slice (some ⟨u.heap.size, 0, none⟩) n n) (u.alloc (.cells (madeCells #[.slice none 0 0] n) 35)) := by
  obtain ⟨i0, hi, hz0, hz1, hz2⟩ := info_parts info_nats
  have hr := run_make (P := Tryd.prog) u 105 35 i0 _ Tryd.underlying105 hi hz0 .i64 .i64 n n (by omega) (Int.le_refl _) (by rw [hz2]; omega) (by omega)
  simp only [Int.toNat_natCast, hz1, Nat.mul_one] at hr
  exact hr
/-- The values U are the polynomials L. -/
def Pls (w : World) (G : Nat) (U : List Value) (L : List (List Nat)) : Prop := U.length = L.length ∧ ∀ j, j < U.length → PolyAt w G (U.getD j (.slice none 0 0)) (L.getD j [])
structure SC (w0 : World) (Q g : Nat) (n : Int) (l : List Nd) (A : Option Addr) (c q : Nat) (O : List Nat) (L : List (List Nat)) (U : List Value) (wr : World) : Prop where
  net : wr.rowIs w0.heap.size 24 2 (ntF ⟨n, l⟩ A c)
  ring : wr.rowIs (w0.heap.size + 1) 89 6 (ringF (cardA q))
  b5 : wr.rowIs Q 96 1 (fun _ => .slice (some ⟨g, 0, none⟩) l.length l.length)
  out : wr.rowIs (Q + 1) 35 l.length (vsF U)
  b6 : wr.rowIs (Q + 1 + 1) 105 1 (fun _ => .slice (some ⟨Q + 1, 0, none⟩) l.length l.length)
  own : wr.rowIs g 59 (l.length * 2) (setsF O)
  pls : Pls wr (Q + 1 + 1 + 1) U L
  bl : Below w0.heap.size w0 wr
section
variable {w0 : World} {Q g : Nat} {n : Int} {l : List Nd} {A : Option Addr} {c q : Nat} {O : List Nat} {L : List (List Nat)} {U : List Value} {wr w' : World}
theorem SC.below (h : SC w0 Q g n l A c q O L U wr) (hb : Below wr.heap.size wr w') : SC w0 Q g n l A c q O L U w' :=
  ⟨rowBelow h.net hb, rowBelow h.ring hb, rowBelow h.b5 hb, rowBelow h.out hb, rowBelow h.b6 hb, rowBelow h.own hb, ⟨h.pls.1, fun j hj => (h.pls.2 j hj).below hb⟩, Cs.Below.trans' h.bl hb h.bl.size⟩
theorem SC.drew (h : SC w0 Q g n l A c q O L U wr) : SC w0 Q g n l A c q O L U wr.drew :=
  ⟨h.net.drew, h.ring.drew, h.b5.drew, h.out.drew, h.b6.drew, h.own.drew, h.pls, belowDrewN h.bl 1⟩
theorem SC.alloc (h : SC w0 Q g n l A c q O L U wr) (o : Obj) : SC w0 Q g n l A c q O L U (wr.alloc o) := h.below ((Below.refl _ _).alloc (Nat.le_refl _) _)
theorem SC.put (h : SC w0 Q g n l A c q O L U wr) (hq : w0.heap.size + 1 < Q) (hg : g < Q) (U' : List Value) (L' : List (List Nat)) (i : Nat) (v : Value) (hr : (wr.setCell ⟨Q + 1, i, none⟩ v).rowIs (Q + 1) 35 l.length (vsF U'))
    (hp : Pls wr (Q + 1 + 1 + 1) U' L') : SC w0 Q g n l A c q O L' U' (wr.setCell ⟨Q + 1, i, none⟩ v) :=
  ⟨h.net.setOther (by simp; omega) _, h.ring.setOther (by simp; omega) _, h.b5.setOther (by simp) _, hr, h.b6.setOther (by simp) _, h.own.setOther (by simp; omega) _, ⟨hp.1, fun j hj => (hp.2 j hj).setCell _ _ (by simp)⟩, h.bl.setCell (by simp; omega) _⟩
theorem Pls.snoc {w : World} {G : Nat} {v : Value} {p : List Nat} (h : Pls w G U L) (hv : PolyAt w G v p) : Pls w G (U ++ [v]) (L ++ [p]) := by
  obtain ⟨h1, h2⟩ := h
  refine ⟨by simp [h1], fun j hj => ?_⟩
  rw [vgetD_snoc, pgetD_snoc, ← h1]
  split
  · exact hv
  · exact h2 j (by simp at hj; omega)
theorem Pls.init {w : World} {G : Nat} {v : Value} {p : List Nat} (h : Pls w G (U ++ [v]) (L ++ [p])) (hl : U.length = L.length) : Pls w G U L := by
  refine ⟨hl, fun j hj => ?_⟩
  have h2 := h.2 j (by simp; omega)
  rwa [vgetD_snoc, pgetD_snoc, if_neg (by omega), if_neg (by omega)] at h2
theorem SC.next {v : Value} {p : List Nat} (h : SC w0 Q g n l A c q O L U wr) (hq : w0.heap.size + 1 < Q) (hg : g < Q) (i : Nat) (hi : i = U.length) (hv : PolyAt wr (Q + 1 + 1 + 1) v p) : SC w0 Q g n l A c q O (L ++ [p]) (U ++ [v]) (wr.setCell ⟨Q + 1, i, none⟩ v) :=
  h.put hq hg _ _ _ _ (vsNext h.out i v hi) (h.pls.snoc hv)
theorem SC.last {v v0 : Value} {p p0 : List Nat} (h : SC w0 Q g n l A c q O (L ++ [p0]) (U ++ [v0]) wr) (hq : w0.heap.size + 1 < Q) (hg : g < Q) (i : Nat) (hi : i = U.length) (hl : U.length = L.length) (hv : PolyAt wr (Q + 1 + 1 + 1) v p) : SC w0 Q g n l A c q O (L ++ [p]) (U ++ [v]) (wr.setCell ⟨Q + 1, i, none⟩ v) :=
  h.put hq hg _ _ _ _ (vsLast h.out i v hi) ((h.pls.init hl).snoc hv)
theorem SC.fn (h : SC w0 Q g n l A c q O L U wr) : wr.cell? ⟨w0.heap.size + 1, 0, none⟩ = some (.func (.func 42) #[] #[]) ∧ wr.cell? ⟨w0.heap.size + 1, 1, none⟩ = some (c2V q) ∧
    wr.cell? ⟨w0.heap.size + 1, 2, none⟩ = some (.func (.func 44) #[] #[]) ∧ wr.cell? ⟨w0.heap.size + 1, 3, none⟩ = some (.func (.func 45) #[] #[]) ∧ wr.cell? ⟨w0.heap.size + 1, 4, none⟩ = some (c3V q) ∧ wr.cell? ⟨w0.heap.size + 1, 5, none⟩ = some (c4V q) :=
  ⟨h.ring.cell (i := 0) (by omega), h.ring.cell (i := 1) (by omega), h.ring.cell (i := 2) (by omega), h.ring.cell (i := 3) (by omega), h.ring.cell (i := 4) (by omega), h.ring.cell (i := 5) (by omega)⟩
theorem SC.boxes (h : SC w0 Q g n l A c q O L U wr) : wr.cell? ⟨Q, 0, none⟩ = some (.slice (some ⟨g, 0, none⟩) l.length l.length) ∧ wr.cell? ⟨Q + 1 + 1, 0, none⟩ = some (.slice (some ⟨Q + 1, 0, none⟩) l.length l.length) := ⟨boxCell h.b5, boxCell h.b6⟩
theorem SC.at (h : SC w0 Q g n l A c q O L U wr) (j : Nat) (hj : j < l.length) (y : Value) (hy : U.getD j (.slice none 0 0) = y) : wr.cell? ⟨Q + 1, j, none⟩ = some y := (h.out.cell (i := j) hj).trans (by unfold vsF; rw [hy])
theorem SC.nofr (h : SC w0 Q g n l A c q O L U wr) (j : Nat) : wr.frozen? ⟨Q + 1, j, none⟩ = false := h.out.frozen j
end
/-- The values at one are short, so the sums go through. -/
theorem RC_part_ev {N : Nt} (h : shortB N = true) (k : Nat) (hk : k < N.l.length) (m : Nat) :
    ev ((N.l[k].ins.take m).foldl (RC.in1 (own N.l) (scan (RC.step (own N.l)) [] (N.l.take k)) N.l[k]) (RC.start N.l[k])) < big := by
  have h1 := RC_R1.fold (RC_R1.all (own N.l) (N.l.take k)) (own N.l) N.l[k] (N.l[k].ins.take m) _ _ (RC_R1.start N.l[k])
  unfold Rg.all at h1
  rw [h1]
  exact shortB_part h k hk m
theorem RC_pre_ev {N : Nt} (h : shortB N = true) (k : Nat) (hk : k ≤ N.l.length) (j : Nat) : ev ((scan (RC.step (own N.l)) [] (N.l.take k)).getD j []) < big := by
  have h1 := (RC_R1.all (own N.l) (N.l.take k)).2 j
  unfold Rg.all at h1
  rw [show RC.zero = [] from rfl] at h1
  rw [h1]
  by_cases hj : j < k
  · rw [show R1.zero = 0 from rfl, scan_get _ _ _ _ _ hk hj]; exact shortB_all h j
  · rw [show R1.zero = 0 from rfl, List.getD_eq_getElem?_getD, List.getElem?_eq_none (by rw [scan_len _ _ _ hk]; omega)]
    exact Nat.lt_trans Nat.zero_lt_one big_one
end Go.Proofs.YtcgejdlfiemjaaaDoor
end
