/- The walk of At. -/
import Derived.Test.YtemgfhdgpkmmaaaDoorLB
import Derived.Test.YtemgfhdgpkmmaaaDoorLC
import Derived.Test.YtemgfhdgpkmmaaaDoorNs
set_option linter.unusedSimpArgs false
set_option linter.unusedVariables false
open Go Go.RowKit Cs
namespace Go.Proofs.YtemgfhdgpkmmaaaDoor
theorem natSub_any (w : World) (a b : Nat) (ha : n8 a ≤ 1000000) (hb : n8 b ≤ 1000000) (B : Bool) (hB : decide (b ≤ a) = B) :
    Calls Tryd.prog 55 #[natV a, natV b] w fun e w' => e = .returned (.tuple #[natV (if B then a - b else 0), .bool B]) ∧ Below w.heap.size w w' := by
  cases B
  · exact sub_lt w a b ha hb (by have := of_decide_eq_false hB; omega)
  · exact sub_ge w a b ha hb (of_decide_eq_true hB)
/-- What At returns. -/
def atR (N : Nt) (k : Nat) : Value := if rerr N 0 = 0 then skV (atN N k) 0 else skV ⟨0, false⟩ (rerr N 0)
/-- The boxes of At: the net, the place, the result, the set. -/
structure AtR (w : World) (N : Nt) (A : Option Addr) (c k a : Nat) (wr : World) : Prop where
  n : wr.rowIs w.heap.size 24 2 (ntF N A c)
  k : wr.rowIs (w.heap.size + 1) 43 1 (fun _ => .string (natB k))
  r : wr.rowIs (w.heap.size + 1 + 1) 27 2 (setF 0)
  a : wr.rowIs (w.heap.size + 1 + 1 + 1) 27 2 (setF a)
  bl : Below w.heap.size w wr
section
variable {w wr w' : World} {N : Nt} {A : Option Addr} {c k a g q : Nat}
theorem AtR.below (h : AtR w N A c k a wr) (hb : Below wr.heap.size wr w') : AtR w N A c k a w' := ⟨rowBelow h.n hb, rowBelow h.k hb, rowBelow h.r hb, rowBelow h.a hb, Cs.Below.trans' h.bl hb h.bl.size⟩
theorem AtR.drew (h : AtR w N A c k a wr) : AtR w N A c k a wr.drew := h.below (belowDrewN (Below.refl _ _) 1)
theorem AtR.alloc (h : AtR w N A c k a wr) (o : Obj) : AtR w N A c k a (wr.alloc o) := h.below ((Below.refl _ _).alloc (Nat.le_refl _) _)
theorem AtR.other (h : AtR w N A c k a wr) {B : Nat} (hB : w.heap.size + 1 + 1 + 1 < B) (i : Nat) (v : Value) : AtR w N A c k a (wr.setCell ⟨B, i, none⟩ v) :=
  ⟨h.n.setOther (by simp <;> omega) _, h.k.setOther (by simp <;> omega) _, h.r.setOther (by simp <;> omega) _, h.a.setOther (by simp <;> omega) _, h.bl.setCell (by simp <;> omega) _⟩
theorem AtR.put (h : AtR w N A c k a wr) (U T : Nat) : AtR w N A c T U (((wr.setCell ⟨w.heap.size + 1 + 1 + 1, 0, none⟩ (.int .u64 (lo U : Int))).setCell ⟨w.heap.size + 1 + 1 + 1, 1, none⟩ (.int .u64 (hi U : Int))).setCell ⟨w.heap.size + 1, 0, none⟩ (.string (natB T))) :=
  ⟨((h.n.setOther (by simp <;> omega) _).setOther (by simp <;> omega) _).setOther (by simp <;> omega) _, boxSet ((h.k.setOther (by simp <;> omega) _).setOther (by simp <;> omega) _) _, ((h.r.setOther (by simp <;> omega) _).setOther (by simp <;> omega) _).setOther (by simp <;> omega) _, (setPut h.a U).setOther (by simp <;> omega) _, ((h.bl.setCell (by simp <;> omega) _).setCell (by simp <;> omega) _).setCell (by simp <;> omega) _⟩
theorem LsAt.other (h : LsAt wr N A c g q) {B : Nat} (h1 : g ≠ B) (h2 : q ≠ B) (i : Nat) (v : Value) : LsAt (wr.setCell ⟨B, i, none⟩ v) N A c g q := ⟨h.row.setOther h1 _, h.sets.setOther h2 _⟩
theorem LsAt.drew (h : LsAt wr N A c g q) : LsAt wr.drew N A c g q := h.below (belowDrewN (Below.refl _ _) 1)
theorem ne1 {a B : Nat} (h : a + 1 + 1 + 1 < B) : B ≠ a + 1 := by omega
theorem AtR.cells (h : AtR w N A c k a wr) : wr.cell? ⟨w.heap.size, 0, none⟩ = some (.int .i64 N.n) ∧ wr.cell? ⟨w.heap.size, 1, none⟩ = some (.slice A N.l.length c) ∧ wr.cell? ⟨w.heap.size + 1, 0, none⟩ = some (.string (natB k)) ∧ wr.cell? ⟨w.heap.size + 1 + 1, 0, none⟩ = some (.int .u64 (lo 0 : Int)) ∧ wr.cell? ⟨w.heap.size + 1 + 1, 1, none⟩ = some (.int .u64 (hi 0 : Int)) ∧
    wr.cell? ⟨w.heap.size + 1 + 1 + 1, 0, none⟩ = some (.int .u64 (lo a : Int)) ∧ wr.cell? ⟨w.heap.size + 1 + 1 + 1, 1, none⟩ = some (.int .u64 (hi a : Int)) ∧
    wr.frozen? ⟨w.heap.size + 1, 0, none⟩ = false ∧ wr.frozen? ⟨w.heap.size + 1 + 1, 0, none⟩ = false ∧ wr.frozen? ⟨w.heap.size + 1 + 1, 1, none⟩ = false ∧ wr.frozen? ⟨w.heap.size + 1 + 1 + 1, 0, none⟩ = false ∧ wr.frozen? ⟨w.heap.size + 1 + 1 + 1, 1, none⟩ = false :=
  ⟨(ntCells h.n).1, (ntCells h.n).2, boxCell h.k, (setCells h.r).1, (setCells h.r).2.1, (cellsOf h.a).1, (cellsOf h.a).2, h.k.frozen 0, h.r.frozen 0, h.r.frozen 1, h.a.frozen 0, h.a.frozen 1⟩
end
set_option maxRecDepth 100000 in
set_option maxHeartbeats 2000000 in
theorem at_any (w : World) (N : Nt) (A : Option Addr) (c k : Nat) (hlen : N.l.length ≤ 140737488355328) (hN : NtAt w w.heap.size A N.l) (hk : n8 k ≤ 1000000) (hT : Tab w) :
    Calls Tryd.prog 23 #[ntV N A c, natV k] w fun e w' => e = .returned (atR N k) ∧ Below w.heap.size w w' := by
  have ha : IsSet 0 := isSet_zero
  have hq : AtR w N A c k 0 ((((w.alloc (.cells #[.int .i64 N.n, .slice A N.l.length c] 24)).alloc (.cells #[.string (natB k)] 43)).alloc (.cells #[.int .u64 0, .int .u64 0] 27)).alloc (.cells #[.int .u64 0, .int .u64 0] 27)) :=
    ⟨(((ntNew w N A c _ _ rfl).alloc _).alloc _).alloc _, ((boxNew _ _ _ _ (by simp)).alloc _).alloc _, (setZero _ _ _ (by simp)).alloc _, setZero _ _ _ (by simp), ((((Below.refl _ _).alloc (Nat.le_refl _) _).alloc (by simp) _).alloc (by simp; omega) _).alloc (by simp; omega) _⟩
  by_cases he : lerr N 0 = 0
  · obtain ⟨hv, _, hd⟩ := lerr_zero he
    have hnl := fun W (hb : Below w.heap.size w W) => newLister_fine W N A c 0 hlen ((hN.below hb).more hb.size) ha he
    have hck := fun W (hb : Below w.heap.size w W) => countCheck_any W N A c hlen ((hN.below hb).more hb.size) (hT.below hb)
    have hr0 : rerr N 0 = cchk N := by unfold rerr; rw [if_pos he]
    have HNL := Lib.hid hnl
    by_cases hc : cchk N = 0
    · have hsh := cchk_zero hc
      obtain ⟨hn0, hn1, _, _⟩ := vld_bounds hv
      have hrk : atR N k = skV (atN N k) 0 := by unfold atR; rw [hr0, if_pos hc]
      rw [hc] at hck
      rw [hrk]
      have hco := fun W g q (hb : Below w.heap.size w W) (hl : LsAt W N A c g q) (b f : Nat) => lcount_any W N A c g q b f hl ((hN.below hb).more hb.size) hv hsh
      have hcl := fun b f => n8_big _ (Nat.lt_of_lt_of_le (cf_lt hsh b f) (Nat.mul_le_mul_left big (Nat.pow_le_pow_right (show 0 < 2 by decide) (show 128 ≤ 200 by decide))))
      have hat : atN N k = if cfN N 0 0 ≤ k then ⟨0, false⟩ else ⟨(atTo N k N.n.toNat).1, true⟩ := rfl
      have hto : ∀ m, atTo N k (m + 1) = atStep N (atTo N k m) ((m : Int) + 1) := fun m => rfl
      have hle : ∀ m, (atTo N k m).2 ≤ k := by
        intro m
        induction m with
        | zero => exact Nat.le_refl _
        | succ m ih =>
          rw [hto]; unfold atStep; split
          · simp only; omega
          · exact ih
      have hcm := fun W => cmp_any W k (cfN N 0 0) (by omega) (Nat.le_trans (hcl 0 0) (by decide))
      have hc0 : ∀ W g q (hb : Below w.heap.size w W) (hl : LsAt W N A c g q), Calls Tryd.prog 51 #[.pointer (some ⟨g, 0, none⟩), setV 0, setV 0] W fun e w' => e = .returned (natV (cfN N 0 0)) ∧ Below W.heap.size W w' := fun W g q hb hl => hco W g q hb hl 0 0
      obtain ⟨Q, hQ⟩ : ∃ Q, atN N k = Q := ⟨_, rfl⟩
      rw [hQ] at hat ⊢
      obtain ⟨X, hX⟩ : ∃ X, cfN N 0 0 = X := ⟨_, rfl⟩
      rw [hX] at hat
      simp only [hX] at hcm hc0
      have HCK := Lib.hid hck
      have HCO := Lib.hid hco
      have HC0 := Lib.hid hc0
      have HCL := Lib.hid hcl
      have HTO := Lib.hid hto
      have HLE := Lib.hid hle
      have hsign : (X ≤ k ∧ ¬ cmpN k X < 0) ∨ (¬ X ≤ k ∧ cmpN k X < 0) := by unfold cmpN; split <;> (try split) <;> omega
      obtain ⟨M, hM⟩ : ∃ M, cmpN k X = M := ⟨_, rfl⟩
      simp only [hM] at hcm
      rw [hM] at hsign
      have HCM := Lib.hid hcm
      clear hnl hck hr0 hrk hco hcl hto hle hcm hc0 hX hM hQ hc he hd hv hsh ha
      have hmm : M = cmpN k X → True := fun _ => trivial
      clear hmm
      rcases hsign with ⟨hXk, hM0⟩ | ⟨hXk, hM0⟩
      · rw [if_pos hXk] at hat
        subst hat
        have hM1 : 0 ≤ M := by omega
        clear hXk
        go_enter Tryd.func23, Tryd.ntmps23
        obtain ⟨c1, c2, c3, c4, c5, c6, c7, f1, f2, f3, f4, f5⟩ := hq.cells
        go_wp2_with (first
          | (go_at_call 37; (with_reducible refine (HNL.out _ hq.bl).mono ?_); rintro e w5 ⟨g, q, rfl, hg, hq2, hls, hb5⟩; replace hq := hq.below hb5; obtain ⟨c1, c2, c3, c4, c5, c6, c7, f1, f2, f3, f4, f5⟩ := hq.cells; have HG := Lib.hid (And.intro hg hq2))
          | (go_at_call 49; (with_reducible refine (HCK.out _ hq.bl).mono ?_); rintro e w6 ⟨rfl, hb6⟩; replace hq := hq.below hb6; replace hls := hls.below hb6; obtain ⟨c1, c2, c3, c4, c5, c6, c7, f1, f2, f3, f4, f5⟩ := hq.cells))
        have HG2 := HG.out
        simp only [World.size_alloc] at HG2
        clear HG
        have HG := Lib.hid HG2
        clear HG2
        replace hq := hq.drew
        replace hls := hls.below (belowDrewN (Below.refl _ _) 1)
        change LsAt (World.drew _) N A c g q at hls
        obtain ⟨c1, c2, c3, c4, c5, c6, c7, f1, f2, f3, f4, f5⟩ := hq.cells
        refine wp_region_heldE (fun w' => w'.cell? ⟨w.heap.size + 1, 0, none⟩ = some (Value.string (natB k)) ∧ w'.cell? ⟨w.heap.size + 1 + 1 + 1, 0, none⟩ = some (Value.int .u64 (lo 0 : Int)) ∧ w'.cell? ⟨w.heap.size + 1 + 1 + 1, 1, none⟩ = some (Value.int .u64 (hi 0 : Int))) 10 (by kernel_rfl) ⟨c3, c6, c7⟩ (fun hS => ?_)
        refine wpAnyE_take (i := 0) (v := ?_) hS (by kernel_rfl) rfl (by kernel_rfl) (by kernel_rfl) (fun _ _ _ h => h) (Or.inl ⟨by rfl, ?_⟩) ?_
        rotate_left
        · (intro w hSw; go_simp; try with_reducible rfl)
        try simp only [Act.put, List.getElem_toArray, List.getElem_cons_succ, List.getElem_cons_zero, List.setIfInBounds_toArray, List.set_cons_zero, List.set_cons_succ]
        refine wpAnyE_take (i := 1) (v := ?_) hS (by kernel_rfl) rfl (by kernel_rfl) (by kernel_rfl) (fun _ _ _ h => h) (Or.inl ⟨by rfl, ?_⟩) ?_
        rotate_left
        · (intro w hSw; go_simp; try with_reducible rfl)
        try simp only [Act.put, List.getElem_toArray, List.getElem_cons_succ, List.getElem_cons_zero, List.setIfInBounds_toArray, List.set_cons_zero, List.set_cons_succ]
        refine wpAnyE_take (i := 2) (v := ?_) hS (by kernel_rfl) rfl (by kernel_rfl) (by kernel_rfl) (fun _ _ _ h => h) (Or.inl ⟨by rfl, ?_⟩) ?_
        rotate_left
        · (intro w hSw; go_simp; try with_reducible rfl)
        try simp only [Act.put, List.getElem_toArray, List.getElem_cons_succ, List.getElem_cons_zero, List.setIfInBounds_toArray, List.set_cons_zero, List.set_cons_succ]
        refine wpAnyE_take (i := 3) (v := ?_) hS (by kernel_rfl) rfl (by kernel_rfl) (by kernel_rfl) (fun _ _ _ h => h) (Or.inl ⟨by rfl, ?_⟩) ?_
        rotate_left
        · (intro w hSw; go_simp; try with_reducible rfl)
        try simp only [Act.put, List.getElem_toArray, List.getElem_cons_succ, List.getElem_cons_zero, List.setIfInBounds_toArray, List.set_cons_zero, List.set_cons_succ]
        refine wpAnyE_take (i := 4) (v := ?_) hS (by kernel_rfl) rfl (by kernel_rfl) (by kernel_rfl) (fun _ _ _ h => h) (Or.inl ⟨by rfl, ?_⟩) ?_
        rotate_left
        · (intro w hSw; go_simp; try with_reducible rfl)
        try simp only [Act.put, List.getElem_toArray, List.getElem_cons_succ, List.getElem_cons_zero, List.setIfInBounds_toArray, List.set_cons_zero, List.set_cons_succ]
        refine wpAnyE_take (i := 5) (v := ?_) hS (by kernel_rfl) rfl (by kernel_rfl) (by kernel_rfl) (fun _ _ _ h => h) (Or.inl ⟨by rfl, ?_⟩) ?_
        rotate_left
        · (intro w hSw; go_simp; try with_reducible rfl)
        try simp only [Act.put, List.getElem_toArray, List.getElem_cons_succ, List.getElem_cons_zero, List.setIfInBounds_toArray, List.set_cons_zero, List.set_cons_succ]
        refine wpAnyE_take (i := 6) (v := ?_) hS (by kernel_rfl) rfl (by kernel_rfl) (by kernel_rfl) (fun _ _ _ h => h) (Or.inl ⟨by rfl, ?_⟩) ?_
        rotate_left
        · (intro w hSw; go_simp; try with_reducible rfl)
        try simp only [Act.put, List.getElem_toArray, List.getElem_cons_succ, List.getElem_cons_zero, List.setIfInBounds_toArray, List.set_cons_zero, List.set_cons_succ]
        refine wpAnyE_one 7 (by kernel_rfl) rfl (fun K hK => ?_)
        go_simp
        go_at_call 51
        (with_reducible refine (HC0.out _ g q hq.bl hls).mono ?_)
        rintro e w7 ⟨rfl, hb7⟩
        replace hq := hq.below hb7
        replace hls := hls.below hb7
        obtain ⟨c1, c2, c3, c4, c5, c6, c7, f1, f2, f3, f4, f5⟩ := hq.cells
        refine hK.out _ _ (fun _ => ⟨c3, c6, c7⟩) (fun hS => ?_)
        replace hS := hS (by decide)
        clear hK K
        try simp only [Act.put, List.getElem_toArray, List.getElem_cons_succ, List.getElem_cons_zero, List.setIfInBounds_toArray, List.set_cons_zero, List.set_cons_succ]
        refine wpAnyE_one 8 (by kernel_rfl) rfl (fun K hK => ?_)
        go_simp
        go_at_call 54
        (with_reducible refine (HCM.out _).mono ?_)
        rintro e w7 ⟨rfl, hb7⟩
        replace hq := hq.below hb7
        replace hls := hls.below hb7
        obtain ⟨c1, c2, c3, c4, c5, c6, c7, f1, f2, f3, f4, f5⟩ := hq.cells
        refine hK.out _ _ (fun _ => ⟨c3, c6, c7⟩) (fun hS => ?_)
        replace hS := hS (by decide)
        clear hK K
        try simp only [Act.put, List.getElem_toArray, List.getElem_cons_succ, List.getElem_cons_zero, List.setIfInBounds_toArray, List.set_cons_zero, List.set_cons_succ]
        refine wpAnyE_take (i := 9) (v := ?_) hS (by kernel_rfl) rfl (by kernel_rfl) (by kernel_rfl) (fun _ _ _ h => h) (Or.inl ⟨by rfl, ?_⟩) ?_
        rotate_left
        · (intro w hSw; go_simp; try with_reducible rfl)
        try simp only [Act.put, List.getElem_toArray, List.getElem_cons_succ, List.getElem_cons_zero, List.setIfInBounds_toArray, List.set_cons_zero, List.set_cons_succ]
        refine wpAnyE_one 10 (by kernel_rfl) rfl (fun K hK => ?_)
        go_simp
        refine hK.out _ _ (fun h => absurd rfl h) (fun _ => ?_)
        clear hK K
        refine wpAnyE_done (by kernel_rfl) ?_ _
        go_wp2
        exact ret_set3 rfl 0 rfl rfl rfl (setPut hq.r _) rfl rfl rfl ⟨rfl, (hq.bl.setCell (by simp <;> omega) _).setCell (by simp <;> omega) _⟩
      · rw [if_neg hXk] at hat
        obtain ⟨n, hn⟩ : ∃ n : Nat, N.n = (n : Int) := ⟨N.n.toNat, by omega⟩
        have hnt : N.n.toNat = n := by omega
        rw [hnt] at hat
        have HAT := Lib.hid hat
        have HNN := Lib.hid hn
        clear hat hXk hnt hn
        go_enter Tryd.func23, Tryd.ntmps23
        obtain ⟨c1, c2, c3, c4, c5, c6, c7, f1, f2, f3, f4, f5⟩ := hq.cells
        go_wp2_with (first
          | (go_at_call 37; (with_reducible refine (HNL.out _ hq.bl).mono ?_); rintro e w5 ⟨g, q, rfl, hg, hq2, hls, hb5⟩; replace hq := hq.below hb5; obtain ⟨c1, c2, c3, c4, c5, c6, c7, f1, f2, f3, f4, f5⟩ := hq.cells; have HG := Lib.hid (And.intro hg hq2))
          | (go_at_call 49; (with_reducible refine (HCK.out _ hq.bl).mono ?_); rintro e w6 ⟨rfl, hb6⟩; replace hq := hq.below hb6; replace hls := hls.below hb6; obtain ⟨c1, c2, c3, c4, c5, c6, c7, f1, f2, f3, f4, f5⟩ := hq.cells))
        have HG2 := HG.out
        simp only [World.size_alloc] at HG2
        clear HG
        have HG := Lib.hid HG2
        clear HG2
        replace hq := hq.drew
        replace hls := hls.below (belowDrewN (Below.refl _ _) 1)
        change LsAt (World.drew _) N A c g q at hls
        obtain ⟨c1, c2, c3, c4, c5, c6, c7, f1, f2, f3, f4, f5⟩ := hq.cells
        refine wp_region_heldE (fun w' => w'.cell? ⟨w.heap.size + 1, 0, none⟩ = some (Value.string (natB k)) ∧ w'.cell? ⟨w.heap.size + 1 + 1 + 1, 0, none⟩ = some (Value.int .u64 (lo 0 : Int)) ∧ w'.cell? ⟨w.heap.size + 1 + 1 + 1, 1, none⟩ = some (Value.int .u64 (hi 0 : Int))) 10 (by kernel_rfl) ⟨c3, c6, c7⟩ (fun hS => ?_)
        refine wpAnyE_take (i := 0) (v := ?_) hS (by kernel_rfl) rfl (by kernel_rfl) (by kernel_rfl) (fun _ _ _ h => h) (Or.inl ⟨by rfl, ?_⟩) ?_
        rotate_left
        · (intro w hSw; go_simp; try with_reducible rfl)
        try simp only [Act.put, List.getElem_toArray, List.getElem_cons_succ, List.getElem_cons_zero, List.setIfInBounds_toArray, List.set_cons_zero, List.set_cons_succ]
        refine wpAnyE_take (i := 1) (v := ?_) hS (by kernel_rfl) rfl (by kernel_rfl) (by kernel_rfl) (fun _ _ _ h => h) (Or.inl ⟨by rfl, ?_⟩) ?_
        rotate_left
        · (intro w hSw; go_simp; try with_reducible rfl)
        try simp only [Act.put, List.getElem_toArray, List.getElem_cons_succ, List.getElem_cons_zero, List.setIfInBounds_toArray, List.set_cons_zero, List.set_cons_succ]
        refine wpAnyE_take (i := 2) (v := ?_) hS (by kernel_rfl) rfl (by kernel_rfl) (by kernel_rfl) (fun _ _ _ h => h) (Or.inl ⟨by rfl, ?_⟩) ?_
        rotate_left
        · (intro w hSw; go_simp; try with_reducible rfl)
        try simp only [Act.put, List.getElem_toArray, List.getElem_cons_succ, List.getElem_cons_zero, List.setIfInBounds_toArray, List.set_cons_zero, List.set_cons_succ]
        refine wpAnyE_take (i := 3) (v := ?_) hS (by kernel_rfl) rfl (by kernel_rfl) (by kernel_rfl) (fun _ _ _ h => h) (Or.inl ⟨by rfl, ?_⟩) ?_
        rotate_left
        · (intro w hSw; go_simp; try with_reducible rfl)
        try simp only [Act.put, List.getElem_toArray, List.getElem_cons_succ, List.getElem_cons_zero, List.setIfInBounds_toArray, List.set_cons_zero, List.set_cons_succ]
        refine wpAnyE_take (i := 4) (v := ?_) hS (by kernel_rfl) rfl (by kernel_rfl) (by kernel_rfl) (fun _ _ _ h => h) (Or.inl ⟨by rfl, ?_⟩) ?_
        rotate_left
        · (intro w hSw; go_simp; try with_reducible rfl)
        try simp only [Act.put, List.getElem_toArray, List.getElem_cons_succ, List.getElem_cons_zero, List.setIfInBounds_toArray, List.set_cons_zero, List.set_cons_succ]
        refine wpAnyE_take (i := 5) (v := ?_) hS (by kernel_rfl) rfl (by kernel_rfl) (by kernel_rfl) (fun _ _ _ h => h) (Or.inl ⟨by rfl, ?_⟩) ?_
        rotate_left
        · (intro w hSw; go_simp; try with_reducible rfl)
        try simp only [Act.put, List.getElem_toArray, List.getElem_cons_succ, List.getElem_cons_zero, List.setIfInBounds_toArray, List.set_cons_zero, List.set_cons_succ]
        refine wpAnyE_take (i := 6) (v := ?_) hS (by kernel_rfl) rfl (by kernel_rfl) (by kernel_rfl) (fun _ _ _ h => h) (Or.inl ⟨by rfl, ?_⟩) ?_
        rotate_left
        · (intro w hSw; go_simp; try with_reducible rfl)
        try simp only [Act.put, List.getElem_toArray, List.getElem_cons_succ, List.getElem_cons_zero, List.setIfInBounds_toArray, List.set_cons_zero, List.set_cons_succ]
        refine wpAnyE_one 7 (by kernel_rfl) rfl (fun K hK => ?_)
        go_simp
        go_at_call 51
        (with_reducible refine (HC0.out _ g q hq.bl hls).mono ?_)
        rintro e w7 ⟨rfl, hb7⟩
        replace hq := hq.below hb7
        replace hls := hls.below hb7
        obtain ⟨c1, c2, c3, c4, c5, c6, c7, f1, f2, f3, f4, f5⟩ := hq.cells
        refine hK.out _ _ (fun _ => ⟨c3, c6, c7⟩) (fun hS => ?_)
        replace hS := hS (by decide)
        clear hK K
        try simp only [Act.put, List.getElem_toArray, List.getElem_cons_succ, List.getElem_cons_zero, List.setIfInBounds_toArray, List.set_cons_zero, List.set_cons_succ]
        refine wpAnyE_one 8 (by kernel_rfl) rfl (fun K hK => ?_)
        go_simp
        go_at_call 54
        (with_reducible refine (HCM.out _).mono ?_)
        rintro e w7 ⟨rfl, hb7⟩
        replace hq := hq.below hb7
        replace hls := hls.below hb7
        obtain ⟨c1, c2, c3, c4, c5, c6, c7, f1, f2, f3, f4, f5⟩ := hq.cells
        refine hK.out _ _ (fun _ => ⟨c3, c6, c7⟩) (fun hS => ?_)
        replace hS := hS (by decide)
        clear hK K
        try simp only [Act.put, List.getElem_toArray, List.getElem_cons_succ, List.getElem_cons_zero, List.setIfInBounds_toArray, List.set_cons_zero, List.set_cons_succ]
        refine wpAnyE_take (i := 9) (v := ?_) hS (by kernel_rfl) rfl (by kernel_rfl) (by kernel_rfl) (fun _ _ _ h => h) (Or.inl ⟨by rfl, ?_⟩) ?_
        rotate_left
        · (intro w hSw; go_simp; try with_reducible rfl)
        try simp only [Act.put, List.getElem_toArray, List.getElem_cons_succ, List.getElem_cons_zero, List.setIfInBounds_toArray, List.set_cons_zero, List.set_cons_succ]
        refine wpAnyE_one 10 (by kernel_rfl) rfl (fun K hK => ?_)
        go_simp
        refine hK.out _ _ (fun h => absurd rfl h) (fun _ => ?_)
        clear hK K
        refine wpAnyE_done (by kernel_rfl) ?_ _
        go_wp2
        have hls0 := Lib.hid hls
        have hq0 := Lib.hid hq
        obtain ⟨gw, hgw⟩ : ∃ gw, gw = g ∧ w.heap.size + 1 + 1 + 1 < g ∧ w.heap.size + 1 + 1 + 1 < q := ⟨g, rfl, by have := HG.out; omega, by have := HG.out; omega⟩
        have HGW := Lib.hid hgw.2
        clear hgw c1 c2 c3 c4 c5 c6 c7 f1 f2 f3 f4 f5
        go_loopw [10] (fun t wr => ∃ m : Nat, m ≤ n ∧ t = .int .i64 ((m : Int) + 1) ∧ AtR w N A c (atTo N k m).2 (atTo N k m).1 wr ∧ LsAt wr N A c g q) (fun t _ => n + 1 - (intOf t).toNat)
        case atStart => exact ⟨0, by omega, rfl, hq0.out, hls0.out⟩
        case round =>
          clear hq0 hls0 hq hls
          obtain ⟨m, hm, rfl, hE, hls⟩ := hrel
          obtain ⟨c1, c2, c3, c4, c5, c6, c7, f1, f2, f3, f4, f5⟩ := hE.cells
          by_cases hlt : m < n
          · have hl1 : (m : Int) + 1 ≤ N.n := by rw [HNN.out]; omega
            have hft := HTO.out m
            have hrk := HLE.out m
            obtain ⟨p, hp⟩ : ∃ p, atTo N k m = p := ⟨_, rfl⟩
            rw [hp] at hft hrk
            simp only [hp] at hE c3 c6 c7
            obtain ⟨b, r⟩ := p
            simp only at hE c3 c6 c7 hrk
            unfold atStep at hft
            simp only at hft
            obtain ⟨V, hV⟩ : ∃ V, allTo ((m : Int) + 1) = V := ⟨_, rfl⟩
            have hal := fun W => all_any W ((m : Int) + 1)
            simp only [hV] at hal
            rw [hV] at hft
            have hco := fun W hb hl => HCO.out W g q hb hl b V
            have hcl := Nat.le_trans (HCL.out b V) (show 1000 ≤ 1000000 by decide)
            obtain ⟨C, hC⟩ : ∃ C, cfN N b V = C := ⟨_, rfl⟩
            simp only [hC] at hco hft
            rw [hC] at hcl
            have hr8 : n8 r ≤ 1000000 := Nat.le_trans (n8_mono hrk) hk
            obtain ⟨D, hD⟩ : ∃ D, decide (C ≤ r) = D := ⟨_, rfl⟩
            have hsu := fun W => natSub_any W r C hr8 hcl D hD
            obtain ⟨T, hTT⟩ : ∃ T, (if D then r - C else 0) = T := ⟨_, rfl⟩
            simp only [hTT] at hsu
            have hwi := fun W => with_any W b ((m : Int) + 1)
            obtain ⟨U, hU⟩ : ∃ U, wth b ((m : Int) + 1) = U := ⟨_, rfl⟩
            simp only [hU] at hwi
            rw [hU] at hft
            have hft2 : atTo N k (m + 1) = if D then (U, T) else (b, r) := by
              rw [hft, ← hTT]
              by_cases h : C ≤ r
              · rw [if_pos h, ← hD, decide_eq_true h]; rfl
              · rw [if_neg h, ← hD, decide_eq_false h]; rfl
            have HAL := Lib.hid hal
            have HC1 := Lib.hid hco
            have HSU := Lib.hid hsu
            have HWI := Lib.hid hwi
            have HFT := Lib.hid hft2
            have hwv : IntKind.i64.wrap ((m : Int) + 1 + 1) = (m : Int) + 1 + 1 := by rw [IntKind.wrap_i64]; omega
            have hz3 := hE.a.lt
            clear hft hft2 hal hco hcl hr8 hD hsu hTT hwi hU hV hC hp hrk
            go_wp2_with fail
            go_cut [11, 12] from 36 to 56 (fun p d wx => ∃ gs, p = .pointer (some ⟨gs, 0, none⟩) ∧ d = .bool D ∧ wx.rowIs gs 43 1 (fun _ => .string (natB T)) ∧ AtR w N A c r b wx ∧ LsAt wx N A c g q ∧ w.heap.size + 1 + 1 + 1 < gs)
            case first =>
              have q1 := hE.drew
              have hl2 := hls.below (belowDrewN (Below.refl _ _) 1)
              change LsAt wr.drew N A c g q at hl2
              have hz := (boxNew wr (.string ⟨#[]⟩) 43 wr.heap.size rfl).drew
              have M1 : Hid (wr.heap.size ≠ w.heap.size + 1) := Lib.hid (by omega)
              have M2 : Hid (wr.heap.size ≠ w.heap.size + 1 + 1 + 1) := Lib.hid (by omega)
              have hG0 := And.intro hls.row.lt hls.sets.lt
              obtain ⟨d1, d2, d3, d4, d5, d6, d7, y1, y2, y3, y4, y5⟩ := q1.cells
              go_region_held3 (fun w' => w'.cell? ⟨w.heap.size + 1, 0, none⟩ = some (.string (natB r)) ∧ w'.cell? ⟨w.heap.size + 1 + 1 + 1, 0, none⟩ = some (.int .u64 (lo b : Int)) ∧ w'.cell? ⟨w.heap.size + 1 + 1 + 1, 1, none⟩ = some (.int .u64 (hi b : Int)))
                (first | exact ⟨d3, d6, d7⟩ | exact ⟨(World.cell?_setCell_far _ _ _ _ N1.out).trans d3, (World.cell?_setCell_far _ _ _ _ N2.out).trans d6, (World.cell?_setCell_far _ _ _ _ N2.out).trans d7⟩ | go_keep)
                (first
                  | (go_simp
                     go_at_call 53
                     (with_reducible first | refine (HAL.out _).mono ?_)
                     rintro e w5 ⟨rfl, hb5⟩
                     first
                       | (replace q1 := q1.below hb5
                          replace hl2 := hl2.below hb5
                          try replace hz5 := rowBelow hz5 hb5)
                       | (have hz5 := rowBelow hz hb5
                          have N1 := M1
                          have N2 := M2
                          have hB5 := hz3
                          have hG5 := hG0
                          replace q1 := (hE.alloc _).drew.below hb5
                          replace hl2 := (hls.below ((Below.refl _ _).alloc (Nat.le_refl _) _)).drew.below hb5)
                       | (have hB5 := q1.a.lt
                          have hG5 := And.intro hl2.row.lt hl2.sets.lt
                          have hz5 := rowBelow (boxNew _ (.string ⟨#[]⟩) 43 _ rfl) hb5
                          have N1 := Lib.hid (ne1 hB5)
                          have N2 := Lib.hid (Nat.ne_of_gt hB5)
                          replace q1 := (q1.alloc _).below hb5
                          replace hl2 := (hl2.below ((Below.refl _ _).alloc (Nat.le_refl _) _)).below hb5)
                     obtain ⟨d1, d2, d3, d4, d5, d6, d7, y1, y2, y3, y4, y5⟩ := q1.cells
                     try have z2 := hz5.frozen 0
                     try have z1 := boxCell hz5)
                  | (go_simp
                     go_at_call 51
                     (with_reducible first | refine (HC1.out _ q1.bl hl2).mono ?_ | refine (HC1.out _ (hE.alloc _).drew.bl (hls.below ((Below.refl _ _).alloc (Nat.le_refl _) _)).drew).mono ?_ | refine (HC1.out _ (q1.alloc _).bl (hl2.below ((Below.refl _ _).alloc (Nat.le_refl _) _))).mono ?_)
                     rintro e w5 ⟨rfl, hb5⟩
                     first
                       | (replace q1 := q1.below hb5
                          replace hl2 := hl2.below hb5
                          try replace hz5 := rowBelow hz5 hb5)
                       | (have hz5 := rowBelow hz hb5
                          have N1 := M1
                          have N2 := M2
                          have hB5 := hz3
                          have hG5 := hG0
                          replace q1 := (hE.alloc _).drew.below hb5
                          replace hl2 := (hls.below ((Below.refl _ _).alloc (Nat.le_refl _) _)).drew.below hb5)
                       | (have hB5 := q1.a.lt
                          have hG5 := And.intro hl2.row.lt hl2.sets.lt
                          have hz5 := rowBelow (boxNew _ (.string ⟨#[]⟩) 43 _ rfl) hb5
                          have N1 := Lib.hid (ne1 hB5)
                          have N2 := Lib.hid (Nat.ne_of_gt hB5)
                          replace q1 := (q1.alloc _).below hb5
                          replace hl2 := (hl2.below ((Below.refl _ _).alloc (Nat.le_refl _) _)).below hb5)
                     obtain ⟨d1, d2, d3, d4, d5, d6, d7, y1, y2, y3, y4, y5⟩ := q1.cells
                     try have z2 := hz5.frozen 0
                     try have z1 := boxCell hz5)
                  | (go_simp
                     go_at_call 55
                     (with_reducible first | refine (HSU.out _).mono ?_)
                     rintro e w5 ⟨rfl, hb5⟩
                     first
                       | (replace q1 := q1.below hb5
                          replace hl2 := hl2.below hb5
                          try replace hz5 := rowBelow hz5 hb5)
                       | (have hz5 := rowBelow hz hb5
                          have N1 := M1
                          have N2 := M2
                          have hB5 := hz3
                          have hG5 := hG0
                          replace q1 := (hE.alloc _).drew.below hb5
                          replace hl2 := (hls.below ((Below.refl _ _).alloc (Nat.le_refl _) _)).drew.below hb5)
                       | (have hB5 := q1.a.lt
                          have hG5 := And.intro hl2.row.lt hl2.sets.lt
                          have hz5 := rowBelow (boxNew _ (.string ⟨#[]⟩) 43 _ rfl) hb5
                          have N1 := Lib.hid (ne1 hB5)
                          have N2 := Lib.hid (Nat.ne_of_gt hB5)
                          replace q1 := (q1.alloc _).below hb5
                          replace hl2 := (hl2.below ((Below.refl _ _).alloc (Nat.le_refl _) _)).below hb5)
                     obtain ⟨d1, d2, d3, d4, d5, d6, d7, y1, y2, y3, y4, y5⟩ := q1.cells
                     try have z2 := hz5.frozen 0
                     try have z1 := boxCell hz5))
              all_goals
                try go_wp2
                go_meet
                case rel =>
                  first
                    | exact ⟨_, rfl, rfl, boxNew _ _ _ _ rfl, q1.alloc _, hl2.below ((Below.refl _ _).alloc (Nat.le_refl _) _), q1.a.lt⟩
                    | exact ⟨_, rfl, rfl, boxSet hz5 _, q1.other hB5 _ _, hl2.other (Nat.ne_of_lt hG5.1) (Nat.ne_of_lt hG5.2) _ _, hB5⟩
            case rest =>
              obtain ⟨gs, rfl, rfl, hs, q1, hl2, hgs⟩ := hcut
              clear c1 c2 c3 c4 c5 c6 c7 f1 f2 f3 f4 f5 hE hls
              obtain ⟨c1, c2, c3, c4, c5, c6, c7, f1, f2, f3, f4, f5⟩ := q1.cells
              have hs1 := boxCell hs
              cases D
              · have hx := HFT.out.trans (if_neg (by decide))
                have HX := Lib.hid hx
                clear hx
                go_wp2
                go_roundw
                case rel => exact ⟨m + 1, by omega, by go_num, by rw [HX.out]; exact q1, hl2⟩
                case measure => simp [intOf]; omega
              · have hx := HFT.out.trans (if_pos rfl)
                have HX := Lib.hid hx
                clear hx
                go_wp2_with fail
                have HQ1 := Lib.hid q1
                replace q1 := q1.drew
                replace hl2 := hl2.drew
                replace hs := hs.drew
                first
                  | go_region_with ((go_simp; go_at_call 56; (with_reducible refine (HWI.out _).mono ?_); rintro e w5 ⟨rfl, hb5⟩; replace q1 := q1.below hb5; replace hl2 := hl2.below hb5; replace hs := rowBelow hs hb5; have hs1 := boxCell hs; obtain ⟨c1, c2, c3, c4, c5, c6, c7, f1, f2, f3, f4, f5⟩ := q1.cells))
                  | fail
                all_goals
                  try go_wp2
                  go_roundw
                  case rel => exact ⟨m + 1, by omega, by go_num, by rw [HX.out]; exact q1.put U T, ((hl2.other (by have := HGW.out; omega) (by have := HGW.out; omega) _ _).other (by have := HGW.out; omega) (by have := HGW.out; omega) _ _).other (by have := HGW.out; omega) (by have := HGW.out; omega) _ _⟩
                  case measure => simp [intOf]; omega
          · obtain rfl : m = n := by omega
            have hl1 : ¬ (m : Int) + 1 ≤ N.n := by rw [HNN.out]; omega
            have hat := HAT.out
            obtain ⟨Y, hY⟩ : ∃ Y, (atTo N k m).1 = Y := ⟨_, rfl⟩
            rw [hY] at hat
            simp only [hY] at hE c6 c7
            subst hat
            go_wp2
            exact ret_set3 rfl Y rfl rfl rfl (setPut hE.r _) rfl rfl rfl ⟨rfl, (hE.bl.setCell (by simp <;> omega) _).setCell (by simp <;> omega) _⟩
    · have hrk : atR N k = skV ⟨0, false⟩ (cchk N) := by unfold atR; rw [hr0, if_neg hc]
      rw [hrk]
      obtain ⟨E, hE⟩ : ∃ E, cchk N = E := ⟨_, rfl⟩
      simp only [hE] at hck
      rw [hE] at hc ⊢
      have hb : (E == 0) = false := beq_eq_false_iff_ne.2 hc
      have hb2 : (E != 0) = true := bne_iff_ne.2 hc
      have HCK := Lib.hid hck
      clear hnl hck hr0 hrk hE
      go_enter Tryd.func23, Tryd.ntmps23
      obtain ⟨c1, c2, c3, c4, c5, c6, c7, f1, f2, f3, f4, f5⟩ := hq.cells
      go_wp2_with (first
        | (go_at_call 37; (with_reducible refine (HNL.out _ hq.bl).mono ?_); rintro e w5 ⟨g, q, rfl, hg, hq2, hls, hb5⟩; replace hq := hq.below hb5; obtain ⟨c1, c2, c3, c4, c5, c6, c7, f1, f2, f3, f4, f5⟩ := hq.cells)
        | (go_at_call 49; (with_reducible refine (HCK.out _ hq.bl).mono ?_); rintro e w6 ⟨rfl, hb6⟩; replace hq := hq.below hb6; obtain ⟨c1, c2, c3, c4, c5, c6, c7, f1, f2, f3, f4, f5⟩ := hq.cells))
      replace hq := hq.drew
      obtain ⟨c1, c2, c3, c4, c5, c6, c7, f1, f2, f3, f4, f5⟩ := hq.cells
      refine wp_region_heldE (fun w' => w'.cell? ⟨w.heap.size + 1, 0, none⟩ = some (Value.string (natB k)) ∧ w'.cell? ⟨w.heap.size + 1 + 1 + 1, 0, none⟩ = some (Value.int .u64 (lo 0 : Int)) ∧ w'.cell? ⟨w.heap.size + 1 + 1 + 1, 1, none⟩ = some (Value.int .u64 (hi 0 : Int))) 10 (by kernel_rfl) ⟨c3, c6, c7⟩ (fun hS => ?_)
      refine wpAnyE_take (i := 0) (v := ?_) hS (by kernel_rfl) rfl (by kernel_rfl) (by kernel_rfl) (fun _ _ _ h => h) (Or.inl ⟨by rfl, ?_⟩) ?_
      rotate_left
      · (intro w hSw; go_simp; try with_reducible rfl)
      try simp only [Act.put, List.getElem_toArray, List.getElem_cons_succ, List.getElem_cons_zero, List.setIfInBounds_toArray, List.set_cons_zero, List.set_cons_succ]
      refine wpAnyE_take (i := 1) (v := ?_) hS (by kernel_rfl) rfl (by kernel_rfl) (by kernel_rfl) (fun _ _ _ h => h) (Or.inl ⟨by rfl, ?_⟩) ?_
      rotate_left
      · (intro w hSw; go_simp; try with_reducible rfl)
      try simp only [Act.put, List.getElem_toArray, List.getElem_cons_succ, List.getElem_cons_zero, List.setIfInBounds_toArray, List.set_cons_zero, List.set_cons_succ]
      refine wpAnyE_take (i := 2) (v := ?_) hS (by kernel_rfl) rfl (by kernel_rfl) (by kernel_rfl) (fun _ _ _ h => h) (Or.inl ⟨by rfl, ?_⟩) ?_
      rotate_left
      · (intro w hSw; go_simp; try with_reducible rfl)
      try simp only [Act.put, List.getElem_toArray, List.getElem_cons_succ, List.getElem_cons_zero, List.setIfInBounds_toArray, List.set_cons_zero, List.set_cons_succ]
      refine wpAnyE_take (i := 3) (v := undef) hS (by kernel_rfl) rfl (by kernel_rfl) (by kernel_rfl) (fun _ _ _ h => h) (Or.inr ⟨by rfl, rfl⟩) ?_
      simp only [Act.put, List.getElem_toArray, List.getElem_cons_succ, List.getElem_cons_zero, List.setIfInBounds_toArray, List.set_cons_zero, List.set_cons_succ]
      refine wpAnyE_take (i := 4) (v := undef) hS (by kernel_rfl) rfl (by kernel_rfl) (by kernel_rfl) (fun _ _ _ h => h) (Or.inr ⟨by rfl, rfl⟩) ?_
      simp only [Act.put, List.getElem_toArray, List.getElem_cons_succ, List.getElem_cons_zero, List.setIfInBounds_toArray, List.set_cons_zero, List.set_cons_succ]
      refine wpAnyE_take (i := 5) (v := undef) hS (by kernel_rfl) rfl (by kernel_rfl) (by kernel_rfl) (fun _ _ _ h => h) (Or.inr ⟨by rfl, rfl⟩) ?_
      simp only [Act.put, List.getElem_toArray, List.getElem_cons_succ, List.getElem_cons_zero, List.setIfInBounds_toArray, List.set_cons_zero, List.set_cons_succ]
      refine wpAnyE_take (i := 6) (v := undef) hS (by kernel_rfl) rfl (by kernel_rfl) (by kernel_rfl) (fun _ _ _ h => h) (Or.inr ⟨by rfl, rfl⟩) ?_
      simp only [Act.put, List.getElem_toArray, List.getElem_cons_succ, List.getElem_cons_zero, List.setIfInBounds_toArray, List.set_cons_zero, List.set_cons_succ]
      refine wpAnyE_take (i := 7) (v := undef) hS (by kernel_rfl) rfl (by kernel_rfl) (by kernel_rfl) (fun _ _ _ h => h) (Or.inr ⟨by rfl, rfl⟩) ?_
      simp only [Act.put, List.getElem_toArray, List.getElem_cons_succ, List.getElem_cons_zero, List.setIfInBounds_toArray, List.set_cons_zero, List.set_cons_succ]
      refine wpAnyE_take (i := 8) (v := undef) hS (by kernel_rfl) rfl (by kernel_rfl) (by kernel_rfl) (fun _ _ _ h => h) (Or.inr ⟨by rfl, rfl⟩) ?_
      simp only [Act.put, List.getElem_toArray, List.getElem_cons_succ, List.getElem_cons_zero, List.setIfInBounds_toArray, List.set_cons_zero, List.set_cons_succ]
      refine wpAnyE_take (i := 9) (v := undef) hS (by kernel_rfl) rfl (by kernel_rfl) (by kernel_rfl) (fun _ _ _ h => h) (Or.inr ⟨by rfl, rfl⟩) ?_
      simp only [Act.put, List.getElem_toArray, List.getElem_cons_succ, List.getElem_cons_zero, List.setIfInBounds_toArray, List.set_cons_zero, List.set_cons_succ]
      refine wpAnyE_one 10 (by kernel_rfl) rfl (fun K hK => ?_)
      go_simp
      refine hK.out _ _ (fun h => absurd rfl h) (fun _ => ?_)
      clear hK K
      refine wpAnyE_done (by kernel_rfl) ?_ _
      go_wp2
      exact ret_set3 rfl 0 rfl rfl rfl (setPut hq.r _) rfl rfl rfl ⟨rfl, (hq.bl.setCell (by simp <;> omega) _).setCell (by simp <;> omega) _⟩
  · have hnl := fun W (hb : Below w.heap.size w W) => newLister_err W N A c 0 hlen ((hN.below hb).more hb.size) ha he
    have hrk : atR N k = skV ⟨0, false⟩ (lerr N 0) := by
      have hr : rerr N 0 = lerr N 0 := by unfold rerr; rw [if_neg he]
      unfold atR; rw [hr, if_neg he]
    rw [hrk]
    obtain ⟨E, hE⟩ : ∃ E, lerr N 0 = E := ⟨_, rfl⟩
    simp only [hE] at hnl
    rw [hE] at he ⊢
    have hb : (E == 0) = false := beq_eq_false_iff_ne.2 he
    have hb2 : (E != 0) = true := bne_iff_ne.2 he
    have HNL := Lib.hid hnl
    clear hnl hrk hE
    go_enter Tryd.func23, Tryd.ntmps23
    obtain ⟨c1, c2, c3, c4, c5, c6, c7, f1, f2, f3, f4, f5⟩ := hq.cells
    go_wp2_with (go_at_call 37; (with_reducible refine (HNL.out _ hq.bl).mono ?_); rintro e w5 ⟨rfl, hb5⟩; replace hq := hq.below hb5; obtain ⟨c1, c2, c3, c4, c5, c6, c7, f1, f2, f3, f4, f5⟩ := hq.cells)
    replace hq := hq.drew
    obtain ⟨c1, c2, c3, c4, c5, c6, c7, f1, f2, f3, f4, f5⟩ := hq.cells
    refine wp_region_heldE (fun w' => w'.cell? ⟨w.heap.size + 1, 0, none⟩ = some (Value.string (natB k)) ∧ w'.cell? ⟨w.heap.size + 1 + 1 + 1, 0, none⟩ = some (Value.int .u64 (lo 0 : Int)) ∧ w'.cell? ⟨w.heap.size + 1 + 1 + 1, 1, none⟩ = some (Value.int .u64 (hi 0 : Int))) 10 (by kernel_rfl) ⟨c3, c6, c7⟩ (fun hS => ?_)
    refine wpAnyE_take (i := 0) (v := ?_) hS (by kernel_rfl) rfl (by kernel_rfl) (by kernel_rfl) (fun _ _ _ h => h) (Or.inl ⟨by rfl, ?_⟩) ?_
    rotate_left
    · (intro w hSw; go_simp; try with_reducible rfl)
    try simp only [Act.put, List.getElem_toArray, List.getElem_cons_succ, List.getElem_cons_zero, List.setIfInBounds_toArray, List.set_cons_zero, List.set_cons_succ]
    refine wpAnyE_take (i := 1) (v := ?_) hS (by kernel_rfl) rfl (by kernel_rfl) (by kernel_rfl) (fun _ _ _ h => h) (Or.inl ⟨by rfl, ?_⟩) ?_
    rotate_left
    · (intro w hSw; go_simp; try with_reducible rfl)
    try simp only [Act.put, List.getElem_toArray, List.getElem_cons_succ, List.getElem_cons_zero, List.setIfInBounds_toArray, List.set_cons_zero, List.set_cons_succ]
    refine wpAnyE_take (i := 2) (v := ?_) hS (by kernel_rfl) rfl (by kernel_rfl) (by kernel_rfl) (fun _ _ _ h => h) (Or.inl ⟨by rfl, ?_⟩) ?_
    rotate_left
    · (intro w hSw; go_simp; try with_reducible rfl)
    try simp only [Act.put, List.getElem_toArray, List.getElem_cons_succ, List.getElem_cons_zero, List.setIfInBounds_toArray, List.set_cons_zero, List.set_cons_succ]
    refine wpAnyE_take (i := 3) (v := undef) hS (by kernel_rfl) rfl (by kernel_rfl) (by kernel_rfl) (fun _ _ _ h => h) (Or.inr ⟨by rfl, rfl⟩) ?_
    simp only [Act.put, List.getElem_toArray, List.getElem_cons_succ, List.getElem_cons_zero, List.setIfInBounds_toArray, List.set_cons_zero, List.set_cons_succ]
    refine wpAnyE_take (i := 4) (v := undef) hS (by kernel_rfl) rfl (by kernel_rfl) (by kernel_rfl) (fun _ _ _ h => h) (Or.inr ⟨by rfl, rfl⟩) ?_
    simp only [Act.put, List.getElem_toArray, List.getElem_cons_succ, List.getElem_cons_zero, List.setIfInBounds_toArray, List.set_cons_zero, List.set_cons_succ]
    refine wpAnyE_take (i := 5) (v := undef) hS (by kernel_rfl) rfl (by kernel_rfl) (by kernel_rfl) (fun _ _ _ h => h) (Or.inr ⟨by rfl, rfl⟩) ?_
    simp only [Act.put, List.getElem_toArray, List.getElem_cons_succ, List.getElem_cons_zero, List.setIfInBounds_toArray, List.set_cons_zero, List.set_cons_succ]
    refine wpAnyE_take (i := 6) (v := undef) hS (by kernel_rfl) rfl (by kernel_rfl) (by kernel_rfl) (fun _ _ _ h => h) (Or.inr ⟨by rfl, rfl⟩) ?_
    simp only [Act.put, List.getElem_toArray, List.getElem_cons_succ, List.getElem_cons_zero, List.setIfInBounds_toArray, List.set_cons_zero, List.set_cons_succ]
    refine wpAnyE_take (i := 7) (v := undef) hS (by kernel_rfl) rfl (by kernel_rfl) (by kernel_rfl) (fun _ _ _ h => h) (Or.inr ⟨by rfl, rfl⟩) ?_
    simp only [Act.put, List.getElem_toArray, List.getElem_cons_succ, List.getElem_cons_zero, List.setIfInBounds_toArray, List.set_cons_zero, List.set_cons_succ]
    refine wpAnyE_take (i := 8) (v := undef) hS (by kernel_rfl) rfl (by kernel_rfl) (by kernel_rfl) (fun _ _ _ h => h) (Or.inr ⟨by rfl, rfl⟩) ?_
    simp only [Act.put, List.getElem_toArray, List.getElem_cons_succ, List.getElem_cons_zero, List.setIfInBounds_toArray, List.set_cons_zero, List.set_cons_succ]
    refine wpAnyE_take (i := 9) (v := undef) hS (by kernel_rfl) rfl (by kernel_rfl) (by kernel_rfl) (fun _ _ _ h => h) (Or.inr ⟨by rfl, rfl⟩) ?_
    simp only [Act.put, List.getElem_toArray, List.getElem_cons_succ, List.getElem_cons_zero, List.setIfInBounds_toArray, List.set_cons_zero, List.set_cons_succ]
    refine wpAnyE_one 10 (by kernel_rfl) rfl (fun K hK => ?_)
    go_simp
    refine hK.out _ _ (fun h => absurd rfl h) (fun _ => ?_)
    clear hK K
    refine wpAnyE_done (by kernel_rfl) ?_ _
    go_wp2
    exact ret_set3 rfl 0 rfl rfl rfl (setPut hq.r _) rfl rfl rfl ⟨rfl, (hq.bl.setCell (by simp <;> omega) _).setCell (by simp <;> omega) _⟩
end Go.Proofs.YtemgfhdgpkmmaaaDoor
