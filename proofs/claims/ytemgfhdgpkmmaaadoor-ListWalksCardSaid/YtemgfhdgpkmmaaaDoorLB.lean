/- The walk of Rank. -/
import Derived.Test.YtemgfhdgpkmmaaaDoorLA
import Derived.Test.YtemgfhdgpkmmaaaDoorL9
set_option linter.unusedSimpArgs false
set_option linter.unusedVariables false
open Go Go.RowKit Cs
namespace Cs
theorem cf_lt {N : Nt} (h : shortB N = true) (a f : Nat) : cfN N a f < big * 2 ^ 128 := by
  have e : cfN N a f = ((RW a f).all (own N.l) N.l).getD (N.l.length - 1) 0 * 2 ^ crd (minus (minus (allTo N.n) ((own N.l).getD (N.l.length - 1) 0)) f) := by
    unfold cfN Rg.sum
    rw [RW_gap]
  rw [e]
  exact Nat.lt_of_lt_of_le (Nat.mul_lt_mul_of_pos_right (RW_all h a f _) (Nat.two_pow_pos _)) (Nat.mul_le_mul_left _ (Nat.pow_le_pow_right (by decide) (crd_le _)))
theorem sum_lt (g : Int → Nat) (M : Nat) (h : ∀ v, g v ≤ M) : ∀ (xs : List Int) (s : Nat), xs.foldl (fun t v => t + g v) s ≤ s + xs.length * M
  | [], s => by simp
  | x :: xs, s => by
    have h1 := sum_lt g M h xs (s + g x)
    have h2 := h x
    rw [List.foldl_cons, List.length_cons, Nat.succ_mul]
    omega
theorem rank_part_lt {N : Nt} (h : shortB N = true) (a k : Nat) : ((vl a).take k).foldl (fun s v => s + cfN N (wout a v) (allTo v)) 0 < big * 2 ^ 200 := by
  have h1 := sum_lt (fun v => cfN N (wout a v) (allTo v)) (big * 2 ^ 128) (fun v => Nat.le_of_lt (cf_lt h _ _)) ((vl a).take k) 0
  have h2 : ((vl a).take k).length ≤ 128 := Nat.le_trans (by rw [List.length_take]; omega) (vl_length a)
  refine Nat.lt_of_le_of_lt h1 ?_
  rw [Nat.zero_add]
  refine Nat.lt_of_le_of_lt (Nat.mul_le_mul_right _ h2) ?_
  rw [Nat.mul_left_comm]
  refine Nat.mul_lt_mul_of_pos_left ?_ (Nat.lt_of_le_of_lt (Nat.zero_le _) big_one)
  rw [show (128 : Nat) = 2 ^ 7 by rfl, ← Nat.pow_add]
  exact Nat.pow_lt_pow_right (by decide) (by decide)
theorem cchk_zero {N : Nt} (h : cchk N = 0) : shortB N = true := by
  unfold cchk at h
  split at h
  · split at h
    · split at h
      · assumption
      · cases h
    · cases h
  · cases h
end Cs
namespace Go.Proofs.YtemgfhdgpkmmaaaDoor
/-- The error of Rank and At. -/
def rerr (N : Nt) (a : Nat) : Int := if lerr N a = 0 then cchk N else lerr N a
/-- What Rank returns. -/
def rkR (N : Nt) (a : Nat) : Value := if rerr N a = 0 then .tuple #[natV (rankN N a), .int .i64 0] else .tuple #[natV 0, .int .i64 (rerr N a)]
/-- The boxes of Rank: the net, the set, the result. -/
structure RaR (w : World) (N : Nt) (A : Option Addr) (c a : Nat) (wr : World) : Prop where
  n : wr.rowIs w.heap.size 24 2 (ntF N A c)
  a : wr.rowIs (w.heap.size + 1) 27 2 (setF a)
  r : wr.rowIs (w.heap.size + 1 + 1) 43 1 (fun _ => .string ⟨#[]⟩)
  bl : Below w.heap.size w wr
section
variable {w wr w' : World} {N : Nt} {A : Option Addr} {c a : Nat}
theorem RaR.below (h : RaR w N A c a wr) (hb : Below wr.heap.size wr w') : RaR w N A c a w' := ⟨rowBelow h.n hb, rowBelow h.a hb, rowBelow h.r hb, Cs.Below.trans' h.bl hb h.bl.size⟩
theorem RaR.cells (h : RaR w N A c a wr) : wr.cell? ⟨w.heap.size, 0, none⟩ = some (.int .i64 N.n) ∧ wr.cell? ⟨w.heap.size, 1, none⟩ = some (.slice A N.l.length c) ∧ wr.cell? ⟨w.heap.size + 1, 0, none⟩ = some (.int .u64 (lo a : Int)) ∧ wr.cell? ⟨w.heap.size + 1, 1, none⟩ = some (.int .u64 (hi a : Int)) ∧ wr.cell? ⟨w.heap.size + 1 + 1, 0, none⟩ = some (.string ⟨#[]⟩) ∧ wr.frozen? ⟨w.heap.size + 1 + 1, 0, none⟩ = false :=
  ⟨(ntCells h.n).1, (ntCells h.n).2, (cellsOf h.a).1, (cellsOf h.a).2, boxCell h.r, h.r.frozen 0⟩
end
theorem _root_.Cs.Rd.put {w : World} {B' n B i : Nat} {A : Option Addr} {f : Nat → Value} (h : Rd w B' A n f) (hne : ∀ b o, A = some ⟨b, o, none⟩ → B < b) (v : Value) : Rd (w.setCell ⟨B, i, none⟩ v) B' A n f := fun hn => by
  obtain ⟨b, o, e, hb, hc⟩ := h hn
  have h1 := hne b o e
  exact ⟨b, o, e, hb, fun j hj => (World.cell?_setCell_far _ _ _ _ (by show B ≠ b; omega)).trans (hc j hj)⟩
/-- Ahead of a round of Rank: the boxes, the lister, the sum, the list. -/
structure RbR (w : World) (N : Nt) (A : Option Addr) (c a g q B s : Nat) (Ax : Option Addr) (xs : List Int) (wr : World) : Prop where
  bx : RaR w N A c a wr
  ls : LsAt wr N A c g q
  s : wr.rowIs B 43 1 (fun _ => .string (natB s))
  rd : Rd wr wr.heap.size Ax xs.length (intF xs)
section
variable {w wr w' : World} {N : Nt} {A : Option Addr} {c a g q B s : Nat} {Ax : Option Addr} {xs : List Int}
theorem RbR.below (h : RbR w N A c a g q B s Ax xs wr) (hb : Below wr.heap.size wr w') : RbR w N A c a g q B s Ax xs w' := ⟨h.bx.below hb, h.ls.below hb, rowBelow h.s hb, (h.rd.below hb).more hb.size⟩
theorem RbR.drew (h : RbR w N A c a g q B s Ax xs wr) : RbR w N A c a g q B s Ax xs wr.drew := h.below (belowDrewN (Below.refl _ _) 1)
theorem RbR.put (h : RbR w N A c a g q B s Ax xs wr) (hB : w.heap.size + 1 + 1 < B) (hg : g < B) (hq : q < B) (hne : ∀ b o, Ax = some ⟨b, o, none⟩ → B < b) (t : Nat) : RbR w N A c a g q B t Ax xs (wr.setCell ⟨B, 0, none⟩ (.string (natB t))) :=
  ⟨⟨h.bx.n.setOther (by simp <;> omega) _, h.bx.a.setOther (by simp <;> omega) _, h.bx.r.setOther (by simp <;> omega) _, h.bx.bl.setCell (by simp <;> omega) _⟩,
    ⟨h.ls.row.setOther (by simp <;> omega) _, h.ls.sets.setOther (by simp <;> omega) _⟩, boxSet h.s _, by rw [size_setCell]; exact h.rd.put hne _⟩
end
set_option maxRecDepth 100000 in
set_option maxHeartbeats 2000000 in
theorem rank_any (w : World) (N : Nt) (A : Option Addr) (c a : Nat) (hlen : N.l.length ≤ 140737488355328) (hN : NtAt w w.heap.size A N.l) (ha : IsSet a) (hT : Tab w) :
    Calls Tryd.prog 22 #[ntV N A c, setV a] w fun e w' => e = .returned (rkR N a) ∧ Below w.heap.size w w' := by
  have hq : RaR w N A c a (((w.alloc (.cells #[.int .i64 N.n, .slice A N.l.length c] 24)).alloc (.cells #[.int .u64 (lo a : Int), .int .u64 (hi a : Int)] 27)).alloc (.cells #[.string ⟨#[]⟩] 43)) :=
    ⟨((ntNew w N A c _ _ rfl).alloc _).alloc _, (setNew _ a _ _ (by simp)).alloc _, boxNew _ _ _ _ (by simp), (((Below.refl _ _).alloc (Nat.le_refl _) _).alloc (by simp) _).alloc (by simp; omega) _⟩
  have hz := natB_zero
  by_cases he : lerr N a = 0
  · obtain ⟨hv, _, hd⟩ := lerr_zero he
    have hnl := fun W (hb : Below w.heap.size w W) => newLister_fine W N A c a hlen ((hN.below hb).more hb.size) ha he
    have hck := fun W (hb : Below w.heap.size w W) => countCheck_any W N A c hlen ((hN.below hb).more hb.size) (hT.below hb)
    have hr0 : rerr N a = cchk N := by unfold rerr; rw [if_pos he]
    have HNL := Lib.hid hnl
    by_cases hc : cchk N = 0
    · have hsh := cchk_zero hc
      have hrk : rkR N a = .tuple #[natV (rankN N a), .int .i64 0] := by unfold rkR; rw [hr0, if_pos hc]
      rw [hc] at hck
      rw [hrk]
      have hli := fun W (hb : Below w.heap.size w W) => vlist_own W a (hT.below hb)
      have hco := fun W g q (hb : Below w.heap.size w W) (hl : LsAt W N A c g q) (b f : Nat) => lcount_any W N A c g q b f hl ((hN.below hb).more hb.size) hv hsh
      have hpl := fun k => rank_part_lt hsh a k
      have hcl := fun b f => n8_big _ (Nat.lt_of_lt_of_le (cf_lt hsh b f) (Nat.mul_le_mul_left big (Nat.pow_le_pow_right (show 0 < 2 by decide) (show 128 ≤ 200 by decide))))
      have hrn : rankN N a = (vl a).foldl (fun s v => s + cfN N (wout a v) (allTo v)) 0 := rfl
      obtain ⟨RN0, hRN⟩ : ∃ r, rankN N a = r := ⟨_, rfl⟩
      rw [hRN] at hrn ⊢
      have hvl := vl_length a
      obtain ⟨xs, hxs⟩ : ∃ xs, vl a = xs := ⟨_, rfl⟩
      simp only [hxs] at hli hpl hrn hvl
      have HCK := Lib.hid hck
      have HLI := Lib.hid hli
      have HCO := Lib.hid hco
      have HPL := Lib.hid hpl
      have HCL := Lib.hid hcl
      have HRN := Lib.hid hrn
      have HZ := Lib.hid hz
      clear hnl hck hr0 hrk hli hco hpl hcl hrn hRN hxs he hc hv hd hsh hz
      go_enter Tryd.func22, Tryd.ntmps22
      obtain ⟨c1, c2, c3, c4, z1, z2⟩ := hq.cells
      go_wp2_with (first
        | (go_at_call 37; (with_reducible refine (HNL.out _ hq.bl).mono ?_); rintro e w5 ⟨g, q, rfl, hg, hq2, hls, hb5⟩; replace hq := hq.below hb5; obtain ⟨c1, c2, c3, c4, z1, z2⟩ := hq.cells)
        | (go_at_call 49; (with_reducible refine (HCK.out _ hq.bl).mono ?_); rintro e w6 ⟨rfl, hb6⟩; replace hq := hq.below hb6; replace hls := hls.below hb6; obtain ⟨c1, c2, c3, c4, z1, z2⟩ := hq.cells; have hg1 := hls.row.lt; have hg2 := hls.sets.lt; have hg3 := hq.r.lt
           have hq7 := hq.below ((Below.refl _ _).alloc (Nat.le_refl _) (.cells #[.string ⟨#[]⟩] 43)); have hls7 := hls.below ((Below.refl _ _).alloc (Nat.le_refl _) (.cells #[.string ⟨#[]⟩] 43)); have hs7 := boxNew w6 (.string ⟨#[]⟩) 43 _ rfl; obtain ⟨d1, d2, d3, d4, y1, y2⟩ := hq7.cells)
        | (go_at_call 50; (with_reducible refine (HLI.out _ hq7.bl).mono ?_); rintro e w8 ⟨Ax, cx, rfl, hrd, hnew, hb8⟩; replace hq7 := hq7.below hb8; replace hls7 := hls7.below hb8; replace hs7 := rowBelow hs7 hb8; obtain ⟨d1, d2, d3, d4, y1, y2⟩ := hq7.cells))
      have hne : ∀ b o, Ax = some ⟨b, o, none⟩ → w6.heap.size < b := fun b o h => by have := hnew b o h; simp at this; omega
      have hq0 : RbR w N A c a g q w6.heap.size 0 Ax xs w8 := ⟨hq7, hls7, by rw [HZ.out]; exact hs7, hrd⟩
      have HQ0 := Lib.hid hq0
      have HNE := Lib.hid hne
      clear hrd hnew hq7 hls7 hs7 d1 d2 d3 d4 y1 y2 c1 c2 c3 c4 z1 z2 hq hls hne hq0
      go_loopw [28] (fun t wr => ∃ k : Nat, k ≤ xs.length ∧ t = .int .i64 k ∧ RbR w N A c a g q w6.heap.size ((xs.take k).foldl (fun s v => s + cfN N (wout a v) (allTo v)) 0) Ax xs wr) (fun t _ => xs.length - (intOf t).toNat)
      case atStart => exact ⟨0, by omega, rfl, HQ0.out⟩
      case round =>
        clear HQ0
        obtain ⟨k, hk, rfl, hE⟩ := hrel
        by_cases hlt : k < xs.length
        · obtain ⟨b, o, rfl, hbB, hcs⟩ := hE.rd (by omega)
          have hcx := hcs k hlt
          clear hcs
          have hii : intF xs k = .int .i64 xs[k] := by unfold intF; rw [List.getD_eq_getElem?_getD, List.getElem?_eq_getElem hlt]; rfl
          rw [hii] at hcx
          have hft : (xs.take (k + 1)).foldl (fun s v => s + cfN N (wout a v) (allTo v)) 0 = (xs.take k).foldl (fun s v => s + cfN N (wout a v) (allTo v)) 0 + cfN N (wout a xs[k]) (allTo xs[k]) := by
            rw [List.take_succ_eq_append_getElem hlt, List.foldl_append]; rfl
          have hsl := Nat.le_trans (n8_big _ (HPL.out k)) (show 1000 ≤ 1000000 by decide)
          obtain ⟨v, hv⟩ : ∃ v, xs[k] = v := ⟨_, rfl⟩
          rw [hv] at hft hcx
          obtain ⟨s, hs⟩ : ∃ s, (xs.take k).foldl (fun s v => s + cfN N (wout a v) (allTo v)) 0 = s := ⟨_, rfl⟩
          rw [hs] at hft hsl hE
          have hwo := fun W => without_any W a v
          have hal := fun W => all_any W v
          obtain ⟨U, hU⟩ : ∃ U, wout a v = U := ⟨_, rfl⟩
          obtain ⟨V, hV⟩ : ∃ V, allTo v = V := ⟨_, rfl⟩
          rw [hU, hV] at hft
          simp only [hU] at hwo
          simp only [hV] at hal
          have hco := fun W hb hl => HCO.out W g q hb hl U V
          have hcl := Nat.le_trans (HCL.out U V) (show 1000 ≤ 1000000 by decide)
          obtain ⟨C, hC⟩ : ∃ C, cfN N U V = C := ⟨_, rfl⟩
          simp only [hC] at hco
          rw [hC] at hcl hft
          have had := fun W => add_any W s C hsl hcl
          obtain ⟨T, hTT⟩ : ∃ T, s + C = T := ⟨_, rfl⟩
          simp only [hTT] at had
          rw [hTT] at hft
          have HWO := Lib.hid hwo
          have HAL := Lib.hid hal
          have HC1 := Lib.hid hco
          have HAD := Lib.hid had
          have HFT := Lib.hid hft
          have q1 := hE
          have hB3 := hE.s.lt
          clear hwo hal hco had hft hU hV hC hTT hs hv hii hsl hcl hE
          go_wp2_with fail
          replace q1 := q1.drew
          obtain ⟨d1, d2, d3, d4, y1, y2⟩ := q1.bx.cells
          have s1 := boxCell q1.s
          have s2 := q1.s.frozen 0
          refine wp_region_heldE (fun w' => w'.cell? ⟨w6.heap.size, 0, none⟩ = some (Value.string (natB s)) ∧ w'.cell? ⟨w.heap.size + 1, 0, none⟩ = some (Value.int .u64 (lo a : Int)) ∧ w'.cell? ⟨w.heap.size + 1, 1, none⟩ = some (Value.int .u64 (hi a : Int))) 9 (by kernel_rfl) ⟨s1, d3, d4⟩ (fun hS => ?_)
          refine wpAnyE_take (i := 0) (v := ?_) hS (by kernel_rfl) rfl (by kernel_rfl) (by kernel_rfl) (fun _ _ _ h => h) (Or.inl ⟨by rfl, ?_⟩) ?_
          rotate_left
          · (intro w hSw; go_simp; try with_reducible rfl)
          try simp only [Act.put, List.getElem_toArray, List.getElem_cons_succ, List.getElem_cons_zero, List.setIfInBounds_toArray, List.set_cons_zero, List.set_cons_succ]
          refine wpAnyE_take (i := 1) (v := ?_) hS (by kernel_rfl) rfl (by kernel_rfl) (by kernel_rfl) (fun _ _ _ h => h) (Or.inl ⟨by rfl, ?_⟩) ?_
          rotate_left
          · (intro w hSw; go_simp; try with_reducible rfl)
          try simp only [Act.put, List.getElem_toArray, List.getElem_cons_succ, List.getElem_cons_zero, List.setIfInBounds_toArray, List.set_cons_zero, List.set_cons_succ]
          refine wpAnyE_take (i := 2) (v := ?_) hS (by kernel_rfl) rfl (by kernel_rfl) (by kernel_rfl) (fun _ _ _ h => h) (Or.inl ⟨by rfl, ?_⟩) ?_
          rotate_left
          · (intro w hSw; go_simp; try with_reducible rfl)
          try simp only [Act.put, List.getElem_toArray, List.getElem_cons_succ, List.getElem_cons_zero, List.setIfInBounds_toArray, List.set_cons_zero, List.set_cons_succ]
          refine wpAnyE_take (i := 3) (v := ?_) hS (by kernel_rfl) rfl (by kernel_rfl) (by kernel_rfl) (fun _ _ _ h => h) (Or.inl ⟨by rfl, ?_⟩) ?_
          rotate_left
          · (intro w hSw; go_simp; try with_reducible rfl)
          try simp only [Act.put, List.getElem_toArray, List.getElem_cons_succ, List.getElem_cons_zero, List.setIfInBounds_toArray, List.set_cons_zero, List.set_cons_succ]
          refine wpAnyE_take (i := 5) (v := ?_) hS (by kernel_rfl) rfl (by kernel_rfl) (by kernel_rfl) (fun _ _ _ h => h) (Or.inl ⟨by rfl, ?_⟩) ?_
          rotate_left
          · (intro w hSw; go_simp; try with_reducible rfl)
          try simp only [Act.put, List.getElem_toArray, List.getElem_cons_succ, List.getElem_cons_zero, List.setIfInBounds_toArray, List.set_cons_zero, List.set_cons_succ]
          refine wpAnyE_one 4 (by kernel_rfl) rfl (fun K hK => ?_)
          go_simp
          go_at_call 52
          (with_reducible refine (HWO.out _).mono ?_)
          rintro e w10 ⟨rfl, hb10⟩
          replace q1 := q1.below hb10
          obtain ⟨d1, d2, d3, d4, y1, y2⟩ := q1.bx.cells
          have s1 := boxCell q1.s
          have s2 := q1.s.frozen 0
          refine hK.out _ _ (fun _ => ⟨s1, d3, d4⟩) (fun hS => ?_)
          replace hS := hS (by decide)
          clear hK K
          try simp only [Act.put, List.getElem_toArray, List.getElem_cons_succ, List.getElem_cons_zero, List.setIfInBounds_toArray, List.set_cons_zero, List.set_cons_succ]
          refine wpAnyE_one 6 (by kernel_rfl) rfl (fun K hK => ?_)
          go_simp
          go_at_call 53
          (with_reducible refine (HAL.out _).mono ?_)
          rintro e w10 ⟨rfl, hb10⟩
          replace q1 := q1.below hb10
          obtain ⟨d1, d2, d3, d4, y1, y2⟩ := q1.bx.cells
          have s1 := boxCell q1.s
          have s2 := q1.s.frozen 0
          refine hK.out _ _ (fun _ => ⟨s1, d3, d4⟩) (fun hS => ?_)
          replace hS := hS (by decide)
          clear hK K
          try simp only [Act.put, List.getElem_toArray, List.getElem_cons_succ, List.getElem_cons_zero, List.setIfInBounds_toArray, List.set_cons_zero, List.set_cons_succ]
          refine wpAnyE_one 7 (by kernel_rfl) rfl (fun K hK => ?_)
          go_simp
          go_at_call 51
          (with_reducible refine (HC1.out _ q1.bx.bl q1.ls).mono ?_)
          rintro e w10 ⟨rfl, hb10⟩
          replace q1 := q1.below hb10
          obtain ⟨d1, d2, d3, d4, y1, y2⟩ := q1.bx.cells
          have s1 := boxCell q1.s
          have s2 := q1.s.frozen 0
          refine hK.out _ _ (fun _ => ⟨s1, d3, d4⟩) (fun hS => ?_)
          replace hS := hS (by decide)
          clear hK K
          try simp only [Act.put, List.getElem_toArray, List.getElem_cons_succ, List.getElem_cons_zero, List.setIfInBounds_toArray, List.set_cons_zero, List.set_cons_succ]
          refine wpAnyE_one 8 (by kernel_rfl) rfl (fun K hK => ?_)
          go_simp
          go_at_call 21
          (with_reducible refine (HAD.out _).mono ?_)
          rintro e w10 ⟨rfl, hb10⟩
          replace q1 := q1.below hb10
          obtain ⟨d1, d2, d3, d4, y1, y2⟩ := q1.bx.cells
          have s1 := boxCell q1.s
          have s2 := q1.s.frozen 0
          refine hK.out _ _ (fun _ => ⟨s1, d3, d4⟩) (fun hS => ?_)
          replace hS := hS (by decide)
          clear hK K
          try simp only [Act.put, List.getElem_toArray, List.getElem_cons_succ, List.getElem_cons_zero, List.setIfInBounds_toArray, List.set_cons_zero, List.set_cons_succ]
          refine wpAnyE_one 9 (by kernel_rfl) rfl (fun K hK => ?_)
          go_simp
          refine hK.out _ _ (fun h => absurd rfl h) (fun _ => ?_)
          clear hK K
          refine wpAnyE_done (by kernel_rfl) ?_ _
          go_wp2
          go_roundw
          case rel => exact ⟨k + 1, by omega, by go_num, by rw [HFT.out]; exact q1.put hg3 hg1 hg2 HNE.out T⟩
          case measure => simp [intOf]; omega
        · obtain rfl : k = xs.length := by omega
          rw [List.take_length, ← HRN.out] at hE
          obtain ⟨d1, d2, d3, d4, y1, y2⟩ := hE.bx.cells
          have s1 := boxCell hE.s
          go_wp2
          exact ret_nat_slot rfl RN0 rfl (boxSet hE.bx.r _) rfl ⟨rfl, hE.bx.bl.setCell (by simp <;> omega) _⟩
    · have hrk : rkR N a = .tuple #[natV 0, .int .i64 (cchk N)] := by unfold rkR; rw [hr0, if_neg hc]
      rw [hrk]
      obtain ⟨E, hE⟩ : ∃ E, cchk N = E := ⟨_, rfl⟩
      simp only [hE] at hck
      rw [hE] at hc ⊢
      have hb : (E == 0) = false := beq_eq_false_iff_ne.2 hc
      have HCK := Lib.hid hck
      have HZ := Lib.hid hz
      clear hnl hck hr0 hrk hE hz
      go_enter Tryd.func22, Tryd.ntmps22
      obtain ⟨c1, c2, c3, c4, z1, z2⟩ := hq.cells
      go_wp2_with (first
        | (go_at_call 37; (with_reducible refine (HNL.out _ hq.bl).mono ?_); rintro e w5 ⟨g, q, rfl, hg, hq2, hls, hb5⟩; replace hq := hq.below hb5; obtain ⟨c1, c2, c3, c4, z1, z2⟩ := hq.cells)
        | (go_at_call 49; (with_reducible refine (HCK.out _ hq.bl).mono ?_); rintro e w6 ⟨rfl, hb6⟩; replace hq := hq.below hb6; obtain ⟨c1, c2, c3, c4, z1, z2⟩ := hq.cells))
      exact ret_nat_slot rfl 0 rfl (by rw [HZ.out]; exact boxSet hq.r _) rfl ⟨rfl, hq.bl.setCell (by simp <;> omega) _⟩
  · have hnl := fun W (hb : Below w.heap.size w W) => newLister_err W N A c a hlen ((hN.below hb).more hb.size) ha he
    have hrk : rkR N a = .tuple #[natV 0, .int .i64 (lerr N a)] := by
      have hr : rerr N a = lerr N a := by unfold rerr; rw [if_neg he]
      unfold rkR; rw [hr, if_neg he]
    rw [hrk]
    obtain ⟨E, hE⟩ : ∃ E, lerr N a = E := ⟨_, rfl⟩
    simp only [hE] at hnl
    rw [hE] at he ⊢
    have hb : (E == 0) = false := beq_eq_false_iff_ne.2 he
    have HNL := Lib.hid hnl
    have HZ := Lib.hid hz
    clear hnl hrk hE hz
    go_enter Tryd.func22, Tryd.ntmps22
    obtain ⟨c1, c2, c3, c4, z1, z2⟩ := hq.cells
    go_wp2_with (go_at_call 37; (with_reducible refine (HNL.out _ hq.bl).mono ?_); rintro e w5 ⟨rfl, hb5⟩; replace hq := hq.below hb5; obtain ⟨c1, c2, c3, c4, z1, z2⟩ := hq.cells)
    exact ret_nat_slot rfl 0 rfl (by rw [HZ.out]; exact boxSet hq.r _) rfl ⟨rfl, hq.bl.setCell (by simp <;> omega) _⟩
end Go.Proofs.YtemgfhdgpkmmaaaDoor
