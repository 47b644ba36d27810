import Derived.Test.YtmhllppjcilllaaGreatDoorShort
import Derived.Test.YtmhllppjcilllaaGreatDoorM1
import Derived.Test.YtmhllppjcilllaaGreatDoorS1
set_option linter.unusedSimpArgs false
set_option linter.unusedVariables false
set_option maxRecDepth 100000
set_option maxHeartbeats 2000000
section
open Go Go.RowKit Cs
namespace Cs
def wt (nt l : Int) : Nat := if l = nt then 0 else 1
def RN (nt : Int) : Rg Nat := ⟨0, 1, (· + ·), (· * ·), wt nt, fun v => wt nt v + wt nt (-v)⟩
theorem wt_le (nt l : Int) : wt nt l ≤ 1 := by unfold wt; split <;> omega
theorem RN_R1 (nt : Int) : Rl (RN nt) R1 (· ≤ ·) where
 zero := zqn _
 one := zqn _
 add := fun _ _ _ _ h1 h2 => Nat.add_le_add h1 h2
 mul := fun _ _ _ _ h1 h2 => Nat.mul_le_mul h1 h2
 lit := fun l => wt_le nt l
 both := fun v => by show wt nt v + wt nt (-v) ≤ 2; have := wt_le nt v; have := wt_le nt (-v); omega
theorem RN_part {N : Nt} (h : shortB N = true) (nt : Int) (k : Nat) (hk : k < N.l.length) (m : Nat) :
  (N.l[k].ins.take m).foldl ((RN nt).in1 (own N.l) (scan ((RN nt).step (own N.l)) [] (N.l.take k)) N.l[k]) ((RN nt).start N.l[k]) < big :=
 Nat.lt_of_le_of_lt ((RN_R1 nt).fold ((RN_R1 nt).all (own N.l) (N.l.take k)) (own N.l) N.l[k] _ _ _ ((RN_R1 nt).start _)) (shortB_part h k hk m)
theorem RN_all {N : Nt} (h : shortB N = true) (nt : Int) (k : Nat) : ((RN nt).all (own N.l) N.l).getD k 0 < big :=
 Nat.lt_of_le_of_lt (((RN_R1 nt).all (own N.l) N.l).2 k) (shortB_all h k)
theorem RN_wide (nt : Int) (x : Nat) (hx : x < big) (vs : List Int) (h : vs.length ≤ 128) : (RN nt).wide x vs < big * 2 ^ 200 := by
 refine Nat.lt_of_le_of_lt ((RN_R1 nt).wide vs x x (zqn _)) ?_;rw [R1_wide];have h1 : 2 ^ vs.length ≤ 2 ^ 128 := Nat.pow_le_pow_right (by decide) h;have h2 : (2 : Nat) ^ 128 ≤ 2 ^ 200 := Nat.pow_le_pow_right (by decide) (by decide)
 calc x * 2 ^ vs.length ≤ x * 2 ^ 200 := Nat.mul_le_mul_left _ (Nat.le_trans h1 h2)
  _ < big * 2 ^ 200 := Nat.mul_lt_mul_of_pos_right hx (Nat.two_pow_pos _)
def cchk (N : Nt) : Int := if vld N then (if dcmp N then (if shortB N then 0 else 2) else 210) else 1
end Cs
namespace Go.Proofs.YtmhllppjcilllaaGreatDoor
abbrev wtV (p : Nat) : Value := .func (.func 129) #[] #[.pointer (some ⟨p, 0, none⟩)]
abbrev btV (q : Nat) : Value := .func (.func 132) #[] #[.pointer (some ⟨q, 0, none⟩)]
abbrev numV (p q : Nat) : Value := .agg #[.func (.func 130) #[] #[], .func (.func 131) #[] #[], .func (.func 71) #[] #[], .func (.func 33) #[] #[], wtV p, btV q]
theorem zero_fn (w : World) : Calls Tryz.prog 130 #[] w fun e w' => e = .returned (natV 0) ∧ Below w.heap.size w w' := by
 have hx : (w.alloc (.cells #[.string ⟨#[]⟩] 31)).rowIs w.heap.size 31 1 (fun _ => .string (natB 0)) := by
  rw [natB_zero]; exact boxNew w (.string ⟨#[]⟩) 31 w.heap.size rfl
 have HX := zqh hx; clear hx
 go_enter Tryz.func130, Tryz.ntmps130
 go_wp2
 exact ret_nat rfl _ rfl HX.out rfl ⟨rfl, (zqr _ _).alloc (zqn _) _⟩
theorem one_fn (w : World) : Calls Tryz.prog 131 #[] w fun e w' => e = .returned (natV 1) ∧ Below w.heap.size w w' := by
 have hx := boxNew w (.string ⟨#[]⟩) 31 w.heap.size rfl;have hbl : Below w.heap.size w (w.alloc (.cells #[.string ⟨#[]⟩] 31)) := (zqr _ _).alloc (zqn _) _;have hof : ∀ W, Calls Tryz.prog 34 #[.int .u64 1] W fun e w' => e = .returned (natV 1) ∧ Below W.heap.size W w' := fun W => of_any W 1 (by decide)
 go_enter Tryz.func131, Tryz.ntmps131
 go_wp2_with (
  go_at_call 34
  (with_reducible refine (hof _).mono ?_)
  rintro e w9 ⟨rfl, hb9⟩;have hx9 := rowBelow hx hb9;have hbl9 := zqx hbl hb9 hbl.size;have hc := boxCell hx9
  have hf := hx9.frozen 0)
 exact ret_nat rfl _ rfl (boxSet hx9 _) rfl ⟨rfl, hbl9.setCell (zqn _) _⟩
theorem wt_fn (w : World) (p : Nat) (nt l : Int) (hp : w.cell? ⟨p, 0, none⟩ = some (.int .i64 nt)) : Calls Tryz.prog 129 #[.int .i64 l, .pointer (some ⟨p, 0, none⟩)] w fun e w' => e = .returned (natV (wt nt l)) ∧ Below w.heap.size w w' := by
 have hplt := World.block_lt_of_cell? w _ hp;simp only at hplt;have hx := boxNew w (.string ⟨#[]⟩) 31 w.heap.size rfl
 have hx0 : (w.alloc (.cells #[.string ⟨#[]⟩] 31)).rowIs w.heap.size 31 1 (fun _ => .string (natB 0)) := by
  rw [natB_zero]; exact hx
 have HX := zqh hx0; clear hx0
 have hbl : Below w.heap.size w (w.alloc (.cells #[.string ⟨#[]⟩] 31)) := (zqr _ _).alloc (zqn _) _;have hof : ∀ W, Calls Tryz.prog 34 #[.int .u64 1] W fun e w' => e = .returned (natV 1) ∧ Below W.heap.size W w' := fun W => of_any W 1 (by decide);by_cases h : l = nt
 ·have hw : wt nt l = 0 := if_pos h;rw [hw];clear hw;have hb : (l == nt) = true := beq_iff_eq.2 h;clear h hof
  go_enter Tryz.func129, Tryz.ntmps129
  go_wp2
  exact ret_nat rfl _ rfl HX.out rfl ⟨rfl, hbl⟩
 ·have hw : wt nt l = 1 := if_neg h;rw [hw];clear hw;have hb : (l == nt) = false := beq_eq_false_iff_ne.2 h;clear h
  go_enter Tryz.func129, Tryz.ntmps129
  go_wp2_with (
   go_at_call 34
   (with_reducible refine (hof _).mono ?_)
   rintro e w9 ⟨rfl, hb9⟩;have hx9 := rowBelow hx hb9;have hbl9 := zqx hbl hb9 hbl.size;have hc := boxCell hx9
   have hf := hx9.frozen 0)
  exact ret_nat rfl _ rfl (boxSet hx9 _) rfl ⟨rfl, hbl9.setCell (zqn _) _⟩
theorem n8_wt (nt l : Int) : n8 (wt nt l) ≤ 1000000 := Nat.le_trans (n8_short _ (Nat.lt_of_le_of_lt (wt_le nt l) big_one)) (by decide)
theorem both_fn (w : World) (p q : Nat) (nt v : Int) (h1 : 1 ≤ v) (h2 : v ≤ 128) (hq : w.cell? ⟨q, 0, none⟩ = some (wtV p)) (hp : w.cell? ⟨p, 0, none⟩ = some (.int .i64 nt)) :
  Calls Tryz.prog 132 #[.int .i64 v, .pointer (some ⟨q, 0, none⟩)] w fun e w' => e = .returned (natV (wt nt v + wt nt (-v))) ∧ Below w.heap.size w w' := by
 have hplt := World.block_lt_of_cell? w _ hp;simp only at hplt;have hqlt := World.block_lt_of_cell? w _ hq;simp only at hqlt;have hx := boxNew w (.string ⟨#[]⟩) 31 w.heap.size rfl;have hbl : Below w.heap.size w (w.alloc (.cells #[.string ⟨#[]⟩] 31)) := (zqr _ _).alloc (zqn _) _;have hx' := hx.drew;have hbl' : Below w.heap.size w (w.alloc (.cells #[.string ⟨#[]⟩] 31)).drew := belowDrewN hbl 1
 have hwr : IntKind.i64.wrap (-v) = -v := by rw [IntKind.wrap_i64]; omega
 have hq1 := n8_wt nt v;have hq2 := n8_wt nt (-v)
 go_enter Tryz.func132, Tryz.ntmps132
 go_wp2_with fail
 go_region_held3 (fun w' => w'.cell? ⟨q, 0, none⟩ = some (wtV p))
  (first | go_keep | exact hqq | exact (World.cell?_setCell_far _ _ _ _ (by simp; omega)).trans hqq)
  (first
    | (go_simp
       go_at_call 129
       (with_reducible refine (wt_fn _ p nt v (below_cell hbl' hplt hp)).mono ?_)
       rintro e w9 ⟨rfl, hb9⟩;replace hx' := rowBelow hx' hb9;replace hbl' := zqx hbl' hb9 hbl'.size;have hqq := below_cell hbl' hqlt hq;have hc := boxCell hx'
       have hf := hx'.frozen 0)
    | (go_simp
       go_at_call 129
       (with_reducible refine (wt_fn _ p nt (-v) (below_cell hbl' hplt hp)).mono ?_)
       rintro e w9 ⟨rfl, hb9⟩;replace hx' := rowBelow hx' hb9;replace hbl' := zqx hbl' hb9 hbl'.size;have hqq := below_cell hbl' hqlt hq;have hc := boxCell hx'
       have hf := hx'.frozen 0)
    | (go_simp
       go_at_call 71
       (with_reducible refine (add_any _ (wt nt v) (wt nt (-v)) hq1 hq2).mono ?_)
       rintro e w9 ⟨rfl, hb9⟩;replace hx' := rowBelow hx' hb9;replace hbl' := zqx hbl' hb9 hbl'.size;have hqq := below_cell hbl' hqlt hq;have hc := boxCell hx'
       have hf := hx'.frozen 0))
 all_goals
  try go_wp2
  exact ret_nat rfl _ rfl (boxSet hx' _) rfl ⟨rfl, hbl'.setCell (zqn _) _⟩
theorem countCheck_any (w : World) (N : Nt) (A : Option Addr) (c : Nat) (hlen : N.l.length ≤ 140737488355328) (hN : NtAt w w.heap.size A N.l) (hT : Tab w) :
  Calls Tryz.prog 79 #[ntV N A c] w fun e w' => e = .returned (.int .i64 (cchk N)) ∧ Below w.heap.size w w' := by
 have hbox := ntNew w N A c 24 _ rfl;have hbl : Below w.heap.size w (w.alloc (.cells #[.int .i64 N.n, .slice A N.l.length c] 24)) := (zqr _ _).alloc (zqn _) _;cases hv : vld N
 ·have hck : cchk N = 1 := by unfold cchk; rw [hv]; rfl
  have hnc : ∀ W, NtAt W W.heap.size A N.l → Calls Tryz.prog 46 #[ntV N A c] W fun e w' => e = .returned (.int .i64 1) ∧ Below W.heap.size W w' := fun W h => by
   have := nodeCheck_any W N A c hlen h
   have h2 : chk N = 1 := by unfold chk; rw [hv]; rfl
   rwa [h2] at this
  rw [hck];have HNC := zqh hnc;clear hck hnc hv;obtain ⟨n, l⟩ := N
  go_enter Tryz.func79, Tryz.ntmps79
  go_wp2_with (
   go_at_call 46
   (with_reducible refine (HNC.out _ ((hN.below hbl).more hbl.size)).mono ?_)
   rintro e w5 ⟨rfl, hb5⟩
   have hbl5 := zqx hbl hb5 hbl.size)
  go_ret
  exact ⟨rfl, hbl5⟩
 ·have hck : cchk N = if dcmp N then (if shortB N then 0 else 2) else 210 := by unfold cchk; rw [hv]; rfl
  have hnc : ∀ W, NtAt W W.heap.size A N.l → Calls Tryz.prog 46 #[ntV N A c] W fun e w' => e = .returned (.int .i64 0) ∧ Below W.heap.size W w' := fun W h => by
   have := nodeCheck_any W N A c hlen h
   have h2 : chk N = 0 := by unfold chk; rw [hv]; rfl
   rwa [h2] at this
  have hdc := fun W h => decomposable_any W N A c h hv;have hsh := fun W h hT => short_any W N A c h hv hT;rw [hck];have HNC := zqh hnc;clear hck hnc hv;cases hd : dcmp N
  ·rw [hd] at hdc;have HDC := zqh hdc;clear hdc hd hsh;obtain ⟨n, l⟩ := N
   go_enter Tryz.func79, Tryz.ntmps79
   go_wp2_with (first
    | (go_at_call 46
       (with_reducible refine (HNC.out _ ((hN.below hbl).more hbl.size)).mono ?_)
       rintro e w5 ⟨rfl, hb5⟩;have hbl5 := zqx hbl hb5 hbl.size;have hbox5 := rowBelow hbox hb5
       obtain ⟨hc1, hc2⟩ := ntCells hbox5)
    | (go_at_call 25
       (with_reducible refine (HDC.out _ ((hN.below hbl5).more hbl5.size)).mono ?_)
       rintro e w6 ⟨rfl, hb6⟩
       have hbl6 := zqx hbl5 hb6 hbl5.size))
   go_ret
   exact ⟨rfl, hbl6⟩
  ·rw [hd] at hdc;have HDC := zqh hdc;clear hdc hd;cases hs : shortB N
   all_goals
    rw [hs] at hsh;have HSH := zqh hsh;clear hsh hs;obtain ⟨n, l⟩ := N
    go_enter Tryz.func79, Tryz.ntmps79
    go_wp2_with (first
     | (go_at_call 46
        (with_reducible refine (HNC.out _ ((hN.below hbl).more hbl.size)).mono ?_)
        rintro e w5 ⟨rfl, hb5⟩;have hbl5 := zqx hbl hb5 hbl.size;have hbox5 := rowBelow hbox hb5
        obtain ⟨hc1, hc2⟩ := ntCells hbox5)
     | (go_at_call 25
        (with_reducible refine (HDC.out _ ((hN.below hbl5).more hbl5.size)).mono ?_)
        rintro e w6 ⟨rfl, hb6⟩;have hbl6 := zqx hbl5 hb6 hbl5.size;have hbox6 := rowBelow hbox5 hb6
        obtain ⟨hc3, hc4⟩ := ntCells hbox6)
     | (go_at_call 122
        (with_reducible refine (HSH.out _ ((hN.below hbl6).more hbl6.size) (hT.below hbl6)).mono ?_)
        rintro e w7 ⟨rfl, hb7⟩
        have hbl7 := zqx hbl6 hb7 hbl6.size))
    go_ret
    exact ⟨rfl, hbl7⟩
end Go.Proofs.YtmhllppjcilllaaGreatDoor
end
section
open Go Go.RowKit Cs
namespace Cs
def ringF (nV : Array Value) (i : Nat) : Value := nV.getD i undef
theorem vl_bounds (s : Nat) : ∀ v ∈ vl s, 1 ≤ v ∧ v ≤ 128 := by
 intro v hv;rw [vl_eq, List.mem_map] at hv;obtain ⟨u, hu, rfl⟩ := hv;unfold vlist at hu;simp at hu;omega
end Cs
namespace Go.Proofs.YtmhllppjcilllaaGreatDoor
theorem wide_any (w : World) (O L : List Nat) (nt : Int) (k len all p q go gs bo bs br : Nat) (hk : k < len) (hlen : len ≤ 65536) (hLk : L.getD k 0 < big)
  (hbo : w.cell? ⟨bo, 0, none⟩ = some (.slice (some ⟨go, 0, none⟩) len len)) (hbs : w.cell? ⟨bs, 0, none⟩ = some (.slice (some ⟨gs, 0, none⟩) len len))
  (hr : ∀ i, i < 6 → w.cell? ⟨br, i, none⟩ = some (ringF #[.func (.func 130) #[] #[], .func (.func 131) #[] #[], .func (.func 71) #[] #[], .func (.func 33) #[] #[], wtV p, btV q] i))
  (hout : w.rowIs go 31 len (natsF L)) (how : w.rowIs gs 96 (len * 2) (setsF O))
  (hq : w.cell? ⟨q, 0, none⟩ = some (wtV p)) (hp : w.cell? ⟨p, 0, none⟩ = some (.int .i64 nt)) (hT : Tab w) :
  Calls Tryz.prog 128 #[.int .i64 k, setV all, .pointer (some ⟨bo, 0, none⟩), .pointer (some ⟨bs, 0, none⟩), .pointer (some ⟨br, 0, none⟩)] w fun e w' =>
   e = .returned (natV ((RN nt).gap O L all k)) ∧ Below w.heap.size w w' := by
 have hr3 : w.cell? ⟨br, 3, none⟩ = some (.func (.func 33) #[] #[]) := hr 3 (by omega);have hr5 : w.cell? ⟨br, 5, none⟩ = some (btV q) := hr 5 (by omega);clear hr;have hplt := World.block_lt_of_cell? w _ hp;have hqlt := World.block_lt_of_cell? w _ hq;have hbolt := World.block_lt_of_cell? w _ hbo;have hbslt := World.block_lt_of_cell? w _ hbs;have hbrlt := World.block_lt_of_cell? w _ hr3;simp only at hplt hqlt hbolt hbslt hbrlt;have holt := hout.lt;have hwlt := how.lt;have hck := hout.cell hk;unfold natsF at hck;obtain ⟨hs5, hs6, _, _⟩ := setsCells how k (by omega);have hgap : (RN nt).gap O L all k = (RN nt).wide (L.getD k 0) (vl (minus all (O.getD k 0))) := rfl;have hvl := vl_length (minus all (O.getD k 0));have hli := fun W h => vlist_own W (minus all (O.getD k 0)) h;have hvb : ∀ v ∈ vl (minus all (O.getD k 0)), 1 ≤ v ∧ v ≤ 128 := vl_bounds _;obtain ⟨vs, hvs⟩ : ∃ vs, vl (minus all (O.getD k 0)) = vs := ⟨_, rfl⟩;obtain ⟨sk, hsk⟩ : ∃ sk, O.getD k 0 = sk := ⟨_, rfl⟩;obtain ⟨x, hx⟩ : ∃ x, L.getD k 0 = x := ⟨_, rfl⟩;rw [hx] at hck hgap hLk;rw [hvs] at hgap hvl hvb;simp only [hvs] at hli;rw [hsk] at hs5 hs6 hli;rw [hgap];have HLI := zqh hli;have HVB := zqh hvb;clear hgap hvs hsk hx hli hvb
 have hi1 : (0 : Int) ≤ (k : Int) := by omega
 have hi2 : (k : Int) < (len : Int) := by omega
 have hWa : Below w.heap.size w (((w.alloc (.cells #[.int .u64 (lo all : Int), .int .u64 (hi all : Int)] 96)).alloc (.cells #[.string ⟨#[]⟩] 31)).alloc (.cells #[.string (natB x)] 31)) := (((zqr _ _).alloc (zqn _) _).alloc (by simp) _).alloc (by simp; omega) _;have hset := (((setNew w all 96 _ rfl).alloc (.cells #[.string ⟨#[]⟩] 31)).alloc (.cells #[.string (natB x)] 31)).drew;have hres := ((boxNew (w.alloc (.cells #[.int .u64 (lo all : Int), .int .u64 (hi all : Int)] 96)) (.string ⟨#[]⟩) 31 (w.heap.size + 1) (by simp)).alloc (.cells #[.string (natB x)] 31)).drew;have hx8 := (boxNew ((w.alloc (.cells #[.int .u64 (lo all : Int), .int .u64 (hi all : Int)] 96)).alloc (.cells #[.string ⟨#[]⟩] 31)) (.string (natB x)) 31 (w.heap.size + 1 + 1) (by simp)).drew;have hb := belowDrewN hWa 1
 change Below _ _ (World.drew _) at hb
 go_enter Tryz.func128, Tryz.ntmps128
 go_wp2_with fail
 obtain ⟨h91, h92, _, _⟩ := setCells hset;have h93 := below_cell hb hbslt hbs;have h94 := below_cell hb hwlt hs5;have h95 := below_cell hb hwlt hs6
 go_region_held3 (fun w' => w'.cell? ⟨w.heap.size, 0, none⟩ = some (.int .u64 (lo all : Int)) ∧ w'.cell? ⟨w.heap.size, 1, none⟩ = some (.int .u64 (hi all : Int)) ∧ w'.cell? ⟨bs, 0, none⟩ = some (.slice (some ⟨gs, 0, none⟩) len len) ∧ w'.cell? ⟨gs, k * 2, none⟩ = some (.int .u64 (lo sk : Int)) ∧ w'.cell? ⟨gs, k * 2 + 1, none⟩ = some (.int .u64 (hi sk : Int)))
  (first | go_keep | exact ⟨h91, h92, h93, h94, h95⟩)
  (first
    | (go_simp
       go_at_call 100
       (with_reducible refine (minus_any _ all sk).mono ?_)
       rintro e w9 ⟨rfl, hb9⟩;replace hset := rowBelow hset hb9;replace hres := rowBelow hres hb9;replace hx8 := rowBelow hx8 hb9;replace hb := zqx hb hb9 hb.size;obtain ⟨h91, h92, _, _⟩ := setCells hset;have h93 := below_cell hb hbslt hbs;have h94 := below_cell hb hwlt hs5
       have h95 := below_cell hb hwlt hs6)
    | (go_simp
       go_at_call 99
       (with_reducible refine (HLI.out _ (hT.below hb)).mono ?_)
       rintro e w9 ⟨A9, c9, rfl, hrd9, hge9, hb9⟩
       have hge : ∀ b o, A9 = some ⟨b, o, none⟩ → w.heap.size + 1 + 1 < b := fun b o h => by have h1 := hge9 b o h; have h2 := hx8.lt; omega
       replace hset := rowBelow hset hb9;replace hres := rowBelow hres hb9;replace hx8 := rowBelow hx8 hb9;replace hb := zqx hb hb9 hb.size;obtain ⟨h91, h92, _, _⟩ := setCells hset;have h93 := below_cell hb hbslt hbs;have h94 := below_cell hb hwlt hs5
       have h95 := below_cell hb hwlt hs6))
 go_wp2
 have hz := hx8.lt;clear h91 h92 h93 h94 h95 hset hWa HLI hb9;have HGE := zqh hge;clear hge hge9
 go_loopw [23] (fun t wq => ∃ m : Nat, m ≤ vs.length ∧ t = .int .i64 m ∧ wq.rowIs (w.heap.size + 1) 31 1 (fun _ => .string ⟨#[]⟩) ∧ wq.rowIs (w.heap.size + 1 + 1) 31 1 (fun _ => .string (natB ((RN nt).wide x (vs.take m)))) ∧ Rd wq wq.heap.size A9 vs.length (intF vs) ∧ Below w.heap.size w wq) (fun t _ => vs.length - (intOf t).toNat)
 case atStart => exact ⟨0, by omega, rfl, hres, hx8, hrd9, hb⟩
 case round =>
  clear hres hx8 hb hrd9;obtain ⟨m, hm, rfl, hres, hx8, hrd, hb⟩ := hrel
  have HRD := zqh hrd; clear hrd
  have hx80 := boxCell hx8;have hz3 := hb.size;by_cases hmlt : m < vs.length
  ·obtain ⟨b', o', rfl, hbB', hcs⟩ := HRD.out (by omega);have hc := hcs m hmlt;clear hcs;unfold intF at hc
   have hgm : vs.getD m 0 = vs[m] := by simp [List.getD, hmlt]
   rw [hgm] at hc;obtain ⟨hv1, hv2⟩ := HVB.out vs[m] (List.getElem_mem hmlt)
   have htk : (RN nt).wide x (vs.take (m + 1)) = (RN nt).wide x (vs.take m) * (wt nt vs[m] + wt nt (-vs[m])) := by
    rw [List.take_succ_eq_append_getElem hmlt];unfold Rg.wide
    rw [List.foldl_append]; rfl
   have hwb := RN_wide nt x hLk (vs.take m) (by simp; omega);obtain ⟨v, hv⟩ : ∃ v, vs[m] = v := ⟨_, rfl⟩;obtain ⟨y, hy⟩ : ∃ y, (RN nt).wide x (vs.take m) = y := ⟨_, rfl⟩;rw [hy, hv] at htk;rw [hy] at hwb hx8 hx80;rw [hv] at hc hv1 hv2;have HTK := zqh htk;have hq1 := n8_big y hwb
   have hq2 : n8 y ≤ 1000000 := by omega
   have hq3 : n8 (wt nt v + wt nt (-v)) ≤ 1000000 := by have := n8_add (wt nt v) (wt nt (-v)); have := n8_short _ (Nat.lt_of_le_of_lt (wt_le nt v) big_one); have := n8_short _ (Nat.lt_of_le_of_lt (wt_le nt (-v)) big_one); omega
   clear htk hgm hv hy hwb hq1;have hres' := hres.drew;have hx8' := hx8.drew;have hrd' := HRD.out.drew;have hb' := belowDrewN hb 1
   change Below _ _ (World.drew _) at hb'
   have hc3 := below_cell hb hbrlt hr3;have hc5 := below_cell hb hbrlt hr5
   have hne : w.heap.size + 1 + 1 ≠ br := by omega
   go_wp2_with fail
   have h93 := below_cell hb' hbrlt hr3;have h95 := below_cell hb' hbrlt hr5;have h96 := boxCell hx8';refine wp_region_heldE (fun w' => w'.cell? ⟨br, 3, none⟩ = some (.func (.func 33) #[] #[]) ∧ w'.cell? ⟨br, 5, none⟩ = some (btV q) ∧ w'.cell? ⟨w.heap.size + 1 + 1, 0, none⟩ = some (Value.string (natB y))) 8 (by kernel_rfl) ⟨h93, h95, h96⟩ (fun hS => ?_);refine zqt 0 (v := ?_) hS rfl (Or.inl ⟨by rfl, ?_⟩) ?_;rotate_left
   ·(intro w hSw; go_simp; try with_reducible rfl)
   try simp only [Act.put, zqd, zqe, zqf]
   refine zqt 1 (v := ?_) hS rfl (Or.inl ⟨by rfl, ?_⟩) ?_;rotate_left
   ·(intro w hSw; go_simp; try with_reducible rfl)
   try simp only [Act.put, zqd, zqe, zqf]
   refine zqt 2 (v := ?_) hS rfl (Or.inl ⟨by rfl, ?_⟩) ?_;rotate_left
   ·(intro w hSw; go_simp; try with_reducible rfl)
   try simp only [Act.put, zqd, zqe, zqf]
   refine zqt 3 (v := ?_) hS rfl (Or.inl ⟨by rfl, ?_⟩) ?_;rotate_left
   ·(intro w hSw; go_simp; try with_reducible rfl)
   try simp only [Act.put, zqd, zqe, zqf]
   refine zqt 4 (v := ?_) hS rfl (Or.inl ⟨by rfl, ?_⟩) ?_;rotate_left
   ·(intro w hSw; go_simp; try with_reducible rfl)
   try simp only [Act.put, zqd, zqe, zqf]
   refine zqt 5 (v := ?_) hS rfl (Or.inl ⟨by rfl, ?_⟩) ?_;rotate_left
   ·(intro w hSw; go_simp; try with_reducible rfl)
   try simp only [Act.put, zqd, zqe, zqf]
   refine wpAnyE_one 6 (by kernel_rfl) rfl (fun K hK => ?_)
   go_simp
   go_at_call 132
   (with_reducible refine (both_fn _ p q nt v hv1 hv2 (below_cell hb' hqlt hq) (below_cell hb' hplt hp)).mono ?_)
   rintro e w9 ⟨rfl, hb10⟩;replace hres' := rowBelow hres' hb10;replace hx8' := rowBelow hx8' hb10;replace hb' := zqx hb' hb10 hb'.size;replace hrd' := (hrd'.below hb10).more hb10.size;have h93 := below_cell hb' hbrlt hr3;have h95 := below_cell hb' hbrlt hr5;have h96 := boxCell hx8';have h97 := hx8'.frozen 0;refine hK.out _ _ (fun _ => ⟨h93, h95, h96⟩) (fun hS => ?_);replace hS := hS (by decide);clear hK K
   try simp only [Act.put, zqd, zqe, zqf]
   refine wpAnyE_one 7 (by kernel_rfl) rfl (fun K hK => ?_)
   go_simp
   go_at_call 33
   (with_reducible refine (mul_any _ y (wt nt v + wt nt (-v)) hq2 hq3).mono ?_)
   rintro e w9 ⟨rfl, hb10⟩;replace hres' := rowBelow hres' hb10;replace hx8' := rowBelow hx8' hb10;replace hb' := zqx hb' hb10 hb'.size;replace hrd' := (hrd'.below hb10).more hb10.size;have h93 := below_cell hb' hbrlt hr3;have h95 := below_cell hb' hbrlt hr5;have h96 := boxCell hx8';have h97 := hx8'.frozen 0;refine hK.out _ _ (fun _ => ⟨h93, h95, h96⟩) (fun hS => ?_);replace hS := hS (by decide);clear hK K
   try simp only [Act.put, zqd, zqe, zqf]
   refine wpAnyE_one 8 (by kernel_rfl) rfl (fun K hK => ?_)
   go_simp
   refine hK.out _ _ (fun h => absurd rfl h) (fun _ => ?_);clear hK K;refine wpAnyE_done (by kernel_rfl) ?_ _
   all_goals
    try go_wp2
    go_roundw
    case rel =>
     refine ⟨m + 1, by omega, by go_num, hres'.setOther (by simp) _, ?_, ?_, hb'.setCell (by simp; omega) _⟩
     ·rw [HTK.out];exact boxSet hx8' _
     ·exact (rdSetOther hrd' _ _ fun b o h => by have := HGE.out b o h; simp; omega).more (by simp)
    case measure => simp [intOf]; omega
  ·obtain rfl : m = vs.length := by omega
   rw [List.take_length] at hx80;have hr0 := boxCell hres;have hrf := hres.frozen 0
   go_wp2
   exact ret_nat rfl _ rfl (boxSet hres _) rfl ⟨rfl, hb.setCell (by simp) _⟩
end Go.Proofs.YtmhllppjcilllaaGreatDoor
end
section
open Go Go.RowKit Cs
namespace Cs
theorem RN_pre {N : Nt} (h : shortB N = true) (nt : Int) (k : Nat) (hk : k ≤ N.l.length) (j : Nat) : (scan ((RN nt).step (own N.l)) [] (N.l.take k)).getD j 0 < big := by
 by_cases hj : j < k
 ·rw [scan_get _ _ _ _ _ hk hj]; exact RN_all h nt j
 ·rw [List.getD_eq_getElem?_getD, List.getElem?_eq_none (by rw [scan_len _ _ _ hk]; omega)];exact Nat.lt_trans Nat.zero_lt_one big_one
theorem gap_snoc (nt : Int) (O L : List Nat) (s all j : Nat) (hj : j < L.length) : (RN nt).gap O (L ++ [s]) all j = (RN nt).gap O L all j := by
 unfold Rg.gap
 congr 1
 show (L ++ [s]).getD j 0 = L.getD j 0;rw [getD_snoc, if_neg (by omega)]
end Cs
namespace Go.Proofs.YtmhllppjcilllaaGreatDoor
abbrev numA (p q : Nat) : Array Value := #[.func (.func 130) #[] #[], .func (.func 131) #[] #[], .func (.func 71) #[] #[], .func (.func 33) #[] #[], wtV p, btV q]
structure SE (w0 : World) (Q g : Nat) (n : Int) (l : List Nd) (A : Option Addr) (c p q : Nat) (O L : List Nat) (wr : World) : Prop where
 net : wr.rowIs w0.heap.size 24 2 (ntF ⟨n, l⟩ A c)
 ring : wr.rowIs (w0.heap.size + 1) 136 6 (ringF (numA p q))
 res : wr.rowIs (w0.heap.size + 1 + 1) 31 1 (fun _ => .string ⟨#[]⟩)
 b5 : wr.rowIs Q 115 1 (fun _ => .slice (some ⟨g, 0, none⟩) l.length l.length)
 out : wr.rowIs (Q + 1) 31 l.length (natsF L)
 b6 : wr.rowIs (Q + 1 + 1) 90 1 (fun _ => .slice (some ⟨Q + 1, 0, none⟩) l.length l.length)
 own : wr.rowIs g 96 (l.length * 2) (setsF O)
 bl : Below w0.heap.size w0 wr
section
variable {w0 : World} {Q g : Nat} {n : Int} {l : List Nd} {A : Option Addr} {c p q : Nat} {O L : List Nat} {wr w' : World}
theorem SE.below (h : SE w0 Q g n l A c p q O L wr) (hb : Below wr.heap.size wr w') : SE w0 Q g n l A c p q O L w' :=
 ⟨rowBelow h.net hb, rowBelow h.ring hb, rowBelow h.res hb, rowBelow h.b5 hb, rowBelow h.out hb, rowBelow h.b6 hb, rowBelow h.own hb, zqx h.bl hb h.bl.size⟩
theorem SE.drew (h : SE w0 Q g n l A c p q O L wr) : SE w0 Q g n l A c p q O L wr.drew :=
 ⟨h.net.drew, h.ring.drew, h.res.drew, h.b5.drew, h.out.drew, h.b6.drew, h.own.drew, belowDrewN h.bl 1⟩
theorem SE.alloc (h : SE w0 Q g n l A c p q O L wr) (o : Obj) : SE w0 Q g n l A c p q O L (wr.alloc o) := h.below ((zqr _ _).alloc (zqn _) _)
theorem SE.put (h : SE w0 Q g n l A c p q O L wr) (hq : w0.heap.size + 1 + 1 < Q) (hg : g < Q) (L' : List Nat) (i : Nat) (v : Value) (hr : (wr.setCell ⟨Q + 1, i, none⟩ v).rowIs (Q + 1) 31 l.length (natsF L')) :
  SE w0 Q g n l A c p q O L' (wr.setCell ⟨Q + 1, i, none⟩ v) :=
 ⟨h.net.setOther (by simp; omega) _, h.ring.setOther (by simp; omega) _, h.res.setOther (by simp; omega) _, h.b5.setOther (by simp) _, hr, h.b6.setOther (by simp) _, h.own.setOther (by simp; omega) _, h.bl.setCell (by simp; omega) _⟩
theorem SE.next (h : SE w0 Q g n l A c p q O L wr) (hq : w0.heap.size + 1 + 1 < Q) (hg : g < Q) (i s : Nat) (hi : i = L.length) : SE w0 Q g n l A c p q O (L ++ [s]) (wr.setCell ⟨Q + 1, i, none⟩ (.string (natB s))) :=
 h.put hq hg _ _ _ (natsNext h.out i s hi)
theorem SE.last {s0 : Nat} (h : SE w0 Q g n l A c p q O (L ++ [s0]) wr) (hq : w0.heap.size + 1 + 1 < Q) (hg : g < Q) (i s : Nat) (hi : i = L.length) : SE w0 Q g n l A c p q O (L ++ [s]) (wr.setCell ⟨Q + 1, i, none⟩ (.string (natB s))) :=
 h.put hq hg _ _ _ (natsLast h.out i s hi)
theorem SE.fn (h : SE w0 Q g n l A c p q O L wr) : wr.cell? ⟨w0.heap.size + 1, 0, none⟩ = some (.func (.func 130) #[] #[]) ∧ wr.cell? ⟨w0.heap.size + 1, 1, none⟩ = some (.func (.func 131) #[] #[]) ∧
  wr.cell? ⟨w0.heap.size + 1, 2, none⟩ = some (.func (.func 71) #[] #[]) ∧ wr.cell? ⟨w0.heap.size + 1, 3, none⟩ = some (.func (.func 33) #[] #[]) ∧ wr.cell? ⟨w0.heap.size + 1, 4, none⟩ = some (wtV p) ∧ wr.cell? ⟨w0.heap.size + 1, 5, none⟩ = some (btV q) :=
 ⟨h.ring.cell (i := 0) (by omega), h.ring.cell (i := 1) (by omega), h.ring.cell (i := 2) (by omega), h.ring.cell (i := 3) (by omega), h.ring.cell (i := 4) (by omega), h.ring.cell (i := 5) (by omega)⟩
theorem SE.boxes (h : SE w0 Q g n l A c p q O L wr) : wr.cell? ⟨Q, 0, none⟩ = some (.slice (some ⟨g, 0, none⟩) l.length l.length) ∧ wr.cell? ⟨Q + 1 + 1, 0, none⟩ = some (.slice (some ⟨Q + 1, 0, none⟩) l.length l.length) := ⟨boxCell h.b5, boxCell h.b6⟩
theorem SE.at (h : SE w0 Q g n l A c p q O L wr) (j y : Nat) (hj : j < l.length) (hy : L.getD j 0 = y) : wr.cell? ⟨Q + 1, j, none⟩ = some (.string (natB y)) := (h.out.cell (i := j) hj).trans (by unfold natsF; rw [hy])
theorem SE.nofr (h : SE w0 Q g n l A c p q O L wr) (j : Nat) : wr.frozen? ⟨Q + 1, j, none⟩ = false := h.out.frozen j
end
end Go.Proofs.YtmhllppjcilllaaGreatDoor
end
