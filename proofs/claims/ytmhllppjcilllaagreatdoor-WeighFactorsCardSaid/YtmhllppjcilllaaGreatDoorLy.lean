import Derived.Test.YtmhllppjcilllaaGreatDoorVc
import Derived.Test.YtmhllppjcilllaaGreatDoorDv
import Derived.Test.YtmhllppjcilllaaGreatDoorChecked
import Derived.Shelf.SlSortCmp.NoneTotal
import Derived.Shelf.SlicesE.Compact
import Derived.Shelf.SlicesE.IndexFunc
set_option linter.unusedSimpArgs false
set_option linter.unusedVariables false
section
open Go Go.RowKit Cs
namespace Cs
open Go.Proofs.YtmhllppjcilllaaGreatDoor
def termB (n : Int) (t : List Int) : Bool := t.all (fun x => litOk x n) && !decide (∃ x ∈ t, -x ∈ t)
theorem litOk_range {l : Int} {n : Int} {k : Nat} (h : litOk l n = true) (hn : n = (k : Int)) (hk : k ≤ 128) : (1 ≤ l ∧ l ≤ (k : Int)) ∨ (l ≤ -1 ∧ -l ≤ (k : Int)) := by
 unfold litOk at h;simp at h;have h0 := h.1;have h1 := h.2;unfold litVar at h0 h1;by_cases c1 : 1 ≤ l ∧ l ≤ 128
 ·rw [if_pos c1] at h1; omega
 ·rw [if_neg c1] at h0 h1;by_cases c2 : l ≤ -1 ∧ -128 ≤ l
  ·rw [if_pos c2] at h1; omega
  ·rw [if_neg c2] at h0; exact absurd rfl h0
theorem termB_lits {n : Int} {k : Nat} {t : List Int} (h : termB n t = true) (hn : n = (k : Int)) (hk : k ≤ 128) : ∀ l ∈ t, (1 ≤ l ∧ l ≤ (k : Int)) ∨ (l ≤ -1 ∧ -l ≤ (k : Int)) := fun l hl => by
 unfold termB at h;rw [Bool.and_eq_true, List.all_eq_true] at h;exact litOk_range (h.1 l hl) hn hk
theorem zz_eq {n : Nat} {lo hi : List Pr} (hl : lo.length = n + 1) (hh : hi.length = n + 1) : ∀ (k : Nat) (t : List Int), t.length = k → (∀ l ∈ t, l ≠ 0) → zlo t lo = wLo n lo t ∧ zhi t hi = wHi n hi t
 | 0, t, e, _ => by
   obtain rfl : t = [] := List.eq_nil_of_length_eq_zero e;rw [wLo_nil hl, wHi_nil hh];exact ⟨rfl, rfl⟩
 | k + 1, t, e, h => by
   rcases List.eq_nil_or_concat t with rfl | ⟨S, l, rfl⟩
   ·simp at e
   ·rw [List.concat_eq_append] at e h ⊢;obtain ⟨i1, i2⟩ := zz_eq hl hh k S (by simpa using e) (fun x hx => h x (by simp [hx]));rw [zlo_snoc, zhi_snoc, i1, i2];have h0 := h l (by simp);rcases Int.lt_or_le 0 l with hp | hp
    ·rw [if_pos hp, if_pos hp, wLo_snoc hp, wHi_same hp, show l.toNat = l.natAbs by omega];exact ⟨rfl, rfl⟩
    ·have hm : l < 0 := by omega
     rw [if_neg (by omega), if_neg (by omega), wHi_snoc hm, wLo_same hm, show (-l).toNat = l.natAbs by omega];exact ⟨rfl, rfl⟩
theorem sum_sp {N : Nt} {n : Nat} {lo hi : List Pr} (ok : WtOk n lo hi) (hv : vld N = true) (hd : dcmp N = true) (hs : shortB N = true) (hn : N.n = (n : Int)) : Sp ((RP n lo hi).sum N) := by
 obtain ⟨hn0, hn1, hl0, hl1⟩ := vld_bounds hv
 have := p_wide ok hv hd hs hn N.l.length (zqn _) (N.l.length - 1) (by omega) (allTo N.n) (fun x hx => by
  have := own_sub hv N.l.length (N.l.length - 1) (by omega) (by omega) x hx;rw [allTo_bit]
  exact decide_eq_true (by omega)) 128
 rw [List.take_length, List.take_of_length_le (vl_length _)] at this;exact this
def shareR (N : Nt) (n : Nat) (lo hi : List Pr) (t : List Int) : Pr × Int :=
 if termB N.n t = true then (if wfit N n lo hi = 0 then (if ((RP n lo hi).sum N).1 = 0 then ((0, 0), 3) else (pq (qp ((RP n (wLo n lo t) (wHi n hi t)).sum N) / qp ((RP n lo hi).sum N)), 0)) else ((0, 0), wfit N n lo hi)) else ((0, 0), 1)
theorem RW_split {N : Nt} {n : Nat} (hv : vld N = true) (hd : dcmp N = true) (hn : N.n = (n : Int)) (W Wl Wh : Int → Rat) (v : Nat) (h1 : 1 ≤ v) (h2 : v ≤ n)
  (hl : ∀ l, l ≠ (v : Int) → Wl l = W l) (hl0 : Wl (v : Int) = 0) (hh : ∀ l, l ≠ -(v : Int) → Wh l = W l) (hh0 : Wh (-(v : Int)) = 0) : (RW W).sum N = (RW Wl).sum N + (RW Wh).sum N :=
 sum_parts CQ hv hd W Wl Wh n hn v h1 h2 hl hl0 hh hh0
theorem part_add {N : Nt} {n : Nat} {lo hi : List Pr} (hW : WtIn n lo hi) (hb : ¬ 16384 < sumB lo n + sumB hi n) (hv : vld N = true) (hd : dcmp N = true) (hn : N.n = (n : Int)) (v : Nat) (h1 : 1 ≤ v) (h2 : v ≤ n) :
  qp ((RP n lo hi).sum N) = qp ((RP n (wLo n lo [(v : Int)]) (wHi n hi [(v : Int)])).sum N) + qp ((RP n (wLo n lo [-(v : Int)]) (wHi n hi [-(v : Int)])).sum N) := by
 rw [RP_sum (hW.ok hb), RP_sum (hW.okT hb _), RP_sum (hW.okT hb _), Rat.add_comm]
 have hvn : v < n + 1 := by omega
 have ev : ((v : Nat) : Int).natAbs = v := by omega
 have ev2 : (-((v : Nat) : Int)).natAbs = v := by omega
 refine RW_split hv hd hn _ _ _ v h1 h2 (fun l hl => ?_) ?_ (fun l hl => ?_) ?_
 ·show qp (plit n _ _ l) = qp (plit n _ _ l)
  congr 1
  unfold plit;by_cases hr : 1 ≤ l.natAbs ∧ l.natAbs ≤ n
  ·have hln : l.natAbs < n + 1 := by omega
   rw [if_pos hr, if_pos hr];by_cases hneg : l < 0
   ·rw [if_pos hneg, if_pos hneg, wLo_get, if_pos hln, if_neg (by rw [List.mem_singleton]; omega)]
   ·rw [if_neg hneg, if_neg hneg, wHi_get, if_pos hln, if_neg (by rw [List.mem_singleton]; omega)]
  ·rw [if_neg hr, if_neg hr]
 ·show qp (plit n _ _ (v : Int)) = 0;unfold plit;rw [ev, if_pos ⟨h1, h2⟩, if_neg (by omega), wHi_get, if_pos hvn, if_pos (by rw [List.mem_singleton]), qp_zero]
 ·show qp (plit n _ _ l) = qp (plit n _ _ l)
  congr 1
  unfold plit;by_cases hr : 1 ≤ l.natAbs ∧ l.natAbs ≤ n
  ·have hln : l.natAbs < n + 1 := by omega
   rw [if_pos hr, if_pos hr];by_cases hneg : l < 0
   ·rw [if_pos hneg, if_pos hneg, wLo_get, if_pos hln, if_neg (by rw [List.mem_singleton]; omega)]
   ·rw [if_neg hneg, if_neg hneg, wHi_get, if_pos hln, if_neg (by rw [List.mem_singleton]; omega)]
  ·rw [if_neg hr, if_neg hr]
 ·show qp (plit n _ _ (-(v : Int))) = 0;unfold plit;rw [ev2, if_pos ⟨h1, h2⟩, if_pos (by omega), wLo_get, if_pos hvn, if_pos (by rw [List.mem_singleton]), qp_zero]
end Cs
end
section
namespace Go.Proofs.YtmhllppjcilllaaGreatDoor
open Go.Shelf
def sortL_ren : Go.Shelf.Ren := ⟨fun | 6 => 151 | 15 => 173 | 14 => 172 | 28 => 156 | 29 => 184 | 20 => 176 | 21 => 177 | 22 => 178 | 23 => 179 | 24 => 180 | 25 => 181 | 26 => 182 | 27 => 183 | 46 => 185 | 47 => 186 | 48 => 187 | 49 => 188 | 50 => 189 | 57 => 190 | n => n, fun | 22 => 26 | 24 => 3 | 25 => 195 | 3 => 3 | 39 => 61 | 0 => 0 | 53 => 124 | 55 => 64 | 4 => 4 | 46 => 217 | 45 => 216 | 50 => 221 | 5 => 5 | 9 => 9 | 66 => 223 | 70 => 227 | 76 => 229 | 77 => 230 | n => n, fun | n => n⟩
theorem sortL : Go.Proofs.SlLaysF.n6 Tryz.prog sortL_ren := {
 mixed := by kernel_rfl
 f6 := ⟨Tryz.f151.name, by decide, Tryz.func151.trans (congrArg some (by kernel_rfl))⟩
 f14 := ⟨Tryz.f172.name, by decide, Tryz.func172.trans (congrArg some (by kernel_rfl))⟩
 f15 := Tryz.func173.trans (congrArg some (by kernel_rfl))
 f20 := ⟨Tryz.f176.name, by decide, Tryz.func176.trans (congrArg some (by kernel_rfl))⟩
 f21 := ⟨Tryz.f177.name, by decide, Tryz.func177.trans (congrArg some (by kernel_rfl))⟩
 f22 := ⟨Tryz.f178.name, by decide, Tryz.func178.trans (congrArg some (by kernel_rfl))⟩
 f23 := ⟨Tryz.f179.name, by decide, Tryz.func179.trans (congrArg some (by kernel_rfl))⟩
 f24 := ⟨Tryz.f180.name, by decide, Tryz.func180.trans (congrArg some (by kernel_rfl))⟩
 f25 := ⟨Tryz.f181.name, by decide, Tryz.func181.trans (congrArg some (by kernel_rfl))⟩
 f26 := ⟨Tryz.f182.name, by decide, Tryz.func182.trans (congrArg some (by kernel_rfl))⟩
 f27 := ⟨Tryz.f183.name, by decide, Tryz.func183.trans (congrArg some (by kernel_rfl))⟩
 f28 := Tryz.func156.trans (congrArg some (by kernel_rfl))
 f29 := Tryz.func184.trans (congrArg some (by kernel_rfl))
 f46 := ⟨Tryz.f185.name, by decide, Tryz.func185.trans (congrArg some (by kernel_rfl))⟩
 f47 := Tryz.func186.trans (congrArg some (by kernel_rfl))
 f48 := Tryz.func187.trans (congrArg some (by kernel_rfl))
 f49 := ⟨Tryz.f188.name, by decide, Tryz.func188.trans (congrArg some (by kernel_rfl))⟩
 f50 := ⟨Tryz.f189.name, by decide, Tryz.func189.trans (congrArg some (by kernel_rfl))⟩
 f57 := ⟨Tryz.f190.name, by decide, Tryz.func190.trans (congrArg some (by kernel_rfl))⟩
 t0 := Tryz.underlying0
 a0 := Tryz.isAgg0
 z0 := Tryz.sizeOf0
 v0 := Tryz.zeroValue0
 t3 := Tryz.underlying3
 a3 := Tryz.isAgg3
 z3 := Tryz.sizeOf3
 v3 := Tryz.zeroValue3
 t4 := Tryz.underlying4
 a4 := Tryz.isAgg4
 z4 := Tryz.sizeOf4
 v4 := Tryz.zeroValue4
 t5 := Tryz.underlying5
 a5 := Tryz.isAgg5
 z5 := Tryz.sizeOf5
 v5 := Tryz.zeroValue5
 t9 := Tryz.underlying9
 a9 := Tryz.isAgg9
 z9 := Tryz.sizeOf9
 v9 := Tryz.zeroValue9
 t22 := Tryz.underlying26
 a22 := Tryz.isAgg26
 z22 := Tryz.sizeOf26
 v22 := Tryz.zeroValue26
 a24 := Tryz.isAgg3
 z24 := Tryz.sizeOf3
 t25 := Tryz.underlying195
 a25 := Tryz.isAgg195
 z25 := Tryz.sizeOf195
 v25 := Tryz.zeroValue195
 t39 := Tryz.underlying61
 a39 := Tryz.isAgg61
 z39 := Tryz.sizeOf61
 v39 := Tryz.zeroValue61
 t45 := Tryz.underlying216
 a45 := Tryz.isAgg216
 z45 := Tryz.sizeOf216
 v45 := Tryz.zeroValue216
 t46 := Tryz.underlying217
 a46 := Tryz.isAgg217
 z46 := Tryz.sizeOf217
 v46 := Tryz.zeroValue217
 t50 := Tryz.underlying221
 a50 := Tryz.isAgg221
 z50 := Tryz.sizeOf221
 v50 := Tryz.zeroValue221
 t53 := Tryz.underlying124
 a53 := Tryz.isAgg124
 z53 := Tryz.sizeOf124
 v53 := Tryz.zeroValue124
 t55 := Tryz.underlying64
 a55 := Tryz.isAgg64
 z55 := Tryz.sizeOf64
 v55 := Tryz.zeroValue64
 t66 := Tryz.underlying223
 a66 := Tryz.isAgg223
 z66 := Tryz.sizeOf223
 v66 := Tryz.zeroValue223
 t70 := Tryz.underlying227
 a70 := Tryz.isAgg227
 z70 := Tryz.sizeOf227
 v70 := Tryz.zeroValue227
 t76 := Tryz.underlying229
 a76 := Tryz.isAgg229
 z76 := Tryz.sizeOf229
 v76 := Tryz.zeroValue229
 t77 := Tryz.underlying230
 a77 := Tryz.isAgg230
 z77 := Tryz.sizeOf230
 v77 := Tryz.zeroValue230 }
def compL_ren : Go.Shelf.Ren := ⟨fun | 43 => 154 | n => n, fun | 22 => 26 | 23 => 3 | 3 => 3 | 4 => 4 | 0 => 0 | n => n, fun | n => n⟩
theorem compL : Go.Proofs.SlLaysE.n43 Tryz.prog compL_ren := {
 mixed := by kernel_rfl
 f43 := ⟨Tryz.f154.name, by decide, Tryz.func154.trans (congrArg some (by kernel_rfl))⟩
 t0 := Tryz.underlying0
 a0 := Tryz.isAgg0
 z0 := Tryz.sizeOf0
 v0 := Tryz.zeroValue0
 t3 := Tryz.underlying3
 a3 := Tryz.isAgg3
 z3 := Tryz.sizeOf3
 v3 := Tryz.zeroValue3
 t4 := Tryz.underlying4
 a4 := Tryz.isAgg4
 z4 := Tryz.sizeOf4
 v4 := Tryz.zeroValue4
 t22 := Tryz.underlying26
 a22 := Tryz.isAgg26
 z22 := Tryz.sizeOf26
 v22 := Tryz.zeroValue26
 a23 := Tryz.isAgg3
 z23 := Tryz.sizeOf3 }
def contL_ren : Go.Shelf.Ren := ⟨fun | 8 => 94 | 6 => 139 | n => n, fun | 22 => 26 | 23 => 3 | 25 => 152 | 4 => 4 | 3 => 3 | 0 => 0 | n => n, fun | n => n⟩
theorem contL : Go.Proofs.SlLaysH.n8 Tryz.prog contL_ren := {
 mixed := by kernel_rfl
 f6 := ⟨Tryz.f139.name, by decide, Tryz.func139.trans (congrArg some (by kernel_rfl))⟩
 f8 := ⟨Tryz.f94.name, by decide, Tryz.func94.trans (congrArg some (by kernel_rfl))⟩
 t0 := Tryz.underlying0
 a0 := Tryz.isAgg0
 z0 := Tryz.sizeOf0
 v0 := Tryz.zeroValue0
 t3 := Tryz.underlying3
 a3 := Tryz.isAgg3
 z3 := Tryz.sizeOf3
 v3 := Tryz.zeroValue3
 t4 := Tryz.underlying4
 a4 := Tryz.isAgg4
 z4 := Tryz.sizeOf4
 v4 := Tryz.zeroValue4
 t22 := Tryz.underlying26
 a22 := Tryz.isAgg26
 z22 := Tryz.sizeOf26
 v22 := Tryz.zeroValue26
 a23 := Tryz.isAgg3
 z23 := Tryz.sizeOf3
 t25 := Tryz.underlying152
 a25 := Tryz.isAgg152
 z25 := Tryz.sizeOf152
 v25 := Tryz.zeroValue152 }
end Go.Proofs.YtmhllppjcilllaaGreatDoor
end
