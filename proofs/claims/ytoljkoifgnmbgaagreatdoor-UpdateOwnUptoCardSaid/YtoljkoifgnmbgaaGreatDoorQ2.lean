import Derived.Test.YtoljkoifgnmbgaaGreatDoorS1
import Derived.Test.YtoljkoifgnmbgaaGreatDoorShort
import Derived.Lib.MinMax
import Derived.Test.YtoljkoifgnmbgaaGreatDoorM1
set_option linter.unusedSimpArgs false
set_option linter.unusedVariables false
section
section
open Go Go.RowKit Cs
namespace Cs
def ev (a : List Nat) : Nat := a.foldr (· + ·) 0
end Cs
end
section
open Go Go.RowKit Cs
namespace Cs
theorem fold_bit (acc : List Nat) (i : Nat) : ∀ (ks : List Int) (s : Nat), (ks.foldl (fun s k => s ||| acc.getD k.toNat 0) s).testBit i = (s.testBit i || ks.any fun k => (acc.getD k.toNat 0).testBit i)
 | [], s => by simp
 | k :: ks, s => by
   show (ks.foldl _ (s ||| acc.getD k.toNat 0)).testBit i = _;rw [fold_bit acc i ks, Nat.testBit_or, List.any_cons, Bool.or_assoc]
theorem own_bit {N : Nt} (hv : vld N = true) (k : Nat) (hk : k < N.l.length) (i : Nat) :
  ((own N.l).getD k 0).testBit i = ((wth 0 (litVar N.l[k].lit)).testBit i || N.l[k].ins.any fun j => ((own N.l).getD j.toNat 0).testBit i) := by
 have h1 : (own N.l).getD k 0 = ownStep (scan ownStep [] (N.l.take k)) N.l[k] := by unfold own; rw [scan_step _ _ _ _ hk]
 rw [h1];show (N.l[k].ins.foldl (fun s j => s ||| (scan ownStep [] (N.l.take k)).getD j.toNat 0) (wth 0 (litVar N.l[k].lit))).testBit i = _;rw [fold_bit]
 congr 1
 have hin := Go.Proofs.YtoljkoifgnmbgaaGreatDoor.formed_ins (vld_formed hv k hk);rw [Bool.eq_iff_iff, List.any_eq_true, List.any_eq_true]
 have key : ∀ j ∈ N.l[k].ins, (scan ownStep [] (N.l.take k)).getD j.toNat 0 = (own N.l).getD j.toNat 0 := fun j hj => by
  obtain ⟨a, ha, rfl⟩ := List.getElem_of_mem hj;obtain ⟨m, hm1, hm2⟩ := hin a ha
  have : N.l[k].ins[a] = (m : Int) := by rw [← hm1]; simp [List.getD, ha]
  rw [this, Int.toNat_natCast];exact scan_get ownStep 0 N.l k m (by omega) hm2
 constructor
 ·rintro ⟨j, hj, h⟩; exact ⟨j, hj, by rw [← key j hj]; exact h⟩
 ·rintro ⟨j, hj, h⟩; exact ⟨j, hj, by rw [key j hj]; exact h⟩
theorem own_ins {N : Nt} (hv : vld N = true) (k : Nat) (hk : k < N.l.length) (j : Int) (hj : j ∈ N.l[k].ins) (i : Nat) (h : ((own N.l).getD j.toNat 0).testBit i = true) : ((own N.l).getD k 0).testBit i = true := by
 rw [own_bit hv k hk i, Bool.or_eq_true];exact .inr (List.any_eq_true.2 ⟨j, hj, h⟩)
theorem dcmpL_at (O : List Nat) : ∀ (l : List Nd) (k : Nat) (hk : k < l.length), dcmpL O l = true → l[k].kind = 3 → apart O 0 l[k].ins = true
 | x :: xs, 0, _, h, h3 => by
   unfold dcmpL at h
   change x.kind = 3 at h3
   rw [if_pos h3, Bool.and_eq_true] at h;exact h.1
 | x :: xs, k + 1, hk, h, h3 => by
   unfold dcmpL at h
   have h2 : dcmpL O xs = true := by
    split at h
    ·rw [Bool.and_eq_true] at h; exact h.2
    ·exact h
   exact dcmpL_at O xs k (by simpa using hk) h2 h3
end Cs
end
section
open Go Go.RowKit Cs
namespace Cs
theorem litVar_formed {x : Nd} {n before : Int} (h : formed x n before = true) (hn : 0 ≤ n) : litVar x.lit ≤ n := by
 unfold formed at h;split at h
 ·cases h
 ·split at h
  ·simp at h; rw [h.1]; exact hn
  ·split at h
   ·simp [litOk] at h; exact h.1.2
   ·split at h
    ·simp at h; rw [h]; exact hn
    ·cases h
theorem wth_zero_bit (v : Int) (i : Nat) (h : (wth 0 v).testBit i = true) : (i : Int) + 1 = v := by
 unfold wth at h;split at h
 ·rw [Nat.zero_or, Nat.testBit_two_pow] at h
  simp at h; omega
 ·simp at h
theorem own_sub {N : Nt} (hv : vld N = true) : ∀ (m k : Nat), k < m → k < N.l.length → ∀ i, ((own N.l).getD k 0).testBit i = true → (i : Int) < N.n
 | m + 1, k, hkm, hk, i, h => by
   obtain ⟨hn0, hn1, _, _⟩ := vld_bounds hv;rw [own_bit hv k hk i, Bool.or_eq_true, List.any_eq_true] at h;rcases h with h | ⟨j, hj, h⟩
   ·have h1 := wth_zero_bit _ _ h;have h2 := litVar_formed (vld_formed hv k hk) hn0;omega
   ·obtain ⟨a, ha, rfl⟩ := List.getElem_of_mem hj;obtain ⟨b, hb1, hb2⟩ := Go.Proofs.YtoljkoifgnmbgaaGreatDoor.formed_ins (vld_formed hv k hk) a ha
    have e : N.l[k].ins[a] = (b : Int) := by rw [← hb1]; simp [List.getD, ha]
    rw [e, Int.toNat_natCast] at h;exact own_sub hv m b (by omega) (by omega) i h
end Cs
namespace Cs
section
variable {α : Type}
theorem vl_mem {s : Nat} {v : Int} (h : v ∈ vl s) : ∃ i : Nat, s.testBit i = true ∧ v = (i : Int) + 1 := by
 rw [vl_eq] at h;obtain ⟨a, ha, rfl⟩ := List.mem_map.1 h;unfold vlist at ha;obtain ⟨i, hi, rfl⟩ := List.mem_map.1 ha;rw [List.mem_filter] at hi;exact ⟨i, hi.2, by simp⟩
variable (R : Rg α) (n : Int)
end
end Cs
namespace Cs
structure CR {α : Type} (R : Rg α) : Prop where
 addc : ∀ a b, R.add a b = R.add b a
 adda : ∀ a b c, R.add (R.add a b) c = R.add a (R.add b c)
 mulc : ∀ a b, R.mul a b = R.mul b a
 mula : ∀ a b c, R.mul (R.mul a b) c = R.mul a (R.mul b c)
 zadd : ∀ a, R.add R.zero a = a
 omul : ∀ a, R.mul R.one a = a
 zmul : ∀ a, R.mul R.zero a = R.zero
 dist : ∀ a b c, R.mul a (R.add b c) = R.add (R.mul a b) (R.mul a c)
def Rg.wit {α : Type} (R : Rg α) (W : Int → α) : Rg α := ⟨R.zero, R.one, R.add, R.mul, W, fun v => R.add (W v) (W (-v))⟩
theorem mem_vl {s : Nat} {i : Nat} (h : i < 128) : ((i : Int) + 1 ∈ vl s) ↔ s.testBit i = true := by
 constructor
 ·intro hm;obtain ⟨j, hj, e⟩ := vl_mem hm
  have : i = j := by omega
  rw [this]; exact hj
 ·intro hb;rw [vl_eq, List.mem_map];refine ⟨i + 1, ?_, by simp⟩;unfold vlist;exact List.mem_map.2 ⟨i, List.mem_filter.2 ⟨List.mem_range.2 h, hb⟩, rfl⟩
theorem litOk_rng' {l n : Int} (h : litOk l n = true) : (1 ≤ l ∧ l ≤ n ∧ l ≤ 128) ∨ (l ≤ -1 ∧ -l ≤ n ∧ -l ≤ 128) := by
 unfold litOk litVar at h;have h := of_decide_eq_true h
 revert h
 (repeat' split) <;> intro h <;> omega
theorem vl_nodup (s : Nat) : (vl s).Nodup := by
 rw [vl_eq];unfold vlist;refine List.Pairwise.map (R := (· ≠ ·)) (S := (· ≠ ·)) _ (fun a b h e => h (by omega)) (List.Pairwise.map (R := (· ≠ ·)) (S := (· ≠ ·)) _ (fun a b h e => h (by omega)) (List.Pairwise.filter _ List.nodup_range))
theorem wth_bit (l : Int) (i : Nat) : (wth 0 (litVar l)).testBit i = decide (litVar l = (i : Int) + 1) := by
 have hl := litVar_le l;obtain ⟨m, hm⟩ : ∃ m, litVar l = m := ⟨_, rfl⟩;rw [hm] at hl ⊢;unfold wth;by_cases h : 1 ≤ m ∧ m ≤ 128
 ·rw [if_pos h, Nat.zero_or, Nat.testBit_two_pow];exact decide_eq_decide.2 (by omega)
 ·rw [if_neg h, Nat.zero_testBit];exact (decide_eq_false (by omega)).symm
section
variable {α : Type} {R : Rg α}
def Ln (R : Rg α) (a b : α) (i : Bool) (p q t : α) : Prop := if i = true then p = R.add (R.mul a q) (R.mul b t) else p = q ∧ p = t
variable {a b : α}
theorem CR.tsid (C : CR R) (a b c : α) : R.mul (R.add a b) c = R.add (R.mul a c) (R.mul b c) := by rw [C.mulc, C.dist, C.mulc c a, C.mulc c b]
theorem CR.add4 (C : CR R) (a b c d : α) : R.add (R.add a b) (R.add c d) = R.add (R.add a c) (R.add b d) := by
 rw [C.adda, C.adda, ← C.adda b c d, C.addc b c, C.adda c b d]
theorem Ln.mulR (C : CR R) {i : Bool} {p q t : α} (h : Ln R a b i p q t) (c : α) : Ln R a b i (R.mul p c) (R.mul q c) (R.mul t c) := by
 unfold Ln at *
 split
 ·rename_i h0;rw [if_pos h0] at h;rw [h, C.tsid, C.mula, C.mula]
 ·rename_i h0;rw [if_neg h0] at h;exact ⟨by rw [h.1], by rw [h.2]⟩
theorem Ln.mulL (C : CR R) {i : Bool} {p q t : α} (h : Ln R a b i p q t) (c : α) : Ln R a b i (R.mul c p) (R.mul c q) (R.mul c t) := by
 rw [C.mulc c p, C.mulc c q, C.mulc c t]; exact h.mulR C c
theorem Ln.add (C : CR R) {i : Bool} {p q t p' q' t' : α} (h : Ln R a b i p q t) (h' : Ln R a b i p' q' t') : Ln R a b i (R.add p p') (R.add q q') (R.add t t') := by
 unfold Ln at *
 split
 ·rename_i h0;rw [if_pos h0] at h h';rw [h, h', C.add4, C.dist, C.dist]
 ·rename_i h0;rw [if_neg h0] at h h';exact ⟨by rw [h.1, h'.1], by rw [h.2, h'.2]⟩
theorem Ln.no {p q t : α} (h : Ln R a b false p q t) : p = q ∧ p = t := h
theorem Ln.mul (C : CR R) {i j : Bool} {p q t p' q' t' : α} (h : Ln R a b i p q t) (h' : Ln R a b j p' q' t') (hij : ¬ (i = true ∧ j = true)) : Ln R a b (i || j) (R.mul p p') (R.mul q q') (R.mul t t') := by
 cases j
 ·obtain ⟨rfl, rfl⟩ := h'.no;rw [Bool.or_false];exact h.mulR C _
 ·cases i
  ·obtain ⟨rfl, rfl⟩ := h.no;exact h'.mulL C _
  ·exact absurd ⟨rfl, rfl⟩ hij
variable (W : Int → α) (v : Int)
theorem vl_pos (s : Nat) : ∀ u ∈ vl s, 1 ≤ u := fun u hu => by
 obtain ⟨i, _, rfl⟩ := vl_mem hu; omega
theorem formed_mem {x : Nd} {n : Int} {k : Nat} (h : formed x n (k : Int) = true) : ∀ j ∈ x.ins, ∃ m : Nat, j = (m : Int) ∧ m < k := fun j hj => by
 obtain ⟨a, ha, rfl⟩ := List.getElem_of_mem hj;obtain ⟨m, hm1, hm2⟩ := Go.Proofs.YtoljkoifgnmbgaaGreatDoor.formed_ins h a ha;exact ⟨m, by rw [← hm1]; simp [List.getD, ha], hm2⟩
theorem formed_litOk {x : Nd} {n b : Int} (h : formed x n b = true) (h2 : x.kind = 2) : litOk x.lit n = true ∧ x.ins = [] := by
 unfold formed at h
 simp [h2] at h; exact h.2
theorem scan_old {α : Type} (f : List α → Nd → α) (d : α) (xs : List Nd) (k j : Nat) (h : k < xs.length) (hj : j < k) : (scan f [] (xs.take (k + 1))).getD j d = (scan f [] (xs.take k)).getD j d := by
 rw [scan_take _ _ k h, List.getD_eq_getElem?_getD, List.getElem?_append_left (by rw [scan_len _ _ _ (by omega)]; exact hj), ← List.getD_eq_getElem?_getD]
end
end Cs
namespace Cs
section
variable {α : Type} (R : Rg α)
def Rg.sumTo (f : Nat → α) : Nat → α
 | 0 => R.zero
 | m + 1 => R.add (Rg.sumTo f m) (f m)
variable {R}
end
end Cs
end
end
section
set_option maxRecDepth 100000
set_option maxHeartbeats 400000
section
open Go Go.RowKit Cs
namespace Cs
def wt (nt l : Int) : Nat := if l = nt then 0 else 1
def RN (nt : Int) : Rg Nat := ⟨0, 1, (· + ·), (· * ·), wt nt, fun v => wt nt v + wt nt (-v)⟩
def cchk (N : Nt) : Int := if vld N then (if dcmp N then (if shortB N then 0 else 2) else 210) else 1
end Cs
namespace Go.Proofs.YtoljkoifgnmbgaaGreatDoor
abbrev wtV (p : Nat) : Value := .func (.func 125) #[] #[.pointer (some ⟨p, 0, none⟩)]
abbrev btV (q : Nat) : Value := .func (.func 128) #[] #[.pointer (some ⟨q, 0, none⟩)]
abbrev numV (p q : Nat) : Value := .agg #[.func (.func 126) #[] #[], .func (.func 127) #[] #[], .func (.func 36) #[] #[], .func (.func 48) #[] #[], wtV p, btV q]
theorem countCheck_any (w : World) (N : Nt) (A : Option Addr) (c : Nat) (hlen : N.l.length ≤ 140737488355328) (hN : NtAt w w.heap.size A N.l) (hT : Tab w) :
  Calls Tryz.prog 74 #[ntV N A c] w fun e w' => e = .returned (.int .i64 (cchk N)) ∧ Below w.heap.size w w' := by
 have hbox := ntNew w N A c 24 _ rfl;have hbl : Below w.heap.size w (w.alloc (.cells #[.int .i64 N.n, .slice A N.l.length c] 24)) := (zqr _ _).alloc (zqn _) _;cases hv : vld N
 ·have hck : cchk N = 1 := by unfold cchk; rw [hv]; rfl
  have hnc : ∀ W, NtAt W W.heap.size A N.l → Calls Tryz.prog 86 #[ntV N A c] W fun e w' => e = .returned (.int .i64 1) ∧ Below W.heap.size W w' := fun W h => by
   have := nodeCheck_any W N A c hlen h
   have h2 : chk N = 1 := by unfold chk; rw [hv]; rfl
   rwa [h2] at this
  rw [hck];have HNC := zqh hnc;clear hck hnc hv;obtain ⟨n, l⟩ := N
  go_enter Tryz.func74, Tryz.ntmps74
  go_wp2_with (
   go_at_call 86
   (with_reducible refine (HNC.out _ ((hN.below hbl).more hbl.size)).mono ?_)
   rintro e w5 ⟨rfl, hb5⟩
   have hbl5 := zqx hbl hb5 hbl.size)
  go_ret
  exact ⟨rfl, hbl5⟩
 ·have hck : cchk N = if dcmp N then (if shortB N then 0 else 2) else 210 := by unfold cchk; rw [hv]; rfl
  have hnc : ∀ W, NtAt W W.heap.size A N.l → Calls Tryz.prog 86 #[ntV N A c] W fun e w' => e = .returned (.int .i64 0) ∧ Below W.heap.size W w' := fun W h => by
   have := nodeCheck_any W N A c hlen h
   have h2 : chk N = 0 := by unfold chk; rw [hv]; rfl
   rwa [h2] at this
  have hdc := fun W h => decomposable_any W N A c h hv;have hsh := fun W h hT => short_any W N A c h hv hT;rw [hck];have HNC := zqh hnc;clear hck hnc hv;cases hd : dcmp N
  ·rw [hd] at hdc;have HDC := zqh hdc;clear hdc hd hsh;obtain ⟨n, l⟩ := N
   go_enter Tryz.func74, Tryz.ntmps74
   go_wp2_with (first
    | (go_at_call 86
       (with_reducible refine (HNC.out _ ((hN.below hbl).more hbl.size)).mono ?_)
       rintro e w5 ⟨rfl, hb5⟩;have hbl5 := zqx hbl hb5 hbl.size;have hbox5 := rowBelow hbox hb5
       obtain ⟨hc1, hc2⟩ := ntCells hbox5)
    | (go_at_call 121
       (with_reducible refine (HDC.out _ ((hN.below hbl5).more hbl5.size)).mono ?_)
       rintro e w6 ⟨rfl, hb6⟩
       have hbl6 := zqx hbl5 hb6 hbl5.size))
   go_ret
   exact ⟨rfl, hbl6⟩
  ·rw [hd] at hdc;have HDC := zqh hdc;clear hdc hd;cases hs : shortB N
   all_goals
    rw [hs] at hsh;have HSH := zqh hsh;clear hsh hs;obtain ⟨n, l⟩ := N
    go_enter Tryz.func74, Tryz.ntmps74
    go_wp2_with (first
     | (go_at_call 86
        (with_reducible refine (HNC.out _ ((hN.below hbl).more hbl.size)).mono ?_)
        rintro e w5 ⟨rfl, hb5⟩;have hbl5 := zqx hbl hb5 hbl.size;have hbox5 := rowBelow hbox hb5
        obtain ⟨hc1, hc2⟩ := ntCells hbox5)
     | (go_at_call 121
        (with_reducible refine (HDC.out _ ((hN.below hbl5).more hbl5.size)).mono ?_)
        rintro e w6 ⟨rfl, hb6⟩;have hbl6 := zqx hbl5 hb6 hbl5.size;have hbox6 := rowBelow hbox5 hb6
        obtain ⟨hc3, hc4⟩ := ntCells hbox6)
     | (go_at_call 122
        (with_reducible refine (HSH.out _ ((hN.below hbl6).more hbl6.size) (hT.below hbl6)).mono ?_)
        rintro e w7 ⟨rfl, hb7⟩
        have hbl7 := zqx hbl6 hb7 hbl6.size))
    go_ret
    exact ⟨rfl, hbl7⟩
end Go.Proofs.YtoljkoifgnmbgaaGreatDoor
end
section
open Go Go.RowKit Cs
namespace Cs
theorem vl_bounds (s : Nat) : ∀ v ∈ vl s, 1 ≤ v ∧ v ≤ 128 := by
 intro v hv;rw [vl_eq, List.mem_map] at hv;obtain ⟨u, hu, rfl⟩ := hv;unfold vlist at hu;simp at hu;omega
end Cs
end
end
section
section
open Go Go.RowKit Cs
namespace Cs
abbrev sN (f : Nat → Nat) (m : Nat) : Nat := (RN 0).sumTo f m
end Cs
namespace Cs
def hld (s : Nat) (l : Int) : Bool := decide (litVar l ≠ 0) && (s.testBit ((litVar l).toNat - 1) == decide (0 < l))
def evStart (s : Nat) (x : Nd) : Bool := decide (x.kind = 1) || decide (x.kind = 3) || (decide (x.kind = 2) && hld s x.lit)
def evIn (acc : List Bool) (x : Nd) (b : Bool) (k : Int) : Bool := if x.kind = 3 then b && acc.getD k.toNat false else b || acc.getD k.toNat false
def evStep (s : Nat) (acc : List Bool) (x : Nd) : Bool := x.ins.foldl (evIn acc x) (evStart s x)
def truth (s : Nat) (l : List Nd) : List Bool := scan (evStep s) [] l
theorem formed_kinds {x : Nd} {n b : Int} (h : formed x n b = true) : x.kind = 0 ∨ x.kind = 1 ∨ x.kind = 2 ∨ x.kind = 3 ∨ x.kind = 4 := by
 rcases formed_kind h with ⟨h1 | h1 | h1, _⟩ | h1 | h1
 ·exact .inl h1
 ·exact .inr (.inl h1)
 ·exact .inr (.inr (.inl h1))
 ·exact .inr (.inr (.inr (.inl h1)))
 ·exact .inr (.inr (.inr (.inr h1)))
end Cs
namespace Cs
def b1 (b : Bool) : Nat := if b then 1 else 0
end Cs
end
end
