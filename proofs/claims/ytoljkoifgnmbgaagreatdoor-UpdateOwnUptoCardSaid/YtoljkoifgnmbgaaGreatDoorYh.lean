import Derived.Test.YtoljkoifgnmbgaaGreatDoorM1
import Derived.Test.YtoljkoifgnmbgaaGreatDoorQ2
import Derived.Laws.EntriesVeiled
import Derived.Laws.ResultCell
import Derived.Deep.CutRange
import Derived.Test.YtoljkoifgnmbgaaGreatDoorDl
import Derived.WalkMore
import Derived.Deep.CutBlock
import Derived.Test.YtoljkoifgnmbgaaGreatDoorDt
import Derived.Test.YtoljkoifgnmbgaaGreatDoorDs
import Derived.Lib.SliceRun
import Derived.Test.YtoljkoifgnmbgaaGreatDoorVc
import Derived.BigRegion
set_option linter.unusedSimpArgs false
set_option linter.unusedVariables false
section

end
section
open Go Go.RowKit Cs
end
section
end
section
open Go Go.RowKit Cs
end
section

end
section
set_option maxRecDepth 100000
set_option maxHeartbeats 1000000
section
open Go Go.RowKit Cs
namespace Cs
theorem ownsRows {w : World} {n : Nat} {base : Nat} {e : TypeId} {size : Nat} {v : Value} {xs : List Value} (h : w.ownsRow base e size v n xs) (hn : 0 < n) :
  ∃ g cap f, v = .slice (some ⟨g, 0, none⟩) n cap ∧ base ≤ g ∧ g < w.heap.size ∧ n ≤ cap ∧ w.rowIs g e (cap * size) f ∧ ∀ i, i < n * size → xs[i]? = some (f i) := by
 obtain ⟨h1, h2⟩ := h;rcases h2 with ⟨_, h0⟩ | ⟨g, cap, cur, rfl, hb, hg, hc, _, hs, ht⟩
 ·omega
 ·have hlt : g < w.heap.size := by
   rcases Nat.lt_or_ge g w.heap.size with h' | h'
   ·exact h'
   ·rw [Array.getElem?_eq_none h'] at hg; cases hg
  refine ⟨g, cap, fun i => cur.getD i undef, rfl, hb, hlt, hc, ⟨cur, hg, hs, fun i hi => ?_⟩, fun i hi => ?_⟩
  ·show cur[i]? = some (cur.getD i undef)
   rw [Array.getD_eq_getD_getElem?, Array.getElem?_eq_getElem (by omega)]; rfl
  ·have hle : n * size ≤ cap * size := Nat.mul_le_mul_right _ hc;rw [← ht, List.getElem?_take, if_pos hi];show cur.toList[i]? = some (cur.getD i undef);rw [Array.getD_eq_getD_getElem?]
   rw [Array.getElem?_toList, Array.getElem?_eq_getElem (by omega)]; rfl
end Cs
namespace Go.Proofs.YtoljkoifgnmbgaaGreatDoor
def ClnR (w : World) (n : Nat) (f : Nat → Value) (e : Ending) (w' : World) : Prop := ∃ A c, e = .returned (.slice A n c) ∧ (0 < n → ∃ g F, A = some ⟨g, 0, none⟩ ∧ w.heap.size ≤ g ∧ n ≤ c ∧ w'.rowIs g 60 (c * 2) F ∧ ∀ i, i < n * 2 → F i = f i) ∧ Below w.heap.size w w'
theorem clnR_mk (w : World) (n : Nat) (f : Nat → Value) (v : Value) (w' : World) (h : w'.ownsRow w.heap.size 60 2 v n ((List.range (n * 2)).map f)) (hn : v = .slice none 0 0 → False) (hb : Below w.heap.size w w') : ClnR w n f (.returned v) w' := by
 rcases Nat.eq_zero_or_pos n with h0 | h0
 ·rcases h.2 with ⟨e, _⟩ | ⟨g, cap, cur, e, _⟩
  ·exact (hn e).elim
  ·exact ⟨_, _, by rw [e], fun h' => absurd h' (by omega), hb⟩
 ·obtain ⟨g, cap, F, rfl, hg, hlt, hc, hr, hf⟩ := ownsRows h h0;refine ⟨_, _, rfl, fun _ => ⟨g, F, rfl, hg, hc, hr, fun i hi => ?_⟩, hb⟩;have := hf i hi
  have e : ((List.range (n * 2)).map f)[i]? = some (f i) := by simp [hi]
  rw [e] at this;exact (Option.some.inj this).symm
theorem cloneRats_any (w : World) (A : Option Addr) (c : Nat) (n : Nat) (f : Nat → Value) (hlen : n ≤ 1000000000000) (h1 : ∀ i, i < n * 2 → (f i).oneCell' = true) (hA : Rd w w.heap.size A (n * 2) f) :
  Calls Tryz.prog 44 #[.slice A n c] w (ClnR w n f) := by
 obtain ⟨i0, hi, hz0, hz1, hz2⟩ := info_parts info_rat;have q22 : ∀ (w : World) (a : Option Addr) (n c n' c' : Nat), (binOp .eql 28 (.slice a n c) (.slice none n' c')).run Tryz.prog w = .ok (.bool a.isNone) w := fun w a n c n' c' => Lib.run_eql_slice_nil w _ _ a n c n' c' Tryz.underlying28;cases A with
 | none =>
   obtain rfl : n = 0 := by
    rcases Nat.eq_zero_or_pos n with h | h
    ·exact h
    ·obtain ⟨b, o, e, _⟩ := hA (by omega); cases e
   clear hA hlen h1
   go_enter Tryz.func44, Tryz.ntmps44
   go_wp2
   go_ret
   exact ⟨none, 0, rfl, fun h => absurd h (by omega), zqr _ _⟩
 | some a =>
   have HA := zqh hA;clear hA
   go_enter Tryz.func44, Tryz.ntmps44
   go_wp2_with (at_builtin; refine wpList_append_own _ rfl _ _ 28 rfl w.heap.size 60 i0 (.agg #[.string ⟨#[]⟩, .string ⟨#[]⟩]) 2 32 Tryz.underlying28 hi hz0 hz1 hz2 rfl (by decide) _ _ _ rfl (World.ownsRow_made w #[] 0 (zqn _) (Nat.zero_le _) rfl) a n c ((List.range (n * 2)).map f) rfl ?qc1 ?qc2 ?qc3 ?qc4 ?qc5 ?qc6 ?_)
   case qc1 => simp
   case qc2 =>
    intro j u hj
    have hjn : j < n * 2 := by
     have := (List.getElem?_eq_some_iff.1 hj).1
     simpa using this
    obtain ⟨b, o, e, hB, hc⟩ := HA.out (by omega)
    obtain rfl : a = ⟨b, o, none⟩ := by injection e
    rw [Addr.add_lit];refine Lib.cell?_alloc_some _ ?_;rw [hc j hjn]
    have e : ((List.range (n * 2)).map f)[j]? = some (f j) := by simp [hjn]
    rw [e] at hj;exact hj
   case qc3 => intro u hu; obtain ⟨x, hx, rfl⟩ := List.mem_map.1 hu; exact h1 x (by simpa using hx)
   case qc4 => unfold maxLen; omega
   case qc5 => omega
   case qc6 => simp
   intro v' w1 hown hgrow hnil
   go_wp2
   go_ret
   exact clnR_mk w n f v' w1 (by simpa using hown) hnil (((Below.refl _ w).alloc (zqn _) _).grown hgrow (by simp) (by intro k hk; simp [Value.ownBlock] at hk; omega))
end Go.Proofs.YtoljkoifgnmbgaaGreatDoor
end
section
open Go Go.RowKit Cs
namespace Cs
def PrR (w : World) (g : Nat) (t : TypeId) (m n : Nat) (L : List Pr) : Prop := ∃ F, w.rowIs g t m F ∧ ∀ i, i < n * 2 → F i = prsF L i
theorem PrR.below {w w' : World} {g m n : Nat} {t : TypeId} {L : List Pr} (h : PrR w g t m n L) (hb : Below w.heap.size w w') : PrR w' g t m n L := by
 obtain ⟨F, h1, h2⟩ := h;exact ⟨F, rowBelow h1 hb, h2⟩
theorem PrR.setOther {w : World} {g m n : Nat} {t : TypeId} {L : List Pr} (h : PrR w g t m n L) {a : Addr} (ha : g ≠ a.block) (v : Value) : PrR (w.setCell a v) g t m n L := by
 obtain ⟨F, h1, h2⟩ := h;exact ⟨F, h1.setOther ha v, h2⟩
theorem PrR.cells {w : World} {g m n : Nat} {t : TypeId} {L : List Pr} (h : PrR w g t m n L) (hm : n * 2 ≤ m) (k : Nat) (hk : k < n) : w.cell? ⟨g, k * 2, none⟩ = some (.string (natB (L.getD k (0, 0)).1)) ∧ w.cell? ⟨g, k * 2 + 1, none⟩ = some (.string (natB (L.getD k (0, 0)).2)) ∧
  w.frozen? ⟨g, k * 2, none⟩ = false ∧ w.frozen? ⟨g, k * 2 + 1, none⟩ = false := by
 obtain ⟨F, h1, h2⟩ := h;exact ⟨(h1.cell (i := k * 2) (by omega)).trans (by rw [h2 _ (by omega), prsF_0]), (h1.cell (i := k * 2 + 1) (by omega)).trans (by rw [h2 _ (by omega), prsF_1]), h1.frozen _, h1.frozen _⟩
theorem PrR.set {w : World} {g m n : Nat} {t : TypeId} {L : List Pr} (h : PrR w g t m n L) (p : Pr) (k : Nat) (hk : k < n) (hL : L.length = n) :
  PrR ((w.setCell ⟨g, k * 2, none⟩ (.string (natB p.1))).setCell ⟨g, k * 2 + 1, none⟩ (.string (natB p.2))) g t m n (L.set k p) := by
 obtain ⟨F, h1, h2⟩ := h;refine ⟨_, (h1.set _ _).set _ _, fun i hi => ?_⟩
 have e : ∀ j, (L.set k p).getD j (0, 0) = if j = k then p else L.getD j (0, 0) := fun j => by
  rw [List.getD_eq_getElem?_getD, List.getD_eq_getElem?_getD, List.getElem?_set];split
  ·rename_i h1; rw [if_pos h1.symm]; subst h1; first | rfl | (rw [if_pos (by omega)]; rfl)
  ·rename_i h1; rw [if_neg (fun h => h1 h.symm)]
 by_cases h3 : i = k * 2 + 1
 ·subst h3; rw [if_pos rfl, prsF_1, e, if_pos rfl]
 ·rw [if_neg h3];by_cases h4 : i = k * 2
  ·subst h4; rw [if_pos rfl, prsF_0, e, if_pos rfl]
  ·rw [if_neg h4, h2 i hi]
   have h5 : ¬ i / 2 = k := by omega
   unfold prsF;simp only [e, h5, if_false]
theorem PrR.lt {w : World} {g m n : Nat} {t : TypeId} {L : List Pr} (h : PrR w g t m n L) : g < w.heap.size := by obtain ⟨F, h1, h2⟩ := h; exact h1.lt
theorem PrR.rd {w : World} {g m n : Nat} {t : TypeId} {L : List Pr} (h : PrR w g t m n L) (hm : n * 2 ≤ m) : Rd w w.heap.size (some ⟨g, 0, none⟩) (n * 2) (prsF L) := fun _ => by
 obtain ⟨F, h1, h2⟩ := h;exact ⟨g, 0, rfl, h1.lt, fun i hi => by rw [Nat.zero_add, h1.cell (i := i) (by omega), h2 i hi]⟩
end Cs
end
end
