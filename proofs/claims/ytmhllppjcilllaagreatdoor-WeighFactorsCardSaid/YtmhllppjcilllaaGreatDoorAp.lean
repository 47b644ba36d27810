import Derived.Test.YtmhllppjcilllaaGreatDoorDv
import Derived.Test.YtmhllppjcilllaaGreatDoorHr
import Derived.Maps.AppendAt
import Derived.Deep.DeepAppendRoom
import Derived.ArgAppend
set_option linter.unusedSimpArgs false
set_option linter.unusedVariables false
open Go Go.RowKit Cs
namespace Go.Proofs.YtmhllppjcilllaaGreatDoor
theorem own_take {W : World} {base : Nat} {e : TypeId} {g n m cap : Nat} {xs ys : List Value} (h : W.ownsRow base e 2 (.slice (some ⟨g, 0, none⟩) m cap) m (xs ++ ys)) (hx : xs.length = n * 2) (hnm : n ≤ m) : W.ownsRow base e 2 (.slice (some ⟨g, 0, none⟩) n cap) n xs := by
 obtain ⟨hl, h2⟩ := h;refine ⟨hx, Or.inr ?_⟩;rcases h2 with ⟨h, _⟩ | ⟨g', cap', cur, he, hb, hg, hc, hm, hs, ht⟩
 ·cases h
 ·simp only [Value.slice.injEq, Option.some.injEq, Addr.mk.injEq, true_and, and_true] at he;obtain ⟨rfl, rfl⟩ := he;refine ⟨g, cap, cur, rfl, hb, hg, by omega, hm, hs, ?_⟩;have := congrArg (List.take (n * 2)) ht;rw [List.take_take, Nat.min_eq_left (by omega), ← hx, List.take_left] at this
  rw [← hx]; exact this
theorem app_rat (W : World) (base : Nat) (v1 : Value) (k : Nat) (xs : List Value) (hown : W.ownsRow base 33 2 v1 k xs) (hbase : base ≤ W.heap.size) (g : Nat) (p : Pr) (hr : W.rowIs g 33 2 (ratF p.1 p.2)) (hk : k ≤ 1000) :
  ∃ v' W', (Builtin.append_ #[37, 37] 37 #[v1, .slice (some ⟨g, 0, none⟩) 1 1]).run Tryz.prog W = .ok v' W' ∧ W'.ownsRow base 33 2 v' (k + 1) (xs ++ [.string (natB p.1), .string (natB p.2)]) ∧ W'.ownsRow base 33 2 v1 k xs ∧ W.grownBy W' v1.ownBlock ∧ (v'.ownBlock = v1.ownBlock ∨ v'.ownBlock = some W.heap.size) := by
 obtain ⟨i0, hi0, hz0, hz1, hz2⟩ := info_parts info_rat;obtain ⟨c1, c2⟩ := ratCells hr
 have hnews : ∀ j u, ([.string (natB p.1), .string (natB p.2)] : List Value)[j]? = some u → W.cell? ((⟨g, 0, none⟩ : Addr).add j) = some u := fun j u h => by
  match j, h with
  | 0, h => cases h; exact c1
  | 1, h => cases h; exact c2
 have hone : ∀ u ∈ ([.string (natB p.1), .string (natB p.2)] : List Value), u.oneCell' = true := fun u hu => by
  simp at hu
  rcases hu with rfl | rfl <;> rfl
 obtain ⟨v', W', hrun, r1, r2, _, r4⟩ := run_append_own_at (P := Tryz.prog) (w := W) base 37 37 33 i0 (.agg #[.string ⟨#[]⟩, .string ⟨#[]⟩]) 2 32 Tryz.underlying37 hi0 hz0 hz1 hz2 rfl (by decide) v1 k xs hown ⟨g, 0, none⟩ 1 1 [.string (natB p.1), .string (natB p.2)] rfl hnews hone (by unfold maxLen; omega) (by omega) hbase;refine ⟨v', W', hrun, r1, ?_, r2, r4⟩;have hlen := hown.1;have hown' := hown;rcases hown.2 with ⟨rfl, rfl⟩ | ⟨g1, cap, cur, rfl, hb, hg, hc, hm, hs, ht⟩
 ·obtain rfl : xs = [] := List.eq_nil_of_length_eq_zero (by omega);exact World.ownsRow_nil W' base _ _
 ·rcases Nat.lt_or_ge cap (k + 1) with hfull | hroom
  ·obtain ⟨v2, W2, hrun2, _, s2⟩ := run_append_arg_grows (P := Tryz.prog) (w := W) 37 37 33 i0 (.agg #[.string ⟨#[]⟩, .string ⟨#[]⟩]) 2 32 Tryz.underlying37 hi0 hz0 hz1 hz2 rfl (by decide) ⟨g1, 0, none⟩ k cap xs hlen (fun j u hj => by
    have hj2 : j < xs.length := (List.getElem?_eq_some_iff.1 hj).1;rw [← ht, List.getElem?_take, if_pos (by omega)] at hj
    have hadd : (⟨g1, 0, none⟩ : Addr).add j = ⟨g1, j, none⟩ := by unfold Addr.add; split <;> simp_all
    rw [hadd];rw [Array.getElem?_toList] at hj
    have hsz : j < cur.size := by omega
    have e : W.cell? ⟨g1, j, none⟩ = cur[j]? := by simp [World.cell?, hg]
    rw [e]
    exact hj) ⟨g, 0, none⟩ 1 1 [.string (natB p.1), .string (natB p.2)] rfl hnews hfull (by unfold maxLen; omega) (by omega)
   rw [hrun] at hrun2;simp only [Result.ok.injEq] at hrun2;obtain ⟨rfl, rfl⟩ := hrun2;exact hown'.kept s2 (Or.inr (by simp [Value.ownBlock]))
  ·obtain ⟨W2, hrun2, s1, _⟩ := run_append_own_spare (P := Tryz.prog) (w := W) base 37 37 33 i0 2 Tryz.underlying37 hi0 hz1 g1 k cap xs hown' ⟨g, 0, none⟩ 1 1 [.string (natB p.1), .string (natB p.2)] rfl hnews hone hroom;rw [hrun] at hrun2;simp only [Result.ok.injEq] at hrun2;obtain ⟨rfl, rfl⟩ := hrun2;exact own_take s1 hlen (by omega)
end Go.Proofs.YtmhllppjcilllaaGreatDoor
