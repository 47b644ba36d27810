/- The walk of slices.Clone of fractions. -/
import Derived.Test.YtgnobohfnhpkdaaGreatDoorYc
import Derived.Test.YtgnobohfnhpkdaaGreatDoorDs
import Derived.Lib.SliceRun
set_option linter.unusedSimpArgs false
set_option linter.unusedVariables false
open Go Go.RowKit Cs
namespace Cs
theorem ownsRows {w : World} {n : Nat} {base : Nat} {e : TypeId} {size : Nat} {v : Value} {xs : List Value} (h : w.ownsRow base e size v n xs) (hn : 0 < n) :
    ∃ g cap f, v = .slice (some ⟨g, 0, none⟩) n cap ∧ base ≤ g ∧ g < w.heap.size ∧ n ≤ cap ∧ w.rowIs g e (cap * size) f ∧ ∀ i, i < n * size → xs[i]? = some (f i) := by
  obtain ⟨h1, h2⟩ := h
  rcases h2 with ⟨_, h0⟩ | ⟨g, cap, cur, rfl, hb, hg, hc, _, hs, ht⟩
  · omega
  · have hlt : g < w.heap.size := by
      rcases Nat.lt_or_ge g w.heap.size with h' | h'
      · exact h'
      · rw [Array.getElem?_eq_none h'] at hg; cases hg
    refine ⟨g, cap, fun i => cur.getD i undef, rfl, hb, hlt, hc, ⟨cur, hg, hs, fun i hi => ?_⟩, fun i hi => ?_⟩
    · show cur[i]? = some (cur.getD i undef)
      rw [Array.getD_eq_getD_getElem?, Array.getElem?_eq_getElem (by omega)]; rfl
    · have hle : n * size ≤ cap * size := Nat.mul_le_mul_right _ hc
      rw [← ht, List.getElem?_take, if_pos hi]
      show cur.toList[i]? = some (cur.getD i undef)
      rw [Array.getD_eq_getD_getElem?]
      rw [Array.getElem?_toList, Array.getElem?_eq_getElem (by omega)]; rfl
end Cs
namespace Go.Proofs.YtgnobohfnhpkdaaGreatDoor
/-- What a clone is: its own row. -/
def ClnR (w : World) (n : Nat) (f : Nat → Value) (e : Ending) (w' : World) : Prop := ∃ A c, e = .returned (.slice A n c) ∧ (0 < n → ∃ g F, A = some ⟨g, 0, none⟩ ∧ w.heap.size ≤ g ∧ n ≤ c ∧ w'.rowIs g 74 (c * 2) F ∧ ∀ i, i < n * 2 → F i = f i) ∧ Below w.heap.size w w'
theorem clnR_mk (w : World) (n : Nat) (f : Nat → Value) (v : Value) (w' : World) (h : w'.ownsRow w.heap.size 74 2 v n ((List.range (n * 2)).map f)) (hn : v = .slice none 0 0 → False) (hb : Below w.heap.size w w') : ClnR w n f (.returned v) w' := by
  rcases Nat.eq_zero_or_pos n with h0 | h0
  · rcases h.2 with ⟨e, _⟩ | ⟨g, cap, cur, e, _⟩
    · exact (hn e).elim
    · exact ⟨_, _, by rw [e], fun h' => absurd h' (by omega), hb⟩
  · obtain ⟨g, cap, F, rfl, hg, hlt, hc, hr, hf⟩ := ownsRows h h0
    refine ⟨_, _, rfl, fun _ => ⟨g, F, rfl, hg, hc, hr, fun i hi => ?_⟩, hb⟩
    have := hf i hi
    have e : ((List.range (n * 2)).map f)[i]? = some (f i) := by simp [hi]
    rw [e] at this
    exact (Option.some.inj this).symm
set_option maxRecDepth 100000 in
set_option maxHeartbeats 1000000 in
theorem cloneRats_any (w : World) (A : Option Addr) (c : Nat) (n : Nat) (f : Nat → Value) (hlen : n ≤ 1000000000000) (h1 : ∀ i, i < n * 2 → (f i).oneCell' = true) (hA : Rd w w.heap.size A (n * 2) f) :
    Calls Tryz.prog 77 #[.slice A n c] w (ClnR w n f) := by
  obtain ⟨i0, hi, hz0, hz1, hz2⟩ := info_parts info_rat
  have q22 : ∀ (w : World) (a : Option Addr) (n c n' c' : Nat), (binOp .eql 44 (.slice a n c) (.slice none n' c')).run Tryz.prog w = .ok (.bool a.isNone) w := fun w a n c n' c' => Lib.run_eql_slice_nil w _ _ a n c n' c' Tryz.underlying44
  cases A with
  | none =>
    obtain rfl : n = 0 := by
      rcases Nat.eq_zero_or_pos n with h | h
      · exact h
      · obtain ⟨b, o, e, _⟩ := hA (by omega); cases e
    clear hA hlen h1
    go_enter Tryz.func77, Tryz.ntmps77
    go_wp2
    go_ret
    exact ⟨none, 0, rfl, fun h => absurd h (by omega), Below.refl _ _⟩
  | some a =>
    have HA := Lib.hid hA
    clear hA
    go_enter Tryz.func77, Tryz.ntmps77
    go_wp2_with (at_builtin; refine wpList_append_own _ rfl _ _ 44 rfl w.heap.size 74 i0 (.agg #[.string ⟨#[]⟩, .string ⟨#[]⟩]) 2 32 Tryz.underlying44 hi hz0 hz1 hz2 rfl (by decide) _ _ _ rfl (World.ownsRow_made w #[] 0 (Nat.le_refl _) (Nat.zero_le _) rfl) a n c ((List.range (n * 2)).map f) rfl ?qc1 ?qc2 ?qc3 ?qc4 ?qc5 ?qc6 ?_)
    case qc1 => simp
    case qc2 =>
      intro j u hj
      have hjn : j < n * 2 := by
        have := (List.getElem?_eq_some_iff.1 hj).1
        simpa using this
      obtain ⟨b, o, e, hB, hc⟩ := HA.out (by omega)
      obtain rfl : a = ⟨b, o, none⟩ := by injection e
      rw [Addr.add_lit]
      refine Lib.cell?_alloc_some _ ?_
      rw [hc j hjn]
      have e : ((List.range (n * 2)).map f)[j]? = some (f j) := by simp [hjn]
      rw [e] at hj
      exact hj
    case qc3 => intro u hu; obtain ⟨x, hx, rfl⟩ := List.mem_map.1 hu; exact h1 x (by simpa using hx)
    case qc4 => unfold maxLen; omega
    case qc5 => omega
    case qc6 => simp
    intro v' w1 hown hgrow hnil
    go_wp2
    go_ret
    exact clnR_mk w n f v' w1 (by simpa using hown) hnil (((Below.refl _ w).alloc (Nat.le_refl _) _).grown hgrow (by simp) (by intro k hk; simp [Value.ownBlock] at hk; omega))
end Go.Proofs.YtgnobohfnhpkdaaGreatDoor
