/- The walk of ListSeeks. -/
import Derived.Test.YtemgfhdgpkmmaaaDoorIc
import Derived.Test.YtemgfhdgpkmmaaaDoorH4
set_option linter.unusedSimpArgs false
set_option linter.unusedVariables false
open Go Go.RowKit Cs
namespace Go.Proofs.YtemgfhdgpkmmaaaDoor
set_option maxRecDepth 100000 in
set_option maxHeartbeats 2000000 in
theorem seeks_any (w : World) (N : Nt) (A : Option Addr) (c a : Nat) (hlen : N.l.length ≤ 140737488355328) (hN : NtAt w w.heap.size A N.l) (ha : IsSet a) (hT : Tab w) :
    Calls Tryd.prog 3 #[ntV N A c, setV a] w fun e w' => e = .returned (.bool true) ∧ Below w.heap.size w w' := by
  have hq0 := (((Bag.start (Below.refl _ w)).new #[.int .i64 N.n, .slice A N.l.length c] 24 w.heap.size 2 rfl rfl).new #[.int .u64 (lo a : Int), .int .u64 (hi a : Int)] 27 (w.heap.size + 1) 2 (by simp) rfl)
  have hnt : ∀ W, Below w.heap.size w W → NtAt W W.heap.size A N.l := fun W hb => (hN.below hb).more hb.size
  have htb : ∀ W, Below w.heap.size w W → Tab W := fun W hb => hT.below hb
  have hli := fun W hb => lightC_any W N A c hlen (hnt W hb)
  have hwk := fun W hb => works_any W (htb W hb)
  have HWK := Lib.hid hwk
  cases hL : lightC N
  · simp only [hL] at hli
    have HLI := Lib.hid hli
    clear hli hL hnt htb hN hT hwk
    go_enter Tryd.func3, Tryd.ntmps3
    have c1 := hq0.tail.is0 0 (by decide) (.int .i64 N.n) rfl
    have c2 := hq0.tail.is0 1 (by decide) (.slice A N.l.length c) rfl
    go_wp2_with fail
    refine (HLI.out _ hq0.bl).mono ?_
    rintro e w5 ⟨rfl, hb5⟩
    have q5 := hq0.below hb5
    go_wp2_with fail
    refine (HWK.out _ q5.bl).mono ?_
    rintro e w6 ⟨rfl, hb6⟩
    go_wp2
    go_ret
    exact ⟨rfl, (q5.below hb6).bl⟩
  · obtain ⟨_, _, h7⟩ := lightC_use hL
    simp only [hL] at hli
    have hsk := fun W hb => seek_any W N A c a hlen (hnt W hb) ha (htb W hb)
    have hrs := fun W hb => ref_seek_any W N A c a hlen (hnt W hb) ha (fun hv => by have := h7 hv; omega)
    have hform : ∃ S O E, skR N a = .tuple #[setV S, .bool O, .int .i64 E] := by
      unfold skR skV
      split <;> exact ⟨_, _, _, rfl⟩
    obtain ⟨S, O, E, hS⟩ := hform
    simp only [hS] at hsk hrs
    have HLI := Lib.hid hli
    have HSK := Lib.hid hsk
    have HRS := Lib.hid hrs
    clear hli hL hnt htb hN hT hwk hsk hrs hS h7
    go_enter Tryd.func3, Tryd.ntmps3
    have c1 := hq0.tail.is0 0 (by decide) (.int .i64 N.n) rfl
    have c2 := hq0.tail.is0 1 (by decide) (.slice A N.l.length c) rfl
    go_wp2_with fail
    refine (HLI.out _ hq0.bl).mono ?_
    rintro e w5 ⟨rfl, hb5⟩
    have q5 := hq0.below hb5
    clear hq0 c1 c2
    have c1 := q5.tail.is0 0 (by decide) (.int .i64 N.n) rfl
    have c2 := q5.tail.is0 1 (by decide) (.slice A N.l.length c) rfl
    have s1 := q5.is0 0 (by decide) (.int .u64 (lo a : Int)) rfl
    have s2 := q5.is0 1 (by decide) (.int .u64 (hi a : Int)) rfl
    go_wp2_with fail
    refine (HSK.out _ q5.bl).mono ?_
    rintro e w6 ⟨rfl, hb6⟩
    have q6 := q5.below hb6
    have q7 := q6.new #[.int .u64 (lo S : Int), .int .u64 (hi S : Int)] 27 w6.heap.size 2 rfl rfl
    clear c1 c2 s1 s2 q5
    have c1 := q6.tail.is0 0 (by decide) (.int .i64 N.n) rfl
    have c2 := q6.tail.is0 1 (by decide) (.slice A N.l.length c) rfl
    have s1 := q6.is0 0 (by decide) (.int .u64 (lo a : Int)) rfl
    have s2 := q6.is0 1 (by decide) (.int .u64 (hi a : Int)) rfl
    have z1 := q6.lt0
    have z2 := q6.tail.lt0
    go_wp2_with fail
    refine (HRS.out _ q7.bl).mono ?_
    rintro e w8 ⟨rfl, hb8⟩
    have q8 := q7.below hb8
    have q9 := q8.new #[.int .u64 (lo S : Int), .int .u64 (hi S : Int)] 27 w8.heap.size 2 rfl rfl
    clear c1 c2 s1 s2 z1 z2 q6 q7
    have r1 := q8.is0 0 (by decide) (.int .u64 (lo S : Int)) rfl
    have r2 := q8.is0 1 (by decide) (.int .u64 (hi S : Int)) rfl
    have z1 := q8.lt0
    have heq := eq_same S
    cases O
    all_goals
      go_wp2_with fail
      refine (HWK.out _ q9.bl).mono ?_
      rintro e w10 ⟨rfl, hb10⟩
      go_wp2
      go_ret
      exact ⟨rfl, (q9.below hb10).bl⟩
end Go.Proofs.YtemgfhdgpkmmaaaDoor
