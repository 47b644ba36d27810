import Derived.Test.YtoljkoifgnmbgaaGreatDoorVl
import Derived.Test.YtoljkoifgnmbgaaGreatDoorVc
import Derived.Test.YtoljkoifgnmbgaaGreatDoorKl
import Derived.Test.YtoljkoifgnmbgaaGreatDoorUa
import Derived.Test.YtoljkoifgnmbgaaGreatDoorUf
import Derived.Test.YtoljkoifgnmbgaaGreatDoorDt
import Derived.Test.YtoljkoifgnmbgaaGreatDoorZa
set_option linter.unusedSimpArgs false
set_option linter.unusedVariables false
section
open Go Go.RowKit Cs
end
section
set_option maxRecDepth 100000
set_option maxHeartbeats 4000000
open Go Go.RowKit Cs
namespace Go.Proofs.YtoljkoifgnmbgaaGreatDoor
def fewU (N : Nt) (l : Nat) : Bool := fewB N && (decide (N.n ≤ 20) || decide (128 < N.n)) && decide (l ≤ 15)
theorem fewU_any (w : World) (N : Nt) (A Ab : Option Addr) (c lb cb : Nat) (hlen : N.l.length ≤ 140737488355328) (hN : NtAt w w.heap.size A N.l) :
  Calls Tryz.prog 17 #[ntV N A c, .slice Ab lb cb] w fun e w' => e = .returned (.bool (fewU N lb)) ∧ Below w.heap.size w w' := by
 have hfw := fun W hN => few_any W N A c hlen hN;obtain ⟨F, hF⟩ : ∃ F, fewU N lb = F := ⟨_, rfl⟩;rw [hF];unfold fewU at hF;obtain ⟨B, hB⟩ : ∃ B, fewB N = B := ⟨_, rfl⟩;rw [hB] at hfw hF;have HFW := zqh hfw;have HF := zqh hF;clear hfw hB hF;obtain ⟨n, l⟩ := N;have q0 := (Bag.zero w).new #[.int .i64 n, .slice A l.length c] 24 w.heap.size 2 rfl rfl;simp only at HF;cases B
 ·go_enter Tryz.func17, Tryz.ntmps17
  go_wp2_with fail
  refine (HFW.out _ ((hN.below q0.bl).more q0.bl.size)).mono ?_;rintro e w1 ⟨rfl, hb1⟩;have q1 := q0.below hb1;have m1 := q1.is0 0 (by decide) (.int .i64 n) rfl;have m2 := q1.is0 1 (by decide) (.slice A l.length c) rfl;clear hN hlen HFW
  go_wp2_with fail
  go_ret
  have hh := HF.out;rw [Bool.false_and, Bool.false_and] at hh;obtain rfl := hh;exact ⟨rfl, q1.bl⟩
 ·rcases (show n ≤ 20 ∨ 20 < n by omega) with h1 | h1
  ·have d1 : decide (n ≤ 20) = true := decide_eq_true h1;rcases (show lb ≤ 15 ∨ 15 < lb by omega) with h2 | h2
   ·have d2 : decide ((lb : Int) ≤ 15) = true := decide_eq_true (by omega);have d4 : decide (lb ≤ 15) = true := decide_eq_true (by omega)
    go_enter Tryz.func17, Tryz.ntmps17
    go_wp2_with fail
    refine (HFW.out _ ((hN.below q0.bl).more q0.bl.size)).mono ?_;rintro e w1 ⟨rfl, hb1⟩;have q1 := q0.below hb1;have m1 := q1.is0 0 (by decide) (.int .i64 n) rfl;have m2 := q1.is0 1 (by decide) (.slice A l.length c) rfl;clear hN hlen HFW
    go_wp2_with fail
    go_ret
    have hh := HF.out;rw [d1, d4, Bool.true_or, Bool.true_and, Bool.true_and] at hh;obtain rfl := hh;exact ⟨rfl, q1.bl⟩
   ·have d2 : decide ((lb : Int) ≤ 15) = false := decide_eq_false (by omega);have d4 : decide (lb ≤ 15) = false := decide_eq_false (by omega)
    go_enter Tryz.func17, Tryz.ntmps17
    go_wp2_with fail
    refine (HFW.out _ ((hN.below q0.bl).more q0.bl.size)).mono ?_;rintro e w1 ⟨rfl, hb1⟩;have q1 := q0.below hb1;have m1 := q1.is0 0 (by decide) (.int .i64 n) rfl;have m2 := q1.is0 1 (by decide) (.slice A l.length c) rfl;clear hN hlen HFW
    go_wp2_with fail
    go_ret
    have hh := HF.out;rw [d1, d4, Bool.and_false] at hh;obtain rfl := hh;exact ⟨rfl, q1.bl⟩
  ·have d1 : decide (n ≤ 20) = false := decide_eq_false (by omega);rcases (show 128 < n ∨ n ≤ 128 by omega) with h3 | h3
   ·have d3 : decide (128 < n) = true := decide_eq_true h3;rcases (show lb ≤ 15 ∨ 15 < lb by omega) with h2 | h2
    ·have d2 : decide ((lb : Int) ≤ 15) = true := decide_eq_true (by omega);have d4 : decide (lb ≤ 15) = true := decide_eq_true (by omega)
     go_enter Tryz.func17, Tryz.ntmps17
     go_wp2_with fail
     refine (HFW.out _ ((hN.below q0.bl).more q0.bl.size)).mono ?_;rintro e w1 ⟨rfl, hb1⟩;have q1 := q0.below hb1;have m1 := q1.is0 0 (by decide) (.int .i64 n) rfl;have m2 := q1.is0 1 (by decide) (.slice A l.length c) rfl;clear hN hlen HFW
     go_wp2_with fail
     go_ret
     have hh := HF.out;rw [d1, d3, d4, Bool.or_true, Bool.true_and, Bool.true_and] at hh;obtain rfl := hh;exact ⟨rfl, q1.bl⟩
    ·have d2 : decide ((lb : Int) ≤ 15) = false := decide_eq_false (by omega);have d4 : decide (lb ≤ 15) = false := decide_eq_false (by omega)
     go_enter Tryz.func17, Tryz.ntmps17
     go_wp2_with fail
     refine (HFW.out _ ((hN.below q0.bl).more q0.bl.size)).mono ?_;rintro e w1 ⟨rfl, hb1⟩;have q1 := q0.below hb1;have m1 := q1.is0 0 (by decide) (.int .i64 n) rfl;have m2 := q1.is0 1 (by decide) (.slice A l.length c) rfl;clear hN hlen HFW
     go_wp2_with fail
     go_ret
     have hh := HF.out;rw [d1, d3, d4, Bool.and_false] at hh;obtain rfl := hh;exact ⟨rfl, q1.bl⟩
   ·have d3 : decide (128 < n) = false := decide_eq_false (by omega)
    go_enter Tryz.func17, Tryz.ntmps17
    go_wp2_with fail
    refine (HFW.out _ ((hN.below q0.bl).more q0.bl.size)).mono ?_;rintro e w1 ⟨rfl, hb1⟩;have q1 := q0.below hb1;have m1 := q1.is0 0 (by decide) (.int .i64 n) rfl;have m2 := q1.is0 1 (by decide) (.slice A l.length c) rfl;clear hN hlen HFW
    go_wp2_with fail
    go_ret
    have hh := HF.out;rw [d1, d3, Bool.or_false, Bool.and_false, Bool.false_and] at hh;obtain rfl := hh;exact ⟨rfl, q1.bl⟩
end Go.Proofs.YtoljkoifgnmbgaaGreatDoor
end
section
open Go Go.RowKit Cs
namespace Go.Proofs.YtoljkoifgnmbgaaGreatDoor
structure ActIn (N : Nt) (A : Option Addr) (lo hi : List ByteArray) (Al Ah AL : Option Addr) (L : List Int) (W : World) : Prop where
 nt : NtAt W W.heap.size A N.l
 tb : Tab W
 l1 : Rd W W.heap.size Al lo.length (strF lo)
 l2 : Rd W W.heap.size Ah hi.length (strF hi)
 al : Rd W W.heap.size AL L.length (intF L)
structure ActC (N : Nt) (lo hi : List ByteArray) (L : List Int) : Prop where
 hlen : N.l.length ≤ 140737488355328
 hl1 : lo.length ≤ 1000000000000
 hl2 : hi.length ≤ 1000000000000
 hs1 : ∀ i, (lo.getD i ⟨#[]⟩).size ≤ maxLen
 hs2 : ∀ i, (hi.getD i ⟨#[]⟩).size ≤ maxLen
 hLr : ∀ i, -9223372036854775808 ≤ L.getD i 0 ∧ L.getD i 0 ≤ 9223372036854775807
section
variable {N : Nt} {A Al Ah AL : Option Addr} {lo hi : List ByteArray} {L : List Int} {W W' w : World} {g : Sg} {E : Nat} {tv : Value} {k : Int}
theorem ActIn.below (h : ActIn N A lo hi Al Ah AL L W) (hb : Below W.heap.size W W') : ActIn N A lo hi Al Ah AL L W' :=
 ⟨(h.nt.below hb).more hb.size, h.tb.below hb, (h.l1.below hb).more hb.size, (h.l2.below hb).more hb.size, (h.al.below hb).more hb.size⟩
theorem fewU_ins {l : Nat} (hf : fewU N l = true) : ∀ k (hk : k < N.l.length), N.l[k].ins.length ≤ 1000000 := fun k hk => by
 have : fewB N = true := by
  unfold fewU at hf;rw [Bool.and_eq_true, Bool.and_eq_true] at hf;exact hf.1.1
 have := few_ins this k hk;omega
theorem fewU_len {l : Nat} (hf : fewU N l = true) : l ≤ 15 := by
 unfold fewU at hf;rw [Bool.and_eq_true, Bool.and_eq_true] at hf;exact of_decide_eq_true hf.2
theorem acted_in (c cl ch cL : Nat) (h : ActIn N A lo hi Al Ah AL L W) (hc : ActC N lo hi L) (hin : ∀ k (hk : k < N.l.length), N.l[k].ins.length ≤ 1000000) (hL : L.length ≤ 1000000) :
  Calls Tryz.prog 30 #[ntV N A c, .slice Al lo.length cl, .slice Ah hi.length ch, .slice AL L.length cL] W (ActR W N lo hi L) :=
 acted_any W N A c cl ch cL lo hi Al Ah AL L hc.hlen h.nt h.tb hin hc.hl1 hc.hl2 h.l1 h.l2 hc.hs1 hc.hs2 h.al hL hc.hLr
theorem ActR.yes {e : Ending} (h : ActR W N lo hi L e W') (hac : acOk N lo hi) : Below W.heap.size W W' ∧ ∃ g E tv k w0, e = .returned (.pointer (some ⟨g.b, 0, none⟩)) ∧ Below W.heap.size W w0 ∧ Lv w0 E g N N.n.toNat (prL lo) (prL hi) tv (actsT N.n L) k W' := by
 obtain ⟨hb, h⟩ := h;rcases h with ⟨_, g, E, tv, k, w0, he, hb0, hy⟩ | ⟨hn, _⟩
 ·exact ⟨hb, g, E, tv, k, w0, he, hb0, hy.lv⟩
 ·exact absurd hac hn
theorem ActR.no {e : Ending} (h : ActR W N lo hi L e W') (hac : ¬ acOk N lo hi) : Below W.heap.size W W' ∧ e = .returned (.pointer none) := by
 obtain ⟨hb, h⟩ := h;rcases h with ⟨hy, _⟩ | ⟨_, he⟩
 ·exact absurd hy hac
 ·exact ⟨hb, he⟩
theorem acOk_at (h : acOk N lo hi) {D : Nat} (hD : 1 < D) {T : List Int} (ht : TOk N.n.toNat T) : SesOk N N.n.toNat (prL lo) (prL hi) T D := by
 obtain ⟨n, hn, _, _, ok⟩ := acOk_ses h hD;rw [show N.n.toNat = n by omega] at ht ⊢;exact ok.at ht
theorem acOk_tk (h : acOk N lo hi) (L : List Int) : TOk N.n.toNat (actsT N.n L) := by
 obtain ⟨n, hn, _, _, ok⟩ := acOk_ses h (Nat.lt_succ_self _);rw [show N.n.toNat = n by omega];exact TOk.acts hn (vn_le ok.hv hn) _
end
end Go.Proofs.YtoljkoifgnmbgaaGreatDoor
end
section
open Go Go.RowKit Cs
namespace Go.Proofs.YtoljkoifgnmbgaaGreatDoor
theorem ownsPr {w : World} {base n c : Nat} {e : TypeId} {A : Option Addr} {L : List Pr} (h : w.ownsRow base e 2 (.slice A n c) n ((List.range (n * 2)).map (prsF L))) (hn : 0 < n) : ∃ g, A = some ⟨g, 0, none⟩ ∧ base ≤ g ∧ g < w.heap.size ∧ n ≤ c ∧ PrR w g e (c * 2) n L := by
 obtain ⟨g, cap, F, e1, hg, hlt, hc, hr, hf⟩ := ownsRows h hn;injection e1 with e2 e3 e4
 subst e2; subst e4
 refine ⟨g, rfl, hg, hlt, hc, F, hr, fun i hi => ?_⟩;have := hf i hi
 have e5 : ((List.range (n * 2)).map (prsF L))[i]? = some (prsF L i) := by simp [hi]
 rw [e5] at this;exact (Option.some.inj this).symm
theorem WtsO.yes {w w' : World} {lo hi : List ByteArray} {e : Ending} {N : Nt} {n : Nat} (h : WtsO w lo hi e w') (hac : acOk N lo hi) (e1 : lo.length = n + 1) (e2 : hi.length = n + 1) :
  Below w.heap.size w w' ∧ ∃ gl gh cl ch, e = .returned (.tuple #[wtsV (some ⟨gl, 0, none⟩) (some ⟨gh, 0, none⟩) (n + 1) (n + 1) cl ch, .bool true]) ∧ w.heap.size ≤ gl ∧ w.heap.size ≤ gh ∧ gl < w'.heap.size ∧ gh < w'.heap.size ∧ gl ≠ gh ∧ n + 1 ≤ cl ∧ n + 1 ≤ ch ∧
   PrR w' gl 60 (cl * 2) (n + 1) (prL lo) ∧ PrR w' gh 60 (ch * 2) (n + 1) (prL hi) := by
 obtain ⟨⟨hb, hr⟩, h2⟩ := h;obtain ⟨Al, Ah, cl, ch, b, S1, S, he, hS1, hS, o1, o2, o3⟩ := h2 hac.1;rw [e1] at o1 o3;rw [e2] at o2;obtain ⟨gl, rfl, a1, a2, a3, a4⟩ := ownsPr o1 (by omega);obtain ⟨gh, rfl, b1, b2, b3, b4⟩ := ownsPr o2 (by omega);have hlt := o3 gl (by simp [Value.ownBlock])
 have hbt : b = true := by
  rcases hr with ⟨hn, _⟩ | ⟨_, Al', Ah', cl', ch', he', _⟩
  ·exact absurd hac.1 hn
  ·rw [he] at he';injection he' with he';injection he' with he';have := congrArg (fun a : Array Value => a[1]?) he';simp at this;rw [this, decide_eq_true hac.2.1.1, decide_eq_true hac.2.1.2]
   rfl
 subst hbt;rw [e1, e2] at he;exact ⟨hb, gl, gh, cl, ch, he, by omega, by omega, a2, b2, by omega, a3, b3, a4, b4⟩
end Go.Proofs.YtoljkoifgnmbgaaGreatDoor
end
