import Derived.Test.YtmhllppjcilllaaGreatDoorHo
import Derived.Laws.OwnMore
import Derived.Maps.AppendAt
import Derived.Test.YtmhllppjcilllaaGreatDoorKp
import Derived.Test.YtmhllppjcilllaaGreatDoorEr
import Derived.Test.YtmhllppjcilllaaGreatDoorSw
import Derived.Test.YtmhllppjcilllaaGreatDoorQ1
set_option linter.unusedSimpArgs false
set_option linter.unusedVariables false
section
open Go Go.RowKit Cs
namespace Go
theorem alive_of {kl : Nat → Option Nat} {l : List Nat} {i : Nat} (h : (l.all fun j => kl j != some i) = true) : aliveO kl l i := fun j hj => by
 have := List.all_eq_true.1 h j hj
 simpa using this
theorem own_blk {w : World} {base : Nat} {e : TypeId} {sz : Nat} {v : Value} {n : Nat} {xs : List Value} (h : w.ownsRow base e sz v n xs) : v.ownBlock = blkOf v := by
 rcases h.2 with ⟨rfl, _⟩ | ⟨g, cap, cur, rfl, _⟩ <;> rfl
theorem own_loc {w w' : World} {base : Nat} {e : TypeId} {sz : Nat} {v : Value} {n : Nat} {xs : List Value} (h : w.ownsRow base e sz v n xs) (hb : ∀ b, blkOf v = some b → w'.heap[b]? = w.heap[b]?) : w'.ownsRow base e sz v n xs := by
 refine ⟨h.1, ?_⟩;rcases h.2 with hn | ⟨g, cap, cur, rfl, hg, hgg, rest⟩
 ·exact .inl hn
 ·exact .inr ⟨g, cap, cur, rfl, hg, (hb g rfl).trans hgg, rest⟩
theorem row_loc {w w' : World} {g n : Nat} {t : TypeId} {f : Nat → Value} (h : w.rowIs g t n f) (hb : ∀ b, blkOf (.pointer (some ⟨g, 0, none⟩)) = some b → w'.heap[b]? = w.heap[b]?) : w'.rowIs g t n f := h.of_block (hb g rfl)
section
variable {al : Nat → Bool} {kl : Nat → Option Nat} {j : Nat} {dv : List Value} {v v' : Value} {W W' : World}
theorem rl_same (h : kl j = none) (ha : al j = false) : RlO al kl j dv v W W := ⟨fun _ => ⟨zqr _ _, fun h => by rw [ha] at h; cases h⟩, fun h' => absurd h h'⟩
theorem rl_new (h : kl j = none) (o : Obj) (hv : blkOf v = some W.heap.size) : RlO al kl j dv v W (W.alloc o) :=
 ⟨fun _ => ⟨(zqr _ _).alloc (zqn _) _, fun _ b hb => by rw [hv] at hb; cases hb; exact ⟨zqn _, by simp⟩⟩, fun h' => absurd h h'⟩
theorem rl_app {base base' : Nat} {e : TypeId} {sz n n' : Nat} {xs ys : List Value} {v1 : Value} (h : kl j ≠ none) (hd : dv.headD undef = v1) (o1 : W.ownsRow base e sz v1 n xs) (t1 : W'.ownsRow base' e sz v' n' ys) (t2 : W.grownBy W' v1.ownBlock) (t3 : v'.ownBlock = v1.ownBlock ∨ v'.ownBlock = some W.heap.size) :
  RlO al kl j dv v' W W' := by
 refine ⟨fun h' => absurd h' h, fun _ => ?_⟩;rw [hd, ← own_blk o1];refine ⟨t2, fun b hb => ?_⟩;rw [← own_blk t1] at hb;refine ⟨?_, (t1.lt b hb).2⟩;rcases t3 with h3 | h3
 ·exact Or.inr (h3 ▸ hb)
 ·rw [h3] at hb; cases hb; exact Or.inl (zqn _)
theorem grown_set (W : World) (g i : Nat) (v : Value) : W.grownBy (W.setCell ⟨g, i, none⟩ v) (some g) :=
 ⟨rfl, rfl, rfl, by simp [World.setCell], fun k _ hk => Below.heap_setCell W ⟨g, i, none⟩ v k (fun e => hk (by rw [e]))⟩
theorem rl_store {g : Nat} (h : kl j ≠ none) (hd : dv.headD undef = .pointer (some ⟨g, 0, none⟩)) (hv : v = .pointer (some ⟨g, 0, none⟩)) (hg : W.grownBy W' (some g)) (hl : g < W'.heap.size) : RlO al kl j dv v W W' := by
 refine ⟨fun h' => absurd h' h, fun _ => ?_⟩;rw [hd, hv];exact ⟨hg, fun b hb => ⟨Or.inr hb, by cases hb; exact hl⟩⟩
end
section
variable {P : Program}
theorem app_rows (W : World) (base : Nat) (t ty e : TypeId) (i : TypeInfo) (z : Value) (size bytes : Nat) (ht : P.underlying t = some (.slice e)) (hi : P.info? e = some i) (hz : i.zero = some z)
  (hsize : i.size = size) (hby : i.bytes = bytes) (hzs : z.cells.size = size) (hsz : 0 < size) (hbase : base ≤ W.heap.size)
  (v1 : Value) (k : Nat) (xs : List Value) (h1 : W.ownsRow base e size v1 k xs) (base2 : Nat) (v2 : Value) (m : Nat) (ys : List Value) (h2 : W.ownsRow base2 e size v2 m ys) (hone : ∀ u ∈ ys, u.oneCell' = true) (h63 : k + m ≤ maxLen) (hbytes : (k + m) * bytes ≤ 140737488355328) :
  ∃ v' W', (Builtin.append_ #[t, t] ty #[v1, v2]).run P W = .ok v' W' ∧ W'.ownsRow base e size v' (k + m) (xs ++ ys) ∧ W.grownBy W' v1.ownBlock ∧ (v'.ownBlock = v1.ownBlock ∨ v'.ownBlock = some W.heap.size) := by
 rcases h2.2 with ⟨rfl, rfl⟩ | ⟨g, cap, cur, rfl, hb, hg, hc, hm, hs, htk⟩
 ·have e0 : ys = [] := List.eq_nil_of_length_eq_zero (by rw [h2.1]; simp);subst e0;refine ⟨v1, W, run_append_owned_none W base t ty e i size ht hi v1 k xs h1, ?_, ⟨rfl, rfl, rfl, zqn _, fun _ _ _ => rfl⟩, Or.inl rfl⟩
  rw [Nat.add_zero, List.append_nil]; exact h1
 ·obtain ⟨v', W', hrun, r1, r2, _, r4⟩ := run_append_own_at (P := P) (w := W) base t ty e i z size bytes ht hi hz hsize hby hzs hsz v1 k xs h1 ⟨g, 0, none⟩ m cap ys h2.1 (h2.cells (g := g) rfl) hone h63 hbytes hbase;exact ⟨v', W', hrun, r1, r2, r4⟩
end
end Go
end
section
open Go Go.RowKit Cs
namespace Go.Proofs.YtmhllppjcilllaaGreatDoor
theorem row_ne {W : World} {g g' n n' : Nat} {t t' : TypeId} {f f' : Nat → Value} (h : W.rowIs g t n f) (h' : W.rowIs g' t' n' f') (ht : t ≠ t') : g ≠ g' := fun e => by
 subst e;have a := rowArr h;rw [rowArr h'] at a;injection a with a;injection a with _ a;exact ht a.symm
structure WtV (B M : Nat) (L H : List Pr) (v : Value) (g1 c1 g2 c2 : Nat) (F1 F2 : Nat → Value) (W : World) : Prop where
 v : v = wtsV (some ⟨g1, 0, none⟩) (some ⟨g2, 0, none⟩) M M c1 c2
 ne : g1 ≠ g2
 b1 : B ≤ g1
 b2 : B ≤ g2
 r1 : W.rowIs g1 33 (c1 * 2) F1
 r2 : W.rowIs g2 33 (c2 * 2) F2
 m1 : M ≤ c1
 m2 : M ≤ c2
 f1 : ∀ i, i < M * 2 → F1 i = prsF L i
 f2 : ∀ i, i < M * 2 → F2 i = prsF H i
 o1 : W.ownsRow B 33 2 (.slice (some ⟨g1, 0, none⟩) M c1) M ((List.range (M * 2)).map (prsF L))
 o2 : W.ownsRow B 33 2 (.slice (some ⟨g2, 0, none⟩) M c2) M ((List.range (M * 2)).map (prsF H))
theorem WtV.below {B M : Nat} {L H : List Pr} {v : Value} {g1 c1 g2 c2 : Nat} {F1 F2 : Nat → Value} {W W' : World} (h : WtV B M L H v g1 c1 g2 c2 F1 F2 W) (hb : Below W.heap.size W W') : WtV B M L H v g1 c1 g2 c2 F1 F2 W' :=
 ⟨h.v, h.ne, h.b1, h.b2, rowBelow h.r1 hb, rowBelow h.r2 hb, h.m1, h.m2, h.f1, h.f2, ownsBelow h.o1 hb, ownsBelow h.o2 hb⟩
theorem WtV.more {B B' M : Nat} {L H : List Pr} {v : Value} {g1 c1 g2 c2 : Nat} {F1 F2 : Nat → Value} {W : World} (h : WtV B M L H v g1 c1 g2 c2 F1 F2 W) (hB : B' ≤ B) : WtV B' M L H v g1 c1 g2 c2 F1 F2 W :=
 ⟨h.v, h.ne, Nat.le_trans hB h.b1, Nat.le_trans hB h.b2, h.r1, h.r2, h.m1, h.m2, h.f1, h.f2, owns_mono h.o1 hB, owns_mono h.o2 hB⟩
theorem AwR.wt {w W : World} {M : Nat} {L H : List Pr} {s1 s2 : Value} (h : AwR w M L H s1 s2 W) (hM : 0 < M) : ∃ g1 c1 g2 c2 F1 F2, WtV w.heap.size M L H (.agg #[s1, s2]) g1 c1 g2 c2 F1 F2 W := by
 have o1 := h.o1;have o2 := h.o2;obtain ⟨g1, c1, rfl, b1, m1, F1, r1, f1⟩ := PrOwn.of_own h.o1 hM;obtain ⟨g2, c2, rfl, b2, m2, F2, r2, f2⟩ := PrOwn.of_own h.o2 hM;exact ⟨g1, c1, g2, c2, F1, F2, rfl, fun e => h.dis g1 rfl (by rw [e]; rfl), b1, b2, r1, r2, m1, m2, f1, f2, o1, o2⟩
abbrev eRat (b : Nat) (p : Pr) : Nat × TypeId × Nat × (Nat → Value) := (b, 33, 2, ratF p.1 p.2)
abbrev eAsk (b : Nat) (N : Nt) (A : Option Addr) (c : Nat) (Aw : Option Addr) (lw cw : Nat) (At : Option Addr) (lt ct : Nat) : Nat × TypeId × Nat × (Nat → Value) := (b, 28, 4, arrF #[.int .i64 N.n, .slice A N.l.length c, .slice Aw lw cw, .slice At lt ct])
theorem Kp_same0 {w W : World} {g n : Nat} {t : TypeId} {f f' : Nat → Value} {l : List (Nat × TypeId × Nat × (Nat → Value))} (h : Kp w ((g, t, n, f) :: l) W) (hf : ∀ i, i < n → f i = f' i) : Kp w ((g, t, n, f') :: l) W :=
 ⟨h.bl, fun r hr => by
   rcases List.mem_cons.1 hr with rfl | hr
   ·exact (h.row 0 rfl).congr hf
   ·exact h.rows r (List.mem_cons_of_mem _ hr)⟩
end Go.Proofs.YtmhllppjcilllaaGreatDoor
end
section
open Go Go.RowKit Cs
namespace Cs
section
variable {α : Type} {R : Rg α}
def prodF (R : Rg α) (m : Nat → α) : Nat → α
 | 0 => R.one
 | k + 1 => R.mul (prodF R m k) (m (k + 1))
theorem mul_swap (C : CR R) (a b c d : α) : R.mul (R.mul a b) (R.mul c d) = R.mul (R.mul a c) (R.mul b d) := by
 rw [← C.mula, ← C.mula, C.mula a b c, C.mulc b c, ← C.mula a c b]
theorem term_scale (C : CR R) (W W' : Int → α) (m : Nat → α) (s : Nat) : ∀ n : Nat, (∀ v : Nat, 1 ≤ v → v ≤ n → W' (v : Int) = R.mul (m v) (W (v : Int)) ∧ W' (-(v : Int)) = R.mul (m v) (W (-(v : Int)))) → R.term W' n s = R.mul (prodF R m n) (R.term W n s)
 | 0, _ => by
   show R.one = R.mul R.one R.one;rw [C.omul]
 | k + 1, h => by
   have h1 := h (k + 1) (by omega) (zqn _);have ih := term_scale C W W' m s k fun v a b => h v a (by omega);show R.mul (R.term W' k s) _ = R.mul (R.mul (prodF R m k) (m (k + 1))) (R.mul (R.term W k s) _);rw [mul_swap C, ← ih]
   congr 1
   rw [Int.natCast_succ] at h1;split
   ·exact h1.1
   ·exact h1.2
theorem sum_scale (C : CR R) {N : Nt} (hv : vld N = true) (hd : dcmp N = true) (W W' : Int → α) (m : Nat → α) (n : Nat) (hn : N.n = (n : Int))
  (h : ∀ v : Nat, 1 ≤ v → v ≤ n → W' (v : Int) = R.mul (m v) (W (v : Int)) ∧ W' (-(v : Int)) = R.mul (m v) (W (-(v : Int)))) :
  (R.wit W').sum N = R.mul (prodF R m n) ((R.wit W).sum N) := by
 rw [expand C hv hd W' n hn, expand C hv hd W n hn, ← sumTo_mul C];refine sumTo_congr _ _ _ fun s _ => ?_;rw [term_scale C W W' m s n h, C.mula]
end
end Cs
end
