import Derived.Test.YtmhllppjcilllaaGreatDoorHr
import Derived.Test.YtmhllppjcilllaaGreatDoorBq
import Derived.Test.YtmhllppjcilllaaGreatDoorB1
import Derived.Laws.AppendOwn
set_option linter.unusedSimpArgs false
set_option linter.unusedVariables false
open Go Go.RowKit Cs
namespace Go
structure Far2 (V : World) (r1 r2 : Option Nat) (W : World) : Prop where
 os : W.os = V.os
 tape : W.tape = V.tape
 output : W.output = V.output
 size : V.heap.size ≤ W.heap.size
 block : ∀ k, k < V.heap.size → some k ≠ r1 → some k ≠ r2 → W.heap[k]? = V.heap[k]?
theorem Far2.below {V W : World} {r1 r2 : Option Nat} (h : Far2 V r1 r2 W) {w : World} {B : Nat} (hb : Below B w V) (hB : B ≤ V.heap.size) (h1 : ∀ k, r1 = some k → B ≤ k) (h2 : ∀ k, r2 = some k → B ≤ k) : Below B w W :=
 hb.trans ⟨h.os, h.tape, h.output, h.size, fun k hk => h.block k (by omega) (fun e => by have := h1 k e.symm; omega) (fun e => by have := h2 k e.symm; omega)⟩
structure NewKept (V W W' : World) : Prop where
 size : W.heap.size ≤ W'.heap.size
 block : ∀ k, V.heap.size ≤ k → k < W.heap.size → W'.heap[k]? = W.heap[k]?
theorem NewKept.row {V W W' : World} (h : NewKept V W W') {g n : Nat} {t : TypeId} {f : Nat → Value} (hr : W.rowIs g t n f) (hg : V.heap.size ≤ g) : W'.rowIs g t n f :=
 hr.of_block (h.block g hg hr.lt)
structure Two (V : World) (base : Nat) (e : TypeId) (size : Nat) (s1 : Value) (k : Nat) (xs : List Value) (s2 : Value) (m : Nat) (ys : List Value) (W : World) : Prop where
 far : Far2 V s1.ownBlock s2.ownBlock W
 o1 : W.ownsRow base e size s1 k xs
 o2 : W.ownsRow base e size s2 m ys
def ApR (base : Nat) (e : TypeId) (size : Nat) (s : Value) (k : Nat) (xs : List Value) (v : Value) (W W' : World) : Prop :=
 W.grownBy W' s.ownBlock ∧ W'.ownsRow base e size s k xs ∧ (v.ownBlock = s.ownBlock ∨ v.ownBlock = some W.heap.size)
def ApP (V : World) (base : Nat) (e : TypeId) (size : Nat) (s : Value) (k : Nat) (xs : List Value) (v : Value) (W : World) : Prop :=
 W.ownsRow base e size v k xs ∧ (v.ownBlock = s.ownBlock ∨ ∃ b, v.ownBlock = some b ∧ V.heap.size ≤ b)
def RlTwo (a1 a2 : Nat) (base : Nat) (e : TypeId) (size : Nat) (s1 : Value) (k : Nat) (xs : List Value) (s2 : Value) (m : Nat) (ys : List Value) (i : Nat) (v : Value) (W W' : World) : Prop :=
 (i = a1 → ApR base e size s1 k xs v W W') ∧ (i = a2 → ApR base e size s2 m ys v W W') ∧ (i ≠ a1 → i ≠ a2 → Below W.heap.size W W')
theorem Two.refl {V : World} {base : Nat} {e : TypeId} {size : Nat} {s1 : Value} {k : Nat} {xs : List Value} {s2 : Value} {m : Nat} {ys : List Value} (o1 : V.ownsRow base e size s1 k xs) (o2 : V.ownsRow base e size s2 m ys) : Two V base e size s1 k xs s2 m ys V :=
 ⟨⟨rfl, rfl, rfl, zqn _, fun _ _ _ _ => rfl⟩, o1, o2⟩
theorem Two.drew {V : World} {base : Nat} {e : TypeId} {size : Nat} {s1 : Value} {k : Nat} {xs : List Value} {s2 : Value} {m : Nat} {ys : List Value} {W : World} (h : Two V base e size s1 k xs s2 m ys W) : Two V base e size s1 k xs s2 m ys W.drew :=
 ⟨⟨h.far.os, h.far.tape, h.far.output, h.far.size, h.far.block⟩, h.o1, h.o2⟩
section
variable {P : Program} {ops : Array Oper} {Q : Exit → Act → World → Prop} {V : World} {base : Nat} {e : TypeId} {size : Nat} {s1 : Value} {k : Nat} {xs : List Value} {s2 : Value} {m : Nat} {ys : List Value} {a1 a2 : Nat}
theorem RlTwo.new {W W' : World} {i : Nat} {v : Value} (o1 : V.ownsRow base e size s1 k xs) (o2 : V.ownsRow base e size s2 m ys) (h : RlTwo a1 a2 base e size s1 k xs s2 m ys i v W W') : NewKept V W W' := by
 by_cases h1 : i = a1
 ·obtain ⟨g, _, _⟩ := h.1 h1;exact ⟨g.size, fun b hb hbw => g.block b hbw fun he => by have := (o1.lt b he.symm).2; omega⟩
 ·by_cases h2 : i = a2
  ·obtain ⟨g, _, _⟩ := h.2.1 h2;exact ⟨g.size, fun b hb hbw => g.block b hbw fun he => by have := (o2.lt b he.symm).2; omega⟩
  ·have g := h.2.2 h1 h2;exact ⟨g.size, fun b _ hbw => g.block b hbw⟩
theorem ApP.kept {s : Value} {j : Nat} {zs : List Value} {v : Value} {W W' : World} {r : Option Nat} (h : ApP V base e size s j zs v W) (hg : W.grownBy W' r) (hr : ∀ b, r = some b → b < V.heap.size) (hd : ∀ b, s.ownBlock = some b → r ≠ some b) : ApP V base e size s j zs v W' := by
 refine ⟨h.1.kept hg ?_, h.2⟩;cases hv : v.ownBlock with
 | none => exact Or.inl rfl
 | some b =>
   refine Or.inr fun he => ?_;rcases h.2 with h2 | ⟨b', h2, hb'⟩
   ·rw [hv] at h2;exact hd b h2.symm he.symm
   ·rw [hv] at h2;have := hr b he.symm;simp only [Option.some.injEq] at h2;omega
theorem ApP.below {s : Value} {j : Nat} {zs : List Value} {v : Value} {W W' : World} (h : ApP V base e size s j zs v W) (hb : Below W.heap.size W W') : ApP V base e size s j zs v W' := by
 refine ⟨h.1.kept (row := none) ⟨hb.os, hb.tape, hb.output, hb.size, fun b hbk _ => hb.block b hbk⟩ ?_, h.2⟩;cases hv : v.ownBlock
 ·exact Or.inl rfl
 ·exact Or.inr (by simp)
theorem wp_region_two (n1 n2 : List Value) (PX : List (List Value → Value → World → Prop)) (DP : List (List Nat)) (L1 ex : List Nat) (n : Nat) {id : Nat} {a : Act}
  (o1 : V.ownsRow base e size s1 k xs) (o2 : V.ownsRow base e size s2 m ys) (hdis : ∀ b, s1.ownBlock = some b → s2.ownBlock ≠ some b) (h12 : a1 ≠ a2) (hm : P.follows .mixedOrders = true)
  (hn : a.tmps.size = n) (hok : Region.propsB .any ops L1 (L1 ++ ex) (fun i => DP.getD i []) n = true)
  (p1 : PX.getD a1 (fun _ _ _ => True) = fun _ v W => ApP V base e size s1 (k + 1) (xs ++ n1) v W) (p2 : PX.getD a2 (fun _ _ _ => True) = fun _ v W => ApP V base e size s2 (m + 1) (ys ++ n2) v W)
  (hne1 : ∀ (W : World) (v : Value) (zs : List Value) (j : Nat), W.ownsRow base e size v (j + 1) zs → v.ownBlock ≠ none)
  (hst : ∀ i, i ≠ a1 → i ≠ a2 → ∀ l v W W', (PX.getD i fun _ _ _ => True) l v W → NewKept V W W' → (PX.getD i fun _ _ _ => True) l v W')
  (hstep : ∀ i ∈ L1 ++ ex, StepR P ops (Two V base e size s1 k xs s2 m ys) (RlTwo a1 a2 base e size s1 k xs s2 m ys) a (fun i => PX.getD i fun _ _ _ => True) (fun i => DP.getD i []) i)
  (hfin : ∀ bs : List Bool, bs.length = ex.length → FinR P ops Q (Two V base e size s1 k xs s2 m ys) (fun i j v v' => (i = a1 ∧ j = a2) ∨ (i = a2 ∧ j = a1) → v.ownBlock ≠ v'.ownBlock) a (fun i => PX.getD i fun _ _ _ => True) (fun i => DP.getD i []) (L1 ++ pickL ex bs)) : (Code.region id ops true).wp P Q a V := by
 have l1 : ∀ b, s1.ownBlock = some b → b < V.heap.size := fun b hb => (o1.lt b hb).2;have l2 : ∀ b, s2.ownBlock = some b → b < V.heap.size := fun b hb => (o2.lt b hb).2;have hdis' : ∀ b, s2.ownBlock = some b → s1.ownBlock ≠ some b := fun b hb he => hdis b he hb;refine wp_region_rel (Two V base e size s1 k xs s2 m ys) (RlTwo a1 a2 base e size s1 k xs s2 m ys) _ PX DP L1 ex n hm hn hok (Two.refl o1 o2).drew ?_ ?_ ?_ hstep hfin
 ·intro j v W W' hI hr;by_cases h1 : j = a1
  ·obtain ⟨g, o, _⟩ := hr.1 h1;refine ⟨⟨g.os.trans hI.far.os, g.tape.trans hI.far.tape, g.output.trans hI.far.output, Nat.le_trans hI.far.size g.size, fun b hb x1 x2 => (g.block b (Nat.lt_of_lt_of_le hb hI.far.size) x1).trans (hI.far.block b hb x1 x2)⟩, o, hI.o2.kept g ?_⟩;cases hv : s2.ownBlock with
   | none => exact Or.inl rfl
   | some b => exact Or.inr fun he => hdis' b hv he.symm
  ·by_cases h2 : j = a2
   ·obtain ⟨g, o, _⟩ := hr.2.1 h2;refine ⟨⟨g.os.trans hI.far.os, g.tape.trans hI.far.tape, g.output.trans hI.far.output, Nat.le_trans hI.far.size g.size, fun b hb x1 x2 => (g.block b (Nat.lt_of_lt_of_le hb hI.far.size) x2).trans (hI.far.block b hb x1 x2)⟩, hI.o1.kept g ?_, o⟩;cases hv : s1.ownBlock with
    | none => exact Or.inl rfl
    | some b => exact Or.inr fun he => hdis b hv he.symm
   ·have g := hr.2.2 h1 h2;have gg : W.grownBy W' none := ⟨g.os, g.tape, g.output, g.size, fun b hb _ => g.block b hb⟩;refine ⟨⟨g.os.trans hI.far.os, g.tape.trans hI.far.tape, g.output.trans hI.far.output, Nat.le_trans hI.far.size g.size, fun b hb x1 x2 => (g.block b (Nat.lt_of_lt_of_le hb hI.far.size)).trans (hI.far.block b hb x1 x2)⟩, hI.o1.kept gg ?_, hI.o2.kept gg ?_⟩
    ·cases s1.ownBlock <;> simp
    ·cases s2.ownBlock <;> simp
 ·intro i j l v v' W W' hij hp hr;by_cases i1 : i = a1
  ·subst i1;rw [p1] at hp ⊢;by_cases h2 : j = a2
   ·exact hp.kept (hr.2.1 h2).1 l2 fun b hb he => hdis b hb he
   ·exact hp.below (hr.2.2 (fun e => hij e.symm) h2)
  ·by_cases i2 : i = a2
   ·subst i2;rw [p2] at hp ⊢;by_cases h1 : j = a1
    ·exact hp.kept (hr.1 h1).1 l1 fun b hb he => hdis' b hb he
    ·exact hp.below (hr.2.2 h1 (fun e => hij e.symm))
   ·exact hst i i1 i2 l v W W' hp (hr.new o1 o2)
 ·intro i j l v v' W W' hij hp hr
  have key : (i = a1 ∧ j = a2) ∨ (i = a2 ∧ j = a1) → v.ownBlock ≠ v'.ownBlock := by
   rintro (⟨rfl, rfl⟩ | ⟨rfl, rfl⟩) he
   ·rw [p1] at hp;have hnn := hne1 _ _ _ _ hp.1;obtain ⟨b, hb⟩ : ∃ b, v.ownBlock = some b := Option.ne_none_iff_exists'.1 hnn;have hlt := (hp.1.lt b hb).2;have hb' : v'.ownBlock = some b := he.symm.trans hb;rcases (hr.2.1 rfl).2.2 with h2 | h2
    ·have hs2 : s2.ownBlock = some b := h2.symm.trans hb';rcases hp.2 with h3 | ⟨b3, h3, h4⟩
     ·exact hdis b (h3.symm.trans hb) hs2
     ·rw [hb] at h3;have := l2 b hs2;simp only [Option.some.injEq] at h3;omega
    ·rw [hb'] at h2;simp only [Option.some.injEq] at h2;omega
   ·rw [p2] at hp;have hnn := hne1 _ _ _ _ hp.1;obtain ⟨b, hb⟩ : ∃ b, v.ownBlock = some b := Option.ne_none_iff_exists'.1 hnn;have hlt := (hp.1.lt b hb).2;have hb' : v'.ownBlock = some b := he.symm.trans hb;rcases (hr.1 rfl).2.2 with h2 | h2
    ·have hs1 : s1.ownBlock = some b := h2.symm.trans hb';rcases hp.2 with h3 | ⟨b3, h3, h4⟩
     ·exact hdis' b (h3.symm.trans hb) hs1
     ·rw [hb] at h3;have := l1 b hs1;simp only [Option.some.injEq] at h3;omega
    ·rw [hb'] at h2;simp only [Option.some.injEq] at h2;omega
  exact ⟨key, fun h he => key (h.elim (fun ⟨h1, h2⟩ => Or.inr ⟨h2, h1⟩) fun ⟨h1, h2⟩ => Or.inl ⟨h2, h1⟩) he.symm⟩
end
theorem ownsRow_some {W : World} {base : Nat} {e : TypeId} {size : Nat} {v : Value} {zs : List Value} {j : Nat} (h : W.ownsRow base e size v (j + 1) zs) : v.ownBlock ≠ none := by
 rcases h.2 with ⟨_, h0⟩ | ⟨g, cap, cur, rfl, _⟩
 ·omega
 ·simp [Value.ownBlock]
end Go
