/- The walk of sample.whole. -/
import Derived.Test.YtgnobohfnhpkdaaGreatDoorYh
set_option linter.unusedSimpArgs false
set_option linter.unusedVariables false
open Go Go.RowKit Cs
namespace Cs
/-- The factor that makes two weights whole. -/
def wLcm (p q : Pr) : Nat := qd p.2 * qd q.2 / Nat.gcd (qd p.2) (qd q.2)
/-- A weight times a factor. -/
def wMul (p : Pr) (a : Nat) : Pr := pq (qp p * (a : Rat))
/-- What whole holds behind k rounds. -/
def wSt (L H : List Pr) : Nat → List Pr × List Pr
  | 0 => (L, H)
  | k + 1 => ((wSt L H k).1.set k (wMul ((wSt L H k).1.getD k (0, 0)) (wLcm ((wSt L H k).1.getD k (0, 0)) ((wSt L H k).2.getD k (0, 0)))),
      (wSt L H k).2.set k (wMul ((wSt L H k).2.getD k (0, 0)) (wLcm ((wSt L H k).1.getD k (0, 0)) ((wSt L H k).2.getD k (0, 0)))))
theorem getD_set (L : List Pr) (k i : Nat) (p : Pr) (hk : k < L.length) : (L.set k p).getD i (0, 0) = if i = k then p else L.getD i (0, 0) := by
  rw [List.getD_eq_getElem?_getD, List.getD_eq_getElem?_getD, List.getElem?_set]
  by_cases h : k = i
  · subst h; rw [if_pos rfl, if_pos hk, if_pos rfl]; rfl
  · rw [if_neg h, if_neg (fun e => h e.symm)]
theorem wSt_len (L H : List Pr) : ∀ k, (wSt L H k).1.length = L.length ∧ (wSt L H k).2.length = H.length
  | 0 => ⟨rfl, rfl⟩
  | k + 1 => by
    obtain ⟨h1, h2⟩ := wSt_len L H k
    exact ⟨by show (List.set _ _ _).length = _; rw [List.length_set, h1], by show (List.set _ _ _).length = _; rw [List.length_set, h2]⟩
theorem wSt_get (L H : List Pr) (m : Nat) (hL : L.length = m) (hH : H.length = m) : ∀ k, k ≤ m → ∀ i,
    (wSt L H k).1.getD i (0, 0) = (if i < k then wMul (L.getD i (0, 0)) (wLcm (L.getD i (0, 0)) (H.getD i (0, 0))) else L.getD i (0, 0)) ∧
    (wSt L H k).2.getD i (0, 0) = (if i < k then wMul (H.getD i (0, 0)) (wLcm (L.getD i (0, 0)) (H.getD i (0, 0))) else H.getD i (0, 0))
  | 0, _, i => by rw [if_neg (by omega), if_neg (by omega)]; exact ⟨rfl, rfl⟩
  | k + 1, hk, i => by
    obtain ⟨l1, l2⟩ := wSt_len L H k
    have e := wSt_get L H m hL hH k (by omega)
    obtain ⟨a1, a2⟩ := e k
    rw [if_neg (by omega)] at a1 a2
    show (List.set _ _ _).getD i (0, 0) = _ ∧ (List.set _ _ _).getD i (0, 0) = _
    rw [getD_set _ _ _ _ (by omega), getD_set _ _ _ _ (by omega), a1, a2]
    by_cases h : i = k
    · subst h; rw [if_pos rfl, if_pos rfl, if_pos (by omega), if_pos (by omega)]; exact ⟨rfl, rfl⟩
    · rw [if_neg h, if_neg h, (e i).1, (e i).2]
      by_cases h2 : i < k
      · rw [if_pos h2, if_pos h2, if_pos (by omega), if_pos (by omega)]; exact ⟨rfl, rfl⟩
      · rw [if_neg h2, if_neg h2, if_neg (by omega), if_neg (by omega)]; exact ⟨rfl, rfl⟩
/-- A number of few bytes. -/
def Tiny (p : Pr) : Prop := n8 p.1 ≤ 1000 ∧ n8 p.2 ≤ 1000
theorem n8_qdT (d : Nat) (h : n8 d ≤ 1000) : n8 (qd d) ≤ 1000 := by
  unfold qd
  split
  · exact Nat.le_trans ((n8_le 1 _).2 (by decide)) (by omega)
  · exact h
theorem n8_lcm {p q : Pr} (hp : Tiny p) (hq : Tiny q) : n8 (qd p.2 * qd q.2) ≤ 2000 ∧ n8 (wLcm p q) ≤ 2000 := by
  have h1 := n8_mul (qd p.2) (qd q.2)
  have h2 := n8_qdT _ hp.2
  have h3 := n8_qdT _ hq.2
  have h4 : n8 (wLcm p q) ≤ n8 (qd p.2 * qd q.2) := n8_mono (Nat.div_le_self _ _)
  omega
/-- What lies in memory ahead of a round of whole. -/
structure WhAt (w wr : World) (tW tP : TypeId) (n gl cgl gh cgh : Nat) (L H : List Pr) : Prop where
  wts : wr.rowIs w.heap.size tW 2 (arrF #[.slice (some ⟨gl, 0, none⟩) (n + 1) cgl, .slice (some ⟨gh, 0, none⟩) (n + 1) cgh])
  res : wr.rowIs (w.heap.size + 1) tW 2 (arrF #[.slice none 0 0, .slice none 0 0])
  low : PrR wr gl tP (cgl * 2) (n + 1) L
  high : PrR wr gh tP (cgh * 2) (n + 1) H
  og : w.heap.size + 1 < gl
  oh : gl < gh
  cl : n + 1 ≤ cgl
  ch : n + 1 ≤ cgh
  bl : Below w.heap.size w wr
theorem WhAt.below {w wr w' : World} {tW tP : TypeId} {n gl cgl gh cgh : Nat} {L H : List Pr} (h : WhAt w wr tW tP n gl cgl gh cgh L H) (hb : Below wr.heap.size wr w') : WhAt w w' tW tP n gl cgl gh cgh L H :=
  ⟨rowBelow h.wts hb, rowBelow h.res hb, h.low.below hb, h.high.below hb, h.og, h.oh, h.cl, h.ch, h.bl.trans (hb.mono h.bl.size)⟩
theorem leA {B : Nat} {W : World} (h : B ≤ W.heap.size) (o : Obj) : B ≤ (W.alloc o).heap.size := by simp; omega
theorem leS {B : Nat} {W : World} (h : B ≤ W.heap.size) (a : Addr) (v : Value) : B ≤ (W.setCell a v).heap.size := by rw [size_setCell]; exact h
theorem ne_alloc {B : Nat} {w0 W : World} (h : Below B w0 W) : W.heap.size ≠ W.heap.size + 1 := by omega
theorem arrNew2 (w : World) (o : Obj) (a : Array Value) (t : TypeId) (n : Nat) (hn : a.size = n) : ((w.alloc o).alloc (.cells a t)).rowIs (w.heap.size + 1) t n (arrF a) := arrNew _ a t _ n (by simp) hn
end Cs
