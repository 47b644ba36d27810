/- The walk of sample.whole. The walk of sample.whole. The walk of sample.Weighted. -/
import Derived.Test.YtgnobohfnhpkdaaGreatDoorYh
import Derived.Test.YtgnobohfnhpkdaaGreatDoorDw
import Derived.Test.YtgnobohfnhpkdaaGreatDoorHp
import Derived.Test.YtgnobohfnhpkdaaGreatDoorYl
import Derived.Test.YtgnobohfnhpkdaaGreatDoorTe
section
set_option linter.unusedSimpArgs false
set_option linter.unusedVariables false
open Go Go.RowKit Cs
namespace Cs
def wLcm (p q : Pr) : Nat := qd p.2 * qd q.2 / Nat.gcd (qd p.2) (qd q.2)
def wMul (p : Pr) (a : Nat) : Pr := pq (qp p * (a : Rat))
def wSt (L H : List Pr) : Nat → List Pr × List Pr
  | 0 => (L, H)
  | k + 1 => ((wSt L H k).1.set k (wMul ((wSt L H k).1.getD k (0, 0)) (wLcm ((wSt L H k).1.getD k (0, 0)) ((wSt L H k).2.getD k (0, 0)))),
      (wSt L H k).2.set k (wMul ((wSt L H k).2.getD k (0, 0)) (wLcm ((wSt L H k).1.getD k (0, 0)) ((wSt L H k).2.getD k (0, 0)))))
theorem getD_set (L : List Pr) (k i : Nat) (p : Pr) (hk : k < L.length) : (L.set k p).getD i (0, 0) = if i = k then p else L.getD i (0, 0) := by
  rw [List.getD_eq_getElem?_getD, List.getD_eq_getElem?_getD, List.getElem?_set]
  by_cases h : k = i
  · subst h; rw [if_pos rfl, if_pos hk, if_pos rfl]; rfl
  · rw [if_neg h, if_neg (fun e => h e.symm)]
theorem wSt_len (L H : List Pr) : ∀ k, (wSt L H k).1.length = L.length ∧ (wSt L H k).2.length = H.length
  | 0 => ⟨rfl, rfl⟩
  | k + 1 => by
    obtain ⟨h1, h2⟩ := wSt_len L H k
    exact ⟨by show (List.set _ _ _).length = _; rw [List.length_set, h1], by show (List.set _ _ _).length = _; rw [List.length_set, h2]⟩
theorem wSt_get (L H : List Pr) (m : Nat) (hL : L.length = m) (hH : H.length = m) : ∀ k, k ≤ m → ∀ i,
    (wSt L H k).1.getD i (0, 0) = (if i < k then wMul (L.getD i (0, 0)) (wLcm (L.getD i (0, 0)) (H.getD i (0, 0))) else L.getD i (0, 0)) ∧
    (wSt L H k).2.getD i (0, 0) = (if i < k then wMul (H.getD i (0, 0)) (wLcm (L.getD i (0, 0)) (H.getD i (0, 0))) else H.getD i (0, 0))
  | 0, _, i => by rw [if_neg (by omega), if_neg (by omega)]; exact ⟨rfl, rfl⟩
  | k + 1, hk, i => by
    obtain ⟨l1, l2⟩ := wSt_len L H k
    have e := wSt_get L H m hL hH k (by omega)
    obtain ⟨a1, a2⟩ := e k
    rw [if_neg (by omega)] at a1 a2
    show (List.set _ _ _).getD i (0, 0) = _ ∧ (List.set _ _ _).getD i (0, 0) = _
    rw [getD_set _ _ _ _ (by omega), getD_set _ _ _ _ (by omega), a1, a2]
    by_cases h : i = k
    · subst h; rw [if_pos rfl, if_pos rfl, if_pos (by omega), if_pos (by omega)]; exact ⟨rfl, rfl⟩
    · rw [if_neg h, if_neg h, (e i).1, (e i).2]
      by_cases h2 : i < k
      · rw [if_pos h2, if_pos h2, if_pos (by omega), if_pos (by omega)]; exact ⟨rfl, rfl⟩
      · rw [if_neg h2, if_neg h2, if_neg (by omega), if_neg (by omega)]; exact ⟨rfl, rfl⟩
def Tiny (p : Pr) : Prop := n8 p.1 ≤ 1000 ∧ n8 p.2 ≤ 1000
theorem n8_qdT (d : Nat) (h : n8 d ≤ 1000) : n8 (qd d) ≤ 1000 := by
  unfold qd
  split
  · exact Nat.le_trans ((n8_le 1 _).2 (by decide)) (by omega)
  · exact h
theorem n8_lcm {p q : Pr} (hp : Tiny p) (hq : Tiny q) : n8 (qd p.2 * qd q.2) ≤ 2000 ∧ n8 (wLcm p q) ≤ 2000 := by
  have h1 := n8_mul (qd p.2) (qd q.2)
  have h2 := n8_qdT _ hp.2
  have h3 := n8_qdT _ hq.2
  have h4 : n8 (wLcm p q) ≤ n8 (qd p.2 * qd q.2) := n8_mono (Nat.div_le_self _ _)
  omega
structure WhAt (w wr : World) (tW tP : TypeId) (n gl cgl gh cgh : Nat) (L H : List Pr) : Prop where
  wts : wr.rowIs w.heap.size tW 2 (arrF #[.slice (some ⟨gl, 0, none⟩) (n + 1) cgl, .slice (some ⟨gh, 0, none⟩) (n + 1) cgh])
  res : wr.rowIs (w.heap.size + 1) tW 2 (arrF #[.slice none 0 0, .slice none 0 0])
  low : PrR wr gl tP (cgl * 2) (n + 1) L
  high : PrR wr gh tP (cgh * 2) (n + 1) H
  og : w.heap.size + 1 < gl
  oh : gl < gh
  cl : n + 1 ≤ cgl
  ch : n + 1 ≤ cgh
  bl : Below w.heap.size w wr
theorem WhAt.below {w wr w' : World} {tW tP : TypeId} {n gl cgl gh cgh : Nat} {L H : List Pr} (h : WhAt w wr tW tP n gl cgl gh cgh L H) (hb : Below wr.heap.size wr w') : WhAt w w' tW tP n gl cgl gh cgh L H :=
  ⟨rowBelow h.wts hb, rowBelow h.res hb, h.low.below hb, h.high.below hb, h.og, h.oh, h.cl, h.ch, h.bl.trans (hb.mono h.bl.size)⟩
theorem arrNew2 (w : World) (o : Obj) (a : Array Value) (t : TypeId) (n : Nat) (hn : a.size = n) : ((w.alloc o).alloc (.cells a t)).rowIs (w.heap.size + 1) t n (arrF a) := arrNew _ a t _ n (by simp) hn
end Cs
end
section
set_option linter.unusedSimpArgs false
set_option linter.unusedVariables false
open Go Go.RowKit Cs
namespace Cs
def WgOk (L : List Pr) : Prop := ∀ k, Lp (L.getD k (0, 0)) ∧ Tiny (L.getD k (0, 0))
theorem Tiny.s0 {p : Pr} (h : Tiny p) : S0 p := ⟨Nat.le_trans h.1 (by omega), Nat.le_trans h.2 (by omega)⟩
theorem wMul_s0 {p : Pr} (hp : Tiny p) (a : Nat) (ha : n8 a ≤ 2000) : S0 (wMul p a) := by
  have e : qp p * ((a : Nat) : Rat) = qq (p.1 * a) (qd p.2 * qd 1) := by
    rw [qq_mul, qq_one]; rfl
  have h1 := n8_mul p.1 a
  have h2 := n8_qdT _ hp.2
  have h3 : qd p.2 * qd 1 = qd p.2 := by show qd p.2 * 1 = qd p.2; omega
  unfold S0 wMul pq
  rw [e, h3]
  constructor
  · show n8 (qn _) ≤ _
    exact Nat.le_trans (n8_mono (Go.Proofs.YtgnobohfnhpkdaaGreatDoor.qn_qq_le _ _)) (by have := hp.1; omega)
  · show n8 (Rat.den _) ≤ _
    exact Nat.le_trans (n8_mono (Go.Proofs.YtgnobohfnhpkdaaGreatDoor.den_qq_le _ _ (qd_pos _))) (by omega)
theorem wMul_lp (p : Pr) (a : Nat) : Lp (wMul p a) := Lp.pq (Rat.mul_nonneg (qp_nonneg p) (by exact_mod_cast Nat.zero_le a))
theorem wSt_in {n : Nat} {lo hi : List Pr} (h1 : WgOk lo) (h2 : WgOk hi) (hl : lo.length = n + 1) (hh : hi.length = n + 1) : WtIn n (wSt lo hi (n + 1)).1 (wSt lo hi (n + 1)).2 := by
  have g := wSt_get lo hi (n + 1) hl hh (n + 1) (Nat.le_refl _)
  have hlc := fun i => (n8_lcm (h1 i).2 (h2 i).2).2
  have a1 : ∀ i, Lp ((wSt lo hi (n + 1)).1.getD i (0, 0)) ∧ S0 ((wSt lo hi (n + 1)).1.getD i (0, 0)) := fun i => by
    rw [(g i).1]
    split
    · exact ⟨wMul_lp _ _, wMul_s0 (h1 i).2 _ (hlc i)⟩
    · exact ⟨(h1 i).1, (h1 i).2.s0⟩
  have a2 : ∀ i, Lp ((wSt lo hi (n + 1)).2.getD i (0, 0)) ∧ S0 ((wSt lo hi (n + 1)).2.getD i (0, 0)) := fun i => by
    rw [(g i).2]
    split
    · exact ⟨wMul_lp _ _, wMul_s0 (h2 i).2 _ (hlc i)⟩
    · exact ⟨(h2 i).1, (h2 i).2.s0⟩
  obtain ⟨l1, l2⟩ := wSt_len lo hi (n + 1)
  exact ⟨by omega, by omega, fun k => (a1 k).1, fun k => (a2 k).1, (a1 0).2, (a2 0).2, fun k => (a1 k).2.sp, fun k => (a2 k).2.sp⟩
def wgR (N : Nt) (lo hi : List Pr) (bs : List Nat) : Tk :=
  if wchk N lo hi = 0 then tkR N N.n.toNat (wSt lo hi (N.n.toNat + 1)).1 (wSt lo hi (N.n.toNat + 1)).2 bs else Tk.no (wchk N lo hi)
end Cs
end
