/- Plain facts on sums of nets over pairs: they are those over fractions, and every number on the way is small. -/
import Derived.Test.YtgnobohfnhpkdaaDoorDn
set_option linter.unusedSimpArgs false
set_option linter.unusedVariables false
namespace Cs
/-- The weight of a literal. -/
def plit (n : Nat) (lo hi : List Pr) (l : Int) : Pr := if 1 ≤ l.natAbs ∧ l.natAbs ≤ n then (if l < 0 then lo.getD l.natAbs (0, 0) else hi.getD l.natAbs (0, 0)) else (0, 0)
/-- The ring of pairs. -/
def RP (n : Nat) (lo hi : List Pr) : Rg Pr := ⟨(0, 0), (1, 1), padd, pmul, plit n lo hi, fun v => padd (plit n lo hi (-v)) (plit n lo hi v)⟩
/-- The weights as fractions. -/
def Wq (n : Nat) (lo hi : List Pr) (l : Int) : Rat := qp (plit n lo hi l)
def rpq (p : Pr) (q : Rat) : Prop := Lp p ∧ qp p = q
/-- How great the parts of the weights at 0 may be. -/
def S0 (p : Pr) : Prop := n8 p.1 ≤ 40000 ∧ n8 p.2 ≤ 40000
theorem S0.sp {p : Pr} (h : S0 p) : Sp p := ⟨Nat.le_trans h.1 (by omega), Nat.le_trans h.2 (by omega)⟩
theorem n8_qd0 (d : Nat) (h : n8 d ≤ 40000) : n8 (qd d) ≤ 40000 := by
  unfold qd
  split
  · have : n8 1 ≤ 1 := (n8_le _ _).2 (by decide)
    omega
  · exact h
theorem Sp_add0 {a b : Pr} (ha : S0 a) (hb : S0 b) : Sp (padd a b) := by
  have e : padd a b = pq (qq (a.1 * qd b.2 + b.1 * qd a.2) (qd a.2 * qd b.2)) := by unfold padd qp; rw [← qq_add]
  have h1 := n8_qd0 _ ha.2
  have h2 := n8_qd0 _ hb.2
  have m1 := n8_mul a.1 (qd b.2)
  have m2 := n8_mul b.1 (qd a.2)
  have m3 := n8_add (a.1 * qd b.2) (b.1 * qd a.2)
  have m4 := n8_mul (qd a.2) (qd b.2)
  have a1 := ha.1
  have b1 := hb.1
  rw [e]
  constructor
  · show n8 (qn _) ≤ _
    rw [qn_qq]
    have := n8_mono (Nat.div_le_self (a.1 * qd b.2 + b.1 * qd a.2) (Nat.gcd (a.1 * qd b.2 + b.1 * qd a.2) (qd (qd a.2 * qd b.2))))
    omega
  · show n8 (Rat.den _) ≤ _
    rw [den_qq, qd_of (Nat.mul_pos (qd_pos _) (qd_pos _))]
    have := n8_mono (Nat.div_le_self (qd a.2 * qd b.2) (Nat.gcd (a.1 * qd b.2 + b.1 * qd a.2) (qd a.2 * qd b.2)))
    omega
structure WtOk (n : Nat) (lo hi : List Pr) : Prop where
  ll : lo.length = n + 1
  lh : hi.length = n + 1
  pl : ∀ k, Lp (lo.getD k (0, 0))
  ph : ∀ k, Lp (hi.getD k (0, 0))
  l0 : S0 (lo.getD 0 (0, 0))
  h0 : S0 (hi.getD 0 (0, 0))
  bits : bitsW (Wq n lo hi) n ≤ wB
section
variable {n : Nat} {lo hi : List Pr}
theorem WtOk.lit (h : WtOk n lo hi) (l : Int) : Lp (plit n lo hi l) := by
  unfold plit
  split
  · split
    · exact h.pl _
    · exact h.ph _
  · exact Lp.zero
theorem WtOk.wb (h : WtOk n lo hi) : Wb (Wq n lo hi) n where
  pos := fun l => qp_nonneg _
  out := fun l hl => by unfold Wq plit; rw [if_neg hl]; exact qp_zero
  bits := h.bits
theorem RP_rl (h : WtOk n lo hi) : Rl (RP n lo hi) (RW (Wq n lo hi)) rpq where
  zero := ⟨Lp.zero, qp_zero⟩
  one := ⟨Lp.one, qp_one⟩
  add := by rintro a _ c _ ⟨_, rfl⟩ ⟨_, rfl⟩; exact ⟨Lp_add a c, qp_add a c⟩
  mul := by rintro a _ c _ ⟨_, rfl⟩ ⟨_, rfl⟩; exact ⟨Lp_mul a c, qp_mul a c⟩
  lit := fun l => ⟨h.lit l, rfl⟩
  both := fun v => ⟨Lp_add _ _, by
    show qp (padd (plit n lo hi (-v)) (plit n lo hi v)) = Wq n lo hi v + Wq n lo hi (-v)
    rw [qp_add, Rat.add_comm]; rfl⟩
theorem rpq.sp {p : Pr} {q : Rat} (h : rpq p q) (hs : Sm smB q) : Sp p := Sp.of h.1 (by rw [h.2]; exact hs)
theorem p_lit (h : WtOk n lo hi) (l : Int) : Sp (plit n lo hi l) := ((RP_rl h).lit l).sp (q_lit h.wb l)
theorem p_both (h : WtOk n lo hi) (l : Int) : Sp ((RP n lo hi).both l) := ((RP_rl h).both l).sp (q_both h.wb l)
section
variable {N : Nt} (h : WtOk n lo hi) (hv : vld N = true) (hd : dcmp N = true) (hs : shortB N = true) (hn : N.n = (n : Int))
include h hv hd hs hn
theorem p_part (k : Nat) (hk : k < N.l.length) (m : Nat) :
    Sp ((N.l[k].ins.take m).foldl ((RP n lo hi).in1 (own N.l) (scan ((RP n lo hi).step (own N.l)) [] (N.l.take k)) N.l[k]) ((RP n lo hi).start N.l[k])) :=
  ((RP_rl h).fold ((RP_rl h).all (own N.l) (N.l.take k)) (own N.l) N.l[k] (N.l[k].ins.take m) _ _ ((RP_rl h).start N.l[k])).sp (q_part h.wb hv hd hs hn k hk m)
theorem p_wide (k : Nat) (hk : k ≤ N.l.length) (j : Nat) (hj : j < k) (all : Nat) (hall : ∀ i, ((own N.l).getD j 0).testBit i = true → all.testBit i = true) (m : Nat) :
    Sp ((RP n lo hi).wide ((scan ((RP n lo hi).step (own N.l)) [] (N.l.take k)).getD j (0, 0)) ((vl (minus all ((own N.l).getD j 0))).take m)) :=
  ((RP_rl h).wide ((vl (minus all ((own N.l).getD j 0))).take m) _ _ (((RP_rl h).all (own N.l) (N.l.take k)).2 j)).sp (q_wide h.wb hv hd hs hn k hk j hj all hall m)
theorem p_at (k : Nat) (hk : k ≤ N.l.length) (j : Nat) : Sp ((scan ((RP n lo hi).step (own N.l)) [] (N.l.take k)).getD j (0, 0)) := by
  rcases Nat.lt_or_ge j k with hj | hj
  · exact (((RP_rl h).all (own N.l) (N.l.take k)).2 j).sp (q_at h.wb hv hd hs hn k hk j hj)
  · rw [List.getD_eq_getElem?_getD, List.getElem?_eq_none (by rw [scan_len _ _ _ hk]; exact hj)]
    exact Sp.zero
end
/-- The sum over pairs is the sum over fractions. -/
theorem RP_sum (h : WtOk n lo hi) (N : Nt) : qp ((RP n lo hi).sum N) = (RW (Wq n lo hi)).sum N := ((RP_rl h).sum N).2
theorem RP_Lp (h : WtOk n lo hi) (N : Nt) : Lp ((RP n lo hi).sum N) := ((RP_rl h).sum N).1
/-- Both weights of each variable. -/
def bothP (lo hi : List Pr) (m : Nat) : List Pr := (List.range m).map fun v => padd (lo.getD v (0, 0)) (hi.getD v (0, 0))
theorem bothP_get {lo hi : List Pr} {m v : Nat} (hv : v < m) : (bothP lo hi m).getD v (0, 0) = padd (lo.getD v (0, 0)) (hi.getD v (0, 0)) := by
  unfold bothP
  simp [List.getD, hv]
theorem bothP_succ (lo hi : List Pr) (m : Nat) : bothP lo hi (m + 1) = bothP lo hi m ++ [padd (lo.getD m (0, 0)) (hi.getD m (0, 0))] := by
  unfold bothP; rw [List.range_succ, List.map_append]; rfl
theorem bothP_len (lo hi : List Pr) (m : Nat) : (bothP lo hi m).length = m := by simp [bothP]
theorem RP_both {v : Nat} (h1 : 1 ≤ v) (h2 : v ≤ n) : (RP n lo hi).both (v : Int) = padd (lo.getD v (0, 0)) (hi.getD v (0, 0)) := by
  show padd (plit n lo hi (-(v : Int))) (plit n lo hi (v : Int)) = _
  unfold plit
  have h3 : -(v : Int) < 0 := by omega
  have h4 : ¬ (v : Int) < 0 := by omega
  have h5 : 0 < v := h1
  simp [Int.natAbs_neg, Int.natAbs_natCast, h1, h2, h3, h4, h5]
theorem wide_fill (x : Pr) : ∀ (vs : List Int), (∀ v ∈ vs, 1 ≤ v ∧ v ≤ (n : Int)) → (RP n lo hi).wide x vs = vs.foldl (fun x v => pmul x ((bothP lo hi (n + 1)).getD v.toNat (0, 0))) x := by
  intro vs
  induction vs generalizing x with
  | nil => intro _; rfl
  | cons v vs ih =>
    intro h
    obtain ⟨u, hu⟩ : ∃ u : Nat, v = (u : Int) := ⟨v.toNat, by have := (h v (List.mem_cons_self ..)).1; omega⟩
    subst hu
    have h1 := h _ (List.mem_cons_self ..)
    show (RP n lo hi).wide (pmul x ((RP n lo hi).both (u : Int))) vs = _
    rw [ih _ fun w hw => h w (List.mem_cons_of_mem _ hw), RP_both (by omega) (by omega)]
    show _ = vs.foldl _ (pmul x ((bothP lo hi (n + 1)).getD ((u : Int).toNat) (0, 0)))
    rw [Int.toNat_natCast, bothP_get (by omega)]
end
end Cs
