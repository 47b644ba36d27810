import Derived.Test.YtoljkoifgnmbgaaGreatDoorVa
import Derived.Test.YtoljkoifgnmbgaaGreatDoorDt
set_option linter.unusedSimpArgs false
set_option linter.unusedVariables false
open Go Go.RowKit Cs Go.Proofs.YtoljkoifgnmbgaaGreatDoor
namespace Cs
def cLo (n : Nat) (T : List Int) : List Nat := (List.range (n + 1)).map fun (v : Nat) => if (v : Int) ∈ T then 0 else 1
def cHi (n : Nat) (T : List Int) : List Nat := (List.range (n + 1)).map fun (v : Nat) => if -(v : Int) ∈ T then 0 else 1
def wLo (n : Nat) (lo : List Pr) (T : List Int) : List Pr := (List.range (n + 1)).map fun (v : Nat) => if (v : Int) ∈ T then (0, 0) else lo.getD v (0, 0)
def wHi (n : Nat) (hi : List Pr) (T : List Int) : List Pr := (List.range (n + 1)).map fun (v : Nat) => if -(v : Int) ∈ T then (0, 0) else hi.getD v (0, 0)
theorem rng_get {α : Type} (f : Nat → α) (z : α) (m v : Nat) : ((List.range m).map f).getD v z = if v < m then f v else z := by
 rw [List.getD_eq_getElem?_getD];by_cases h : v < m
 ·rw [if_pos h, List.getElem?_map, List.getElem?_range h]; rfl
 ·rw [if_neg h, List.getElem?_eq_none (by simp; omega)]; rfl
theorem rng_set {α : Type} (f g : Nat → α) (m v : Nat) (x : α) (h : ∀ u, u < m → u ≠ v → f u = g u) (hx : g v = x) : ((List.range m).map f).set v x = (List.range m).map g := by
 refine List.ext_getElem? fun i => ?_;rw [List.getElem?_set, List.getElem?_map, List.getElem?_map];by_cases hi : i < m
 ·rw [List.getElem?_range hi];by_cases e : v = i
  ·subst e
   rw [if_pos rfl, if_pos (by simp; exact hi), ← hx]; rfl
  ·rw [if_neg e];show some (f i) = some (g i);rw [h i hi (fun e2 => e e2.symm)]
 ·rw [List.getElem?_eq_none (by simp; omega)];by_cases e : v = i
  ·subst e
   rw [if_pos rfl, if_neg (by simp; omega)]; rfl
  ·rw [if_neg e]; rfl
section
variable {n : Nat} {lo hi : List Pr} {T : List Int}
theorem cLo_get (v : Nat) : (cLo n T).getD v 0 = if v < n + 1 then (if (v : Int) ∈ T then 0 else 1) else 0 := rng_get _ _ _ _
theorem cHi_get (v : Nat) : (cHi n T).getD v 0 = if v < n + 1 then (if -(v : Int) ∈ T then 0 else 1) else 0 := rng_get _ _ _ _
theorem wLo_get (v : Nat) : (wLo n lo T).getD v (0, 0) = if v < n + 1 then (if (v : Int) ∈ T then (0, 0) else lo.getD v (0, 0)) else (0, 0) := rng_get _ _ _ _
theorem wHi_get (v : Nat) : (wHi n hi T).getD v (0, 0) = if v < n + 1 then (if -(v : Int) ∈ T then (0, 0) else hi.getD v (0, 0)) else (0, 0) := rng_get _ _ _ _
theorem wLo_len : (wLo n lo T).length = n + 1 := by simp [wLo]
theorem wHi_len : (wHi n hi T).length = n + 1 := by simp [wHi]
theorem cLo_le (k : Nat) : (cLo n T).getD k 0 ≤ 1 := by
 rw [cLo_get];split
 ·split <;> omega
 ·omega
theorem cHi_le (k : Nat) : (cHi n T).getD k 0 ≤ 1 := by
 rw [cHi_get];split
 ·split <;> omega
 ·omega
theorem wLo_nil (h : lo.length = n + 1) : wLo n lo [] = lo := by
 refine List.ext_getElem? fun i => ?_;unfold wLo;rw [List.getElem?_map];by_cases hi : i < n + 1
 ·rw [List.getElem?_range hi];show some (if (i : Int) ∈ [] then (0, 0) else lo.getD i (0, 0)) = _
  rw [if_neg (by simp), List.getD_eq_getElem?_getD, List.getElem?_eq_getElem (by omega)]; rfl
 ·rw [List.getElem?_eq_none (by simp; omega), List.getElem?_eq_none (by omega)]; rfl
theorem wHi_nil (h : hi.length = n + 1) : wHi n hi [] = hi := wLo_nil h
theorem cLo_nil : cLo n [] = List.replicate (n + 1) 1 := by
 unfold cLo;refine List.ext_getElem? fun i => ?_;rw [List.getElem?_map, List.getElem?_replicate];by_cases hi : i < n + 1
 ·rw [List.getElem?_range hi, if_pos hi]; rfl
 ·rw [List.getElem?_eq_none (by simp; omega), if_neg hi]; rfl
theorem cHi_nil : cHi n [] = List.replicate (n + 1) 1 := cLo_nil
structure TOk (n : Nat) (T : List Int) : Prop where
 rng : ∀ l ∈ T, 1 ≤ l.natAbs ∧ l.natAbs ≤ n
 nd : (T.map Int.natAbs).Nodup
theorem TOk.nil : TOk n [] := ⟨(fun _ h => by cases h), List.nodup_nil⟩
theorem TOk.snoc (h : TOk n T) {l : Int} (h1 : 1 ≤ l.natAbs) (h2 : l.natAbs ≤ n) (hp : l ∉ T) (hm : -l ∉ T) : TOk n (T ++ [l]) := by
 refine ⟨fun x hx => ?_, ?_⟩
 ·rcases List.mem_append.1 hx with hx | hx
  ·exact h.rng x hx
  ·rw [List.mem_singleton.1 hx]; exact ⟨h1, h2⟩
 ·rw [List.map_append, List.nodup_append];refine ⟨h.nd, by simp, fun a ha b hb => ?_⟩;simp at hb;subst hb;obtain ⟨x, hx, rfl⟩ := List.mem_map.1 ha;intro e;rcases Int.natAbs_eq_natAbs_iff.1 e with e | e
  ·exact hp (e ▸ hx)
  ·exact hm (e ▸ hx)
theorem TOk.out {l : Int} (h : TOk n (T ++ [l])) : l ∉ T ∧ -l ∉ T := by
 have h2 := h.nd;rw [List.map_append, List.nodup_append] at h2;refine ⟨fun hl => h2.2.2 _ (List.mem_map_of_mem hl) _ (by simp) rfl, fun hl => ?_⟩;exact h2.2.2 _ (List.mem_map_of_mem hl) l.natAbs (by simp) (Int.natAbs_neg l)
theorem TOk.last {l : Int} (h : TOk n (T ++ [l])) : 1 ≤ l.natAbs ∧ l.natAbs ≤ n := h.rng l (by simp)
theorem mem_snoc {T : List Int} {x l : Int} : x ∈ T ++ [l] ↔ x ∈ T ∨ x = l := by simp
theorem ite_snoc {α : Type} {T : List Int} {x l : Int} (h : x ≠ l) (a b : α) : (if x ∈ T ++ [l] then a else b) = if x ∈ T then a else b := by
 have : x ∈ T ++ [l] ↔ x ∈ T := by rw [mem_snoc]; exact ⟨fun h2 => h2.resolve_right h, Or.inl⟩
 simp only [this]
theorem cLo_snoc {l : Int} (hl : 0 < l) : cLo n (T ++ [l]) = (cLo n T).set l.natAbs 0 :=
 (rng_set _ _ _ _ _ (fun u hu hne => (ite_snoc (by omega) _ _).symm) (if_pos (by rw [mem_snoc]; exact Or.inr (by omega)))).symm
theorem cHi_same {l : Int} (hl : 0 < l) : cHi n (T ++ [l]) = cHi n T := List.map_congr_left fun u hu => ite_snoc (by omega) _ _
theorem cLo_same {l : Int} (hl : l < 0) : cLo n (T ++ [l]) = cLo n T := List.map_congr_left fun u hu => ite_snoc (by omega) _ _
theorem cHi_snoc {l : Int} (hl : l < 0) : cHi n (T ++ [l]) = (cHi n T).set l.natAbs 0 :=
 (rng_set _ _ _ _ _ (fun u hu hne => (ite_snoc (by omega) _ _).symm) (if_pos (by rw [mem_snoc]; exact Or.inr (by omega)))).symm
theorem wLo_snoc {l : Int} (hl : 0 < l) : wLo n lo (T ++ [l]) = (wLo n lo T).set l.natAbs (0, 0) :=
 (rng_set _ _ _ _ _ (fun u hu hne => (ite_snoc (by omega) _ _).symm) (if_pos (by rw [mem_snoc]; exact Or.inr (by omega)))).symm
theorem wHi_same {l : Int} (hl : 0 < l) : wHi n hi (T ++ [l]) = wHi n hi T := List.map_congr_left fun u hu => ite_snoc (by omega) _ _
theorem wLo_same {l : Int} (hl : l < 0) : wLo n lo (T ++ [l]) = wLo n lo T := List.map_congr_left fun u hu => ite_snoc (by omega) _ _
theorem wHi_snoc {l : Int} (hl : l < 0) : wHi n hi (T ++ [l]) = (wHi n hi T).set l.natAbs (0, 0) :=
 (rng_set _ _ _ _ _ (fun u hu hne => (ite_snoc (by omega) _ _).symm) (if_pos (by rw [mem_snoc]; exact Or.inr (by omega)))).symm
theorem cLo_back {l : Int} (hl : 0 < l) (h : l ∉ T) : cLo n T = (cLo n (T ++ [l])).set l.natAbs 1 :=
 (rng_set _ _ _ _ _ (fun u hu hne => ite_snoc (by omega) _ _) (if_neg (by rw [show ((l.natAbs : Nat) : Int) = l by omega]; exact h))).symm
theorem cHi_back {l : Int} (hl : l < 0) (h : l ∉ T) : cHi n T = (cHi n (T ++ [l])).set l.natAbs 1 :=
 (rng_set _ _ _ _ _ (fun u hu hne => ite_snoc (by omega) _ _) (if_neg (by rw [show -((l.natAbs : Nat) : Int) = l by omega]; exact h))).symm
theorem wLo_back {l : Int} (hl : 0 < l) (h : l ∉ T) : wLo n lo T = (wLo n lo (T ++ [l])).set l.natAbs (lo.getD l.natAbs (0, 0)) :=
 (rng_set _ _ _ _ _ (fun u hu hne => ite_snoc (by omega) _ _) (if_neg (by rw [show ((l.natAbs : Nat) : Int) = l by omega]; exact h))).symm
theorem wHi_back {l : Int} (hl : l < 0) (h : l ∉ T) : wHi n hi T = (wHi n hi (T ++ [l])).set l.natAbs (hi.getD l.natAbs (0, 0)) :=
 (rng_set _ _ _ _ _ (fun u hu hne => ite_snoc (by omega) _ _) (if_neg (by rw [show -((l.natAbs : Nat) : Int) = l by omega]; exact h))).symm
theorem sumB_le {a b : List Pr} (h : ∀ k, pbits (a.getD k (0, 0)) ≤ pbits (b.getD k (0, 0))) : ∀ m, sumB a m ≤ sumB b m
 | 0 => zqn _
 | m + 1 => Nat.add_le_add (sumB_le h m) (h (m + 1))
theorem pbits_min (p : Pr) : pbits (0, 0) ≤ pbits p := by
 have h : pbits (0, 0) = 1 := by decide +kernel
 rw [h]; exact pbits_pos p
theorem S0.zero : S0 (0, 0) := by constructor <;> (show n8 0 ≤ _; rw [n8_zero]; omega)
theorem wLo_all {P : Pr → Prop} (h0 : P (0, 0)) (h : ∀ k, P (lo.getD k (0, 0))) (k : Nat) : P ((wLo n lo T).getD k (0, 0)) := by
 rw [wLo_get];split
 ·split
  ·exact h0
  ·exact h k
 ·exact h0
theorem wHi_all {P : Pr → Prop} (h0 : P (0, 0)) (h : ∀ k, P (hi.getD k (0, 0))) (k : Nat) : P ((wHi n hi T).getD k (0, 0)) := by
 rw [wHi_get];split
 ·split
  ·exact h0
  ·exact h k
 ·exact h0
theorem WtIn.under (h : WtIn n lo hi) (T : List Int) : WtIn n (wLo n lo T) (wHi n hi T) where
 ll := wLo_len
 lh := wHi_len
 pl := wLo_all Lp.zero h.pl
 ph := wHi_all Lp.zero h.ph
 l0 := by
  rw [wLo_get, if_pos (by omega)];split
  ·exact S0.zero
  ·exact h.l0
 h0 := by
  rw [wHi_get, if_pos (by omega)];split
  ·exact S0.zero
  ·exact h.h0
 sl := wLo_all Sp.zero h.sl
 sh := wHi_all Sp.zero h.sh
theorem sumB_under (T : List Int) (m : Nat) : sumB (wLo n lo T) m + sumB (wHi n hi T) m ≤ sumB lo m + sumB hi m := by
 refine Nat.add_le_add (sumB_le (fun k => ?_) m) (sumB_le (fun k => ?_) m)
 ·rw [wLo_get];split
  ·split
   ·exact pbits_min _
   ·exact zqn _
  ·exact pbits_min _
 ·rw [wHi_get];split
  ·split
   ·exact pbits_min _
   ·exact zqn _
  ·exact pbits_min _
theorem WtIn.okT (h : WtIn n lo hi) (hb : ¬ 16384 < sumB lo n + sumB hi n) (T : List Int) : WtOk n (wLo n lo T) (wHi n hi T) :=
 (h.under T).ok (by have := sumB_under (n := n) (lo := lo) (hi := hi) T n; omega)
theorem RL_agr {a b c d : List Nat} {v : Nat} (h1 : ∀ u, u ≠ v → a.getD u 0 = c.getD u 0) (h2 : ∀ u, u ≠ v → b.getD u 0 = d.getD u 0) : Agr (RL n a b) (RL n c d) v := by
 have hl : ∀ l : Int, l.natAbs ≠ v → nlit n a b l = nlit n c d l := fun l hl => by
  unfold nlit; rw [h1 _ hl, h2 _ hl]
 refine ⟨rfl, rfl, rfl, rfl, hl, fun u hu => ?_⟩;show nlit n a b (-u) + nlit n a b u = nlit n c d (-u) + nlit n c d u;rw [hl u hu, hl (-u) (by rw [Int.natAbs_neg]; exact hu)]
theorem RP_agr {a b c d : List Pr} {v : Nat} (h1 : ∀ u, u ≠ v → a.getD u (0, 0) = c.getD u (0, 0)) (h2 : ∀ u, u ≠ v → b.getD u (0, 0) = d.getD u (0, 0)) : Agr (RP n a b) (RP n c d) v := by
 have hl : ∀ l : Int, l.natAbs ≠ v → plit n a b l = plit n c d l := fun l hl => by
  unfold plit; rw [h1 _ hl, h2 _ hl]
 refine ⟨rfl, rfl, rfl, rfl, hl, fun u hu => ?_⟩;show padd (plit n a b (-u)) (plit n a b u) = padd (plit n c d (-u)) (plit n c d u);rw [hl u hu, hl (-u) (by rw [Int.natAbs_neg]; exact hu)]
theorem ite_other {α : Type} {T : List Int} {l x : Int} (h : x.natAbs ≠ l.natAbs) (a b : α) : (if x ∈ T ++ [l] then a else b) = if x ∈ T then a else b := ite_snoc (fun e => h (by rw [e])) a b
theorem agrC (n : Nat) (T : List Int) (l : Int) : Agr (RL n (cLo n T) (cHi n T)) (RL n (cLo n (T ++ [l])) (cHi n (T ++ [l]))) l.natAbs :=
 RL_agr (fun u hu => by rw [cLo_get, cLo_get, ite_other (by omega)]) (fun u hu => by rw [cHi_get, cHi_get, ite_other (by omega)])
theorem agrW (n : Nat) (lo hi : List Pr) (T : List Int) (l : Int) : Agr (RP n (wLo n lo T) (wHi n hi T)) (RP n (wLo n lo (T ++ [l])) (wHi n hi (T ++ [l]))) l.natAbs :=
 RP_agr (fun u hu => by rw [wLo_get, wLo_get, ite_other (by omega)]) (fun u hu => by rw [wHi_get, wHi_get, ite_other (by omega)])
theorem Agr.symm {α : Type} {R S : Rg α} {v : Nat} (h : Agr R S v) : Agr S R v := ⟨h.zero.symm, h.one.symm, h.add.symm, h.mul.symm, fun l hl => (h.lit l hl).symm, fun u hu => (h.both u hu).symm⟩
end
end Cs
