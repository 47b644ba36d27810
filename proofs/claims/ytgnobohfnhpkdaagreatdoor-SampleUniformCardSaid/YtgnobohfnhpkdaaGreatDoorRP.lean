/- Plain facts on polynomials without zeros at their ends. The walks of the reference's polynomials: trim, at, Add. The walk of the reference's product of polynomials. -/
import Derived.Test.YtgnobohfnhpkdaaGreatDoorQ1
import Derived.Test.YtgnobohfnhpkdaaGreatDoorRA
set_option linter.unusedSimpArgs false
set_option linter.unusedVariables false
section
/-! Plain facts on polynomials without zeros at their ends. -/
section
namespace Cs
/-- How long a list is without the zeros at its end. -/
def tn : List Nat → Nat
  | [] => 0
  | x :: xs => if tn xs = 0 ∧ x = 0 then 0 else tn xs + 1
theorem tn_le : ∀ p : List Nat, tn p ≤ p.length
  | [] => Nat.le_refl _
  | x :: xs => by
    have := tn_le xs
    unfold tn; split
    · omega
    · simp only [List.length_cons]; omega
theorem tn_zero : ∀ (p : List Nat) (j : Nat), tn p ≤ j → p.getD j 0 = 0
  | [], j, _ => by simp
  | x :: xs, j, h => by
    unfold tn at h
    split at h
    · rename_i h0
      cases j with
      | zero => simpa using h0.2
      | succ j => simpa using tn_zero xs j (by omega)
    · cases j with
      | zero => omega
      | succ j => simpa using tn_zero xs j (by omega)
theorem tn_last : ∀ p : List Nat, 0 < tn p → p.getD (tn p - 1) 0 ≠ 0
  | [], h => by simp [tn] at h
  | x :: xs, h => by
    unfold tn at h ⊢
    split at h
    · omega
    · rename_i h0
      rw [if_neg h0]
      rcases Nat.eq_zero_or_pos (tn xs) with h1 | h1
      · rw [h1]; simpa using fun h2 => h0 ⟨h1, h2⟩
      · have := tn_last xs h1
        obtain ⟨m, hm⟩ : ∃ m, tn xs = m + 1 := ⟨tn xs - 1, by omega⟩
        rw [hm] at this ⊢
        simpa using this
theorem tn_eq (p : List Nat) (m : Nat) (h1 : ∀ j, m ≤ j → p.getD j 0 = 0) (h2 : m = 0 ∨ p.getD (m - 1) 0 ≠ 0) : m = tn p := by
  rcases Nat.lt_trichotomy m (tn p) with h | h | h
  · exact absurd (h1 (tn p - 1) (by omega)) (tn_last p (by omega))
  · exact h
  · rcases h2 with h2 | h2
    · omega
    · exact absurd (tn_zero p (m - 1) (by omega)) h2
/-- A list without the zeros at its end. -/
def trimP (p : List Nat) : List Nat := p.take (tn p)
theorem trimP_len (p : List Nat) : (trimP p).length = tn p := by unfold trimP; rw [List.length_take]; have := tn_le p; omega
theorem trimP_get (p : List Nat) (i : Nat) : (trimP p).getD i 0 = p.getD i 0 := by
  unfold trimP
  rcases Nat.lt_or_ge i (tn p) with h | h
  · rw [List.getD_eq_getElem?_getD, List.getElem?_take_of_lt h, ← List.getD_eq_getElem?_getD]
  · rw [tn_zero p i h, List.getD_eq_getElem?_getD, List.getElem?_eq_none (by rw [List.length_take]; omega)]; rfl
/-- The product of two lists, with a place more than needed. -/
def mulF (a b : List Nat) : List Nat := (List.range (a.length + b.length)).map fun t => cvO a b a.length t
theorem mulF_len (a b : List Nat) : (mulF a b).length = a.length + b.length := by unfold mulF; simp
theorem mulF_get (a b : List Nat) (t : Nat) : (mulF a b).getD t 0 = cvO a b a.length t := by
  unfold mulF
  rw [getD_map_range]
  split
  · rfl
  · exact (cvO_ge a b t a.length (by omega)).symm
theorem ev_ext : ∀ (n : Nat) (a b : List Nat), (∀ i, a.getD i 0 = b.getD i 0) → a.length ≤ n → b.length ≤ n → ev a = ev b := by
  intro n a b h ha hb
  rw [ev_sm, ev_sm, ← sm_more _ a.length n ha (fun i hi _ => getD_ge a i hi), ← sm_more _ b.length n hb (fun i hi _ => getD_ge b i hi)]
  exact sm_congr _ _ n fun i _ => h i
theorem ev_same (a b : List Nat) (h : ∀ i, a.getD i 0 = b.getD i 0) : ev a = ev b := ev_ext (max a.length b.length) a b h (by omega) (by omega)
/-- The convolution's parts hang on the coefficients alone. -/
theorem cvI_same (a b c d : List Nat) (h1 : ∀ i, a.getD i 0 = c.getD i 0) (h2 : ∀ i, b.getD i 0 = d.getD i 0) (i : Nat) (f g : Nat → Nat) (hf : ∀ t, f t = g t) : ∀ k t, cvI a b i f k t = cvI c d i g k t
  | 0, t => hf t
  | k + 1, t => by
    unfold cvI
    rw [cvI_same a b c d h1 h2 i f g hf k, h1, h2]
end Cs
end
/-! The walks of the reference's polynomials: trim, at, Add. -/
section
open Go Go.RowKit Cs
namespace Go.Proofs.YtgnobohfnhpkdaaGreatDoor
/-- The cells of a polynomial: decimal texts. -/
def decF (p : List Nat) (i : Nat) : Value := .string (dec (p.getD i 0))
theorem dec_is0 (x : Nat) : ((dec x).toList = [48]) ↔ x = 0 := by
  constructor
  · intro h
    apply dec_inj
    rw [dec_zero]
    apply ByteArray.ext
    apply Array.ext'
    have e : (dec x).toList = (dec x).data.toList := ByteArray.toList_eq _
    rw [← e, h]
  · intro h; subst h; rw [dec_zero, ByteArray.toList_eq]
set_option maxRecDepth 100000 in
set_option maxHeartbeats 400000 in
theorem rtrim_any (w : World) (A : Option Addr) (c : Nat) (p : List Nat) (hl : p.length ≤ 1000000000) (hc : p.length ≤ c) (hA : Rd w w.heap.size A p.length (decF p)) :
    Calls Tryz.prog 137 #[.slice A p.length c] w fun e w' => e = .returned (.slice A (trimP p).length c) ∧ w = w' := by
  rw [trimP_len]
  go_enter Tryz.func137, Tryz.ntmps137
  go_wp2
  go_loop [0] (fun t => ∃ m : Nat, m ≤ p.length ∧ t = .slice A m c ∧ Hid (∀ j, m ≤ j → p.getD j 0 = 0)) (fun t => lenOf t)
  case atStart => exact ⟨p.length, Nat.le_refl _, rfl, fun j hj => getD_ge p j hj⟩
  case round =>
    obtain ⟨m, hm, rfl, HZ⟩ := hrel
    have hfin := tn_eq p m HZ.out
    have HF := Lib.hid hfin; clear hfin
    rcases Nat.eq_zero_or_pos m with h0 | h0
    · subst h0
      have hf := HF.out (.inl rfl)
      go_wp2
      go_ret
      exact ⟨by rw [← hf]; rfl, rfl⟩
    · obtain ⟨b, o, rfl, hb, hcs⟩ := hA (by omega)
      have hcell := hcs (m - 1) (by omega)
      unfold decF at hcell
      obtain ⟨x, hx⟩ : ∃ x, p.getD (m - 1) 0 = x := ⟨_, rfl⟩
      rw [hx] at hcell HF
      have h0' := dec_is0 x
      have i0 : (0 : Int) ≤ (m : Int) - 1 := by omega
      have i1 : (m : Int) - 1 < (m : Int) := by omega
      by_cases hx0 : x = 0
      · have hd : (dec x).toList = [48] := h0'.2 hx0
        have HX := Lib.hid (hx.trans hx0)
        clear hcs h0' hx hx0
        generalize dec x = s at *
        go_wp2
        go_round
        case rel =>
          refine ⟨m - 1, by omega, by first | rfl | simp, fun j hj => ?_⟩
          rcases Nat.eq_or_lt_of_le hj with e | e
          · rw [← e]; exact HX.out
          · exact HZ.out j (by omega)
        case measure => simp [lenOf]; omega
      · have hd : ¬ (dec x).toList = [48] := fun h => hx0 (h0'.1 h)
        have hd2 : ((dec x).toList == [48]) = false := beq_eq_false_iff_ne.2 hd
        have hf := HF.out (.inr hx0)
        have HFF := Lib.hid hf
        clear hcs h0' hx hx0 hf
        generalize dec x = s at *
        go_wp2
        go_ret
        exact ⟨by rw [← HFF.out]; rfl, rfl⟩
theorem rat_any (w : World) (A : Option Addr) (c : Nat) (p : List Nat) (i : Nat) (hl : p.length ≤ 1000000000) (hA : Rd w w.heap.size A p.length (decF p)) :
    Calls Tryz.prog 57 #[.slice A p.length c, .int .i64 i] w fun e w' => e = .returned (.string (dec (p.getD i 0))) ∧ w = w' := by
  by_cases h : i < p.length
  · obtain ⟨b, o, rfl, hb, hcs⟩ := hA (by omega)
    have hcell := hcs i h
    unfold decF at hcell
    generalize dec (p.getD i 0) = s at *
    clear hcs
    go_enter Tryz.func57, Tryz.ntmps57
    go_wp2
    go_ret
    exact ⟨rfl, rfl⟩
  · rw [getD_ge p i (by omega)]
    have hz := dec_zero
    have HZ := Lib.hid hz; clear hz hA
    go_enter Tryz.func57, Tryz.ntmps57
    go_wp2
    go_ret
    exact ⟨by rw [HZ.out]; rfl, rfl⟩
theorem info_str : (Tryz.prog.info? 9).map (fun i => (i.zero, i.size, i.bytes)) = some (some (.string ⟨#[]⟩), 1, 16) := by kernel_rfl
def decs (p : List Nat) (n : Nat) : List Value := (List.range n).map (decF p)
theorem decs_succ (p : List Nat) (n : Nat) : decs p (n + 1) = decs p n ++ [.string (dec (p.getD n 0))] := by simp [decs, decF, List.range_succ]
theorem decs_get (p : List Nat) (n j : Nat) (h : j < n) : (decs p n)[j]? = some (decF p j) := by simp [decs, h]
/-- A polynomial's cells, in a row of strings. -/
def RdS (w : World) (B : Nat) (A : Option Addr) (p : List Nat) : Prop := Rd w B A p.length (decF p) ∧ (0 < p.length → ∀ b o, A = some ⟨b, o, none⟩ → ∃ cs fr, w.heap[b]? = some (.cells cs 9 fr))
theorem RdS.rd {w : World} {B : Nat} {A : Option Addr} {p : List Nat} (h : RdS w B A p) : Rd w B A p.length (decF p) := h.1
theorem RdS.below {w w' : World} {B : Nat} {A : Option Addr} {p : List Nat} (h : RdS w B A p) (hb : Below B w w') : RdS w' B A p :=
  ⟨h.1.below hb, fun hn b o e => by
    obtain ⟨b', o', e', hB, _⟩ := h.1 hn
    obtain ⟨cs, fr, hc⟩ := h.2 hn b o e
    rw [e] at e'
    have : b = b' := by injection e' with e'; injection e'
    exact ⟨cs, fr, by rw [hb.block b (by omega)]; exact hc⟩⟩
theorem RdS.more {w : World} {B B' : Nat} {A : Option Addr} {p : List Nat} (h : RdS w B A p) (hB : B ≤ B') : RdS w B' A p := ⟨h.1.more hB, h.2⟩
theorem RdS.drew {w : World} {B : Nat} {A : Option Addr} {p : List Nat} (h : RdS w B A p) : RdS w.drew B A p := h
/-- Behind a call: a polynomial without zeros at its end, in memory of the call's own. -/
def RPoly (w : World) (p : List Nat) (e : Ending) (w' : World) : Prop := ∃ A c, e = .returned (.slice A p.length c) ∧ p.length ≤ c ∧ RdS w' w'.heap.size A p ∧ Below w.heap.size w w'
theorem Rd.trimP {w : World} {B : Nat} {A : Option Addr} {p : List Nat} (h : Rd w B A p.length (decF p)) : Rd w B A (trimP p).length (decF (trimP p)) := by
  have hl := trimP_len p
  have := tn_le p
  refine (h.take (m := (Cs.trimP p).length) (by omega)).congr fun i _ => ?_
  unfold decF; rw [trimP_get]
theorem RdS.trimP {w : World} {B : Nat} {A : Option Addr} {p : List Nat} (h : RdS w B A p) : RdS w B A (Cs.trimP p) :=
  ⟨Rd.trimP h.1, fun hn b o e => h.2 (by rw [trimP_len] at hn; have := tn_le p; omega) b o e⟩
set_option maxRecDepth 100000 in
set_option maxHeartbeats 1000000 in
theorem rpadd_any (w : World) (A B : Option Addr) (ca cb : Nat) (a b : List Nat) (hla : a.length ≤ 100000) (hlb : b.length ≤ 100000) (hA : Rd w w.heap.size A a.length (decF a)) (hB : Rd w w.heap.size B b.length (decF b))
    (hda : ∀ i, decN (a.getD i 0) ≤ 10000000) (hdb : ∀ i, decN (b.getD i 0) ≤ 10000000) :
    Calls Tryz.prog 108 #[.slice A a.length ca, .slice B b.length cb] w (RPoly w (trimP (addP a b))) := by
  obtain ⟨ti, hi, hz0, hz1, hz2⟩ := info_parts info_str
  have hlen := addP_len a b
  have hget := addP_get a b
  obtain ⟨p, hp⟩ : ∃ p, addP a b = p := ⟨_, rfl⟩
  rw [hp] at hlen ⊢
  simp only [hp] at hget
  have hadd := fun W i => radd_any W (a.getD i 0) (b.getD i 0) (hda i) (hdb i)
  simp only [← hget] at hadd
  have HADD := Lib.hid hadd
  have HA := Lib.hid hA
  have HB := Lib.hid hB
  have hpl : p.length ≤ 100000 := by omega
  have HL := Lib.hid hlen
  clear hda hdb hadd hget hp hA hB hlen
  go_enter Tryz.func108, Tryz.ntmps108
  go_wp2
  go_loopw [5, 6] (fun l t wr => ∃ k : Nat, k ≤ p.length ∧ t = .int .i64 k ∧ wr.ownsRow w.heap.size 9 1 l k (decs p k) ∧ Below w.heap.size w wr) (fun _ t _ => p.length - (intOf t).toNat)
  case atStart => exact ⟨0, by omega, rfl, World.ownsRow_nil _ _ _ _, Below.refl _ _⟩
  case round =>
    obtain ⟨k, hk, rfl, hown, hbel⟩ := hrel
    have hszw := hbel.size
    have HRA := Lib.hid ((HA.out.below hbel).more hszw)
    have HRB := Lib.hid ((HB.out.below hbel).more hszw)
    by_cases hlt : k < p.length
    · have hlt0 : ∀ k, u5.ownBlock = some k → w.heap.size ≤ k := fun k hk => (hown.lt k hk).1
      have hor : k < a.length ∨ (a.length ≤ k ∧ k < b.length) := by have := HL.out; omega
      clear hlt
      have hra := fun W h => rat_any W A ca a k (by omega) h
      have hrb := fun W h => rat_any W B cb b k (by omega) h
      have hadd := HADD.out
      replace hadd := fun W => hadd W k
      have hsu := decs_succ p k
      obtain ⟨x, hx⟩ : ∃ x, a.getD k 0 = x := ⟨_, rfl⟩
      obtain ⟨y, hy⟩ : ∃ y, b.getD k 0 = y := ⟨_, rfl⟩
      obtain ⟨z, hz⟩ : ∃ z, p.getD k 0 = z := ⟨_, rfl⟩
      simp only [hx, hy, hz] at hra hrb hadd hsu
      have HRAT := Lib.hid hra
      have HRBT := Lib.hid hrb
      have HAD := Lib.hid hadd
      have HSU := Lib.hid hsu
      clear hra hrb hadd hsu hx hy hz
      rcases hor with h1 | ⟨h1, h2⟩
      all_goals
        go_wp2_with (first
          | (go_at_call_of 57 (Value.slice A a.length ca); (with_reducible refine (HRAT.out _ HRA.out).mono ?_); rintro e w' ⟨rfl, rfl⟩)
          | (go_at_call_of 57 (Value.slice B b.length cb); (with_reducible refine (HRBT.out _ HRB.out).mono ?_); rintro e w' ⟨rfl, rfl⟩)
          | (go_at_call 68; (with_reducible refine (HAD.out _).mono ?_); rintro e w7 ⟨rfl, hb7⟩
             have hown7 := ownsBelow hown hb7
             have hbel7 := Cs.Below.trans' hbel hb7 hszw
             have hsz7 := hbel7.size)
          | (at_builtin; refine wpList_append_own _ rfl _ _ 103 rfl w.heap.size 9 ti (.string ⟨#[]⟩) 1 16 Tryz.underlying103 hi hz0 hz1 hz2 rfl (by decide) _ _ _ rfl (hown7.alloc _) ⟨w7.heap.size, 0, none⟩ 1 1 [.string (dec z)] rfl rfl newOne oneStr (by unfold maxLen; omega) (by omega) (by simp; omega) ?_; intro v' w3 hown3 hgr3 _))
        have hbel3 := (hbel7.alloc hbel7.size _).grown hgr3 (by simp; omega) (fun k e => hlt0 k e)
        rw [← HSU.out] at hown3
        go_roundw
        case rel => exact ⟨k + 1, by have := HL.out; omega, by go_num, hown3, hbel3⟩
        case measure => have := HL.out; simp [intOf]; omega
    · obtain rfl : k = p.length := by omega
      have h1 : a.length ≤ p.length := by have := HL.out; omega
      have h2 : b.length ≤ p.length := by have := HL.out; omega
      have hform : ∃ A' c', u5 = .slice A' p.length c' ∧ p.length ≤ c' ∧ RdS wr wr.heap.size A' p := by
        obtain ⟨q1, q2⟩ := hown
        rcases q2 with ⟨rfl, h0⟩ | ⟨g, cap, cur, rfl, hg, hb, hn, hm, hs, ht⟩
        · exact ⟨none, 0, by rw [h0], by omega, fun h => absurd h (by omega), fun h => absurd h (by omega)⟩
        · exact ⟨_, cap, rfl, hn, Rd.of_own (base := w.heap.size) (e := 9) ⟨q1, .inr ⟨g, cap, cur, rfl, hg, hb, hn, hm, hs, ht⟩⟩ fun i hi => decs_get p _ i hi, fun _ b o e => by
            have : g = b := by injection e with e; injection e
            subst this; exact ⟨_, _, hb⟩⟩
      obtain ⟨A', c', rfl, hc', hrd⟩ := hform
      have HRD := Lib.hid hrd
      clear hown hlt hrd
      go_wp2_with (go_at_call 137; (with_reducible refine (rtrim_any _ A' c' p (by omega) hc' HRD.out.rd).mono ?_); rintro e w' ⟨rfl, rfl⟩)
      go_ret
      exact ⟨A', c', rfl, by rw [trimP_len]; have := tn_le p; omega, RdS.trimP HRD.out, hbel⟩
end Go.Proofs.YtgnobohfnhpkdaaGreatDoor
end
end
section
open Go Go.RowKit Cs
namespace Go.Proofs.YtgnobohfnhpkdaaGreatDoor
theorem rmk_str (n : Nat) (h : n ≤ 1000000000) (u : World) : (Instr.makeSlice 103 (.int .i64 (n : Int)) (.int .i64 (n : Int))).run Tryz.prog u =
    .ok (.slice (some ⟨u.heap.size, 0, none⟩) n n) (u.alloc (.cells (madeCells #[.string ⟨#[]⟩] n) 9)) := by
  obtain ⟨i0, hi, hz0, hz1, hz2⟩ := info_parts info_str
  exact run_make_row 103 9 i0 (.string ⟨#[]⟩) Tryz.underlying103 hi hz0 hz1 rfl .i64 .i64 n (by rw [hz2]; omega) (by omega) u
def cvF (f : Nat → Nat) (j : Nat) : Value := .string (dec (f j))
set_option maxRecDepth 100000 in
set_option maxHeartbeats 2000000 in
theorem rpmul_any (w : World) (A B : Option Addr) (ca cb : Nat) (a b : List Nat) (hla : a.length ≤ 100000) (hlb : b.length ≤ 100000) (hA : Rd w w.heap.size A a.length (decF a)) (hB : Rd w w.heap.size B b.length (decF b))
    (hda : ∀ i, decN (a.getD i 0) ≤ 10000000) (hdb : ∀ i, decN (b.getD i 0) ≤ 10000000) (hdab : ∀ i k, decN (a.getD i 0 * b.getD k 0) ≤ 10000000) (hcv : ∀ i k t, i < a.length → k ≤ b.length → decN (cvI a b i (cvO a b i) k t) ≤ 10000000) :
    Calls Tryz.prog 107 #[.slice A a.length ca, .slice B b.length cb] w (RPoly w (trimP (mulF a b))) := by
  have hlen := mulF_len a b
  have hget := mulF_get a b
  obtain ⟨p, hp⟩ : ∃ p, mulF a b = p := ⟨_, rfl⟩
  rw [hp] at hlen ⊢
  simp only [hp] at hget
  have HGET := Lib.hid hget
  have HA := Lib.hid hA
  have HB := Lib.hid hB
  have HDA := Lib.hid hda
  have HDB := Lib.hid hdb
  have HDAB := Lib.hid hdab
  have HCVB := Lib.hid hcv
  have HL := Lib.hid hlen
  have hmk := rmk_str (a.length + b.length) (by omega)
  rw [Int.natCast_add] at hmk
  have hz0 : (Value.string ⟨#[48]⟩) = .string (dec 0) := by rw [dec_zero]
  have HZ := Lib.hid hz0
  clear hda hdb hdab hget hp hA hB hlen hcv hz0
  go_enter Tryz.func107, Tryz.ntmps107
  go_wp2
  go_loopw [6] (fun t wr => ∃ k : Nat, k ≤ a.length + b.length ∧ t = .int .i64 k ∧ wr.rowIs w.heap.size 9 (a.length + b.length) (fun j => if j < k then .string (dec 0) else .string ⟨#[]⟩) ∧ Below w.heap.size w wr) (fun t _ => a.length + b.length - (intOf t).toNat)
  case atStart => exact ⟨0, by omega, rfl, rowMade _ _ _ _ _ rfl (fun i _ => by simp), (Below.refl _ _).alloc (Nat.le_refl _) _⟩
  case round =>
    obtain ⟨k, hk, rfl, hrow, hbel⟩ := hrel
    by_cases hlt : k < a.length + b.length
    · have hf := hrow.frozen k
      have hc := hrow.cell (i := k) hlt
      have i1 : (k : Int) < (a.length : Int) + (b.length : Int) := by omega
      go_wp2
      go_roundw
      case rel =>
        refine ⟨k + 1, by omega, by go_num, (hrow.set k _).congr fun j _ => ?_, hbel.setCell (by simp) _⟩
        split
        · subst j; rw [if_pos (by omega), HZ.out]
        · by_cases h : j < k
          · rw [if_pos h, if_pos (by omega)]
          · rw [if_neg h, if_neg (by omega)]
      case measure => simp [intOf]; omega
    · obtain rfl : k = a.length + b.length := by omega
      have hrow0 : wr.rowIs w.heap.size 9 (a.length + b.length) (cvF (cvO a b 0)) := hrow.congr fun j hj => by rw [if_pos hj]; rfl
      have hnlt : ¬ ((a.length + b.length : Nat) : Int) < (a.length : Int) + (b.length : Int) := by omega
      clear hrow hlt
      obtain ⟨W1, rfl⟩ : ∃ W1, W1 = wr := ⟨wr, rfl⟩
      go_wp2
      go_loopw [7] (fun t wr => ∃ i : Nat, i ≤ a.length ∧ t = .int .i64 i ∧ wr.rowIs w.heap.size 9 (a.length + b.length) (cvF (cvO a b i)) ∧ Below w.heap.size w wr) (fun t _ => a.length - (intOf t).toNat)
      case atStart => exact ⟨0, by omega, rfl, hrow0, hbel⟩
      case round =>
        clear hrow0 hbel hnlt
        obtain ⟨i, hi, rfl, hrow, hbel⟩ := hrel
        by_cases hilt : i < a.length
        · obtain ⟨b1, o1, rfl, hb1, hcs⟩ := HA.out (by omega)
          have hca0 := hcs i hilt
          unfold decF at hca0
          obtain ⟨x, hx⟩ : ∃ x, a.getD i 0 = x := ⟨_, rfl⟩
          rw [hx] at hca0
          have HX := Lib.hid hx
          clear hcs hx
          obtain ⟨W0, rfl⟩ : ∃ W0, W0 = wr := ⟨wr, rfl⟩
          have hrow1 : W0.rowIs w.heap.size 9 (a.length + b.length) (cvF (cvI a b i (cvO a b i) 0)) := hrow
          clear hrow
          go_wp2
          go_loopw [8] (fun t wr => ∃ k : Nat, k ≤ b.length ∧ t = .int .i64 k ∧ wr.rowIs w.heap.size 9 (a.length + b.length) (cvF (cvI a b i (cvO a b i) k)) ∧ Below w.heap.size w wr) (fun t _ => b.length - (intOf t).toNat)
          case atStart => exact ⟨0, by omega, rfl, hrow1, hbel⟩
          case round =>
            clear hrow1 hbel
            obtain ⟨k, hk, rfl, hrow, hbel⟩ := hrel
            by_cases hklt : k < b.length
            · obtain ⟨b2, o2, rfl, hb2, hcs⟩ := HB.out (by omega)
              have hcb0 := hcs k hklt
              unfold decF at hcb0
              obtain ⟨y, hy⟩ : ∃ y, b.getD k 0 = y := ⟨_, rfl⟩
              rw [hy] at hcb0
              have hik : i + k < a.length + b.length := by omega
              have hcv : ∀ t, cvI a b i (cvO a b i) (k + 1) t = cvI a b i (cvO a b i) k t + if t = i + k then x * y else 0 := fun t => by rw [← hy, ← HX.out]; rfl
              have HCV := Lib.hid hcv
              have hmul := fun W => rmul_any W x y (by rw [← HX.out]; exact HDA.out i) (by rw [← hy]; exact HDB.out k)
              have hsb := HCVB.out i k (i + k) hilt (by omega)
              have hxy := HDAB.out i k
              rw [HX.out, hy] at hxy
              obtain ⟨s, hs⟩ : ∃ s, cvI a b i (cvO a b i) k (i + k) = s := ⟨_, rfl⟩
              rw [hs] at hsb
              have HS := Lib.hid hs
              have hadd := fun W => radd_any W s (x * y) hsb hxy
              have HMUL := Lib.hid hmul
              have HADD := Lib.hid hadd
              clear hcs hy hcv hmul hadd hs hsb hxy
              have hbl' := belowDrewN hbel 1
              change Below _ _ (World.drew _) at hbl'
              have hzz' := hbl'.size
              have hrow' := hrow.drew
              have hca : wr.drew.cell? ⟨b1, o1 + i, none⟩ = some (.string (dec x)) := below_cell hbl' hb1 hca0
              have hcb : wr.drew.cell? ⟨b2, o2 + k, none⟩ = some (.string (dec y)) := below_cell hbl' hb2 hcb0
              have hs1' : wr.drew.cell? ⟨w.heap.size, i + k, none⟩ = some (.string (dec s)) := (hrow'.cell (i := i + k) hik).trans (by unfold cvF; rw [HS.out])
              have hs2' := hrow'.frozen (i + k)
              have hi1 : (0 : Int) ≤ (i : Int) + (k : Int) := by omega
              have hi2 : (i : Int) + (k : Int) < (a.length : Int) + (b.length : Int) := by omega
              have hwr : IntKind.i64.wrap ((i : Int) + (k : Int)) = (i : Int) + (k : Int) := by rw [IntKind.wrap_i64]; omega
              have htn : ((i : Int) + (k : Int)).toNat = i + k := by omega
              clear hcb0
              go_wp2_with fail
              refine wp_region_heldE (fun w' => w'.cell? ⟨w.heap.size, i + k, none⟩ = some (.string (dec s)) ∧ w'.cell? ⟨b1, o1 + i, none⟩ = some (.string (dec x)) ∧ w'.cell? ⟨b2, o2 + k, none⟩ = some (.string (dec y))) 21 (by kernel_rfl) ⟨hs1', hca, hcb⟩ (fun hS => ?_)
              refine wpAnyE_take (i := 0) (v := ?_) hS (by kernel_rfl) rfl (by kernel_rfl) (by kernel_rfl) (fun _ _ _ h => h) (Or.inl ⟨by rfl, ?_⟩) ?_
              rotate_left
              · (intro w hSw; go_simp; try with_reducible rfl)
              try simp only [Act.put, List.setIfInBounds_toArray, List.set_cons_zero, List.set_cons_succ]
              refine wpAnyE_take (i := 1) (v := ?_) hS (by kernel_rfl) rfl (by kernel_rfl) (by kernel_rfl) (fun _ _ _ h => h) (Or.inl ⟨by rfl, ?_⟩) ?_
              rotate_left
              · (intro w hSw; go_simp; try with_reducible rfl)
              try simp only [Act.put, List.setIfInBounds_toArray, List.set_cons_zero, List.set_cons_succ]
              refine wpAnyE_take (i := 2) (v := ?_) hS (by kernel_rfl) rfl (by kernel_rfl) (by kernel_rfl) (fun _ _ _ h => h) (Or.inl ⟨by rfl, ?_⟩) ?_
              rotate_left
              · (intro w hSw; go_simp; try with_reducible rfl)
              try simp only [Act.put, List.setIfInBounds_toArray, List.set_cons_zero, List.set_cons_succ]
              refine wpAnyE_take (i := 3) (v := ?_) hS (by kernel_rfl) rfl (by kernel_rfl) (by kernel_rfl) (fun _ _ _ h => h) (Or.inl ⟨by rfl, ?_⟩) ?_
              rotate_left
              · (intro w hSw; go_simp; try with_reducible rfl)
              try simp only [Act.put, List.setIfInBounds_toArray, List.set_cons_zero, List.set_cons_succ]
              refine wpAnyE_take (i := 4) (v := ?_) hS (by kernel_rfl) rfl (by kernel_rfl) (by kernel_rfl) (fun _ _ _ h => h) (Or.inl ⟨by rfl, ?_⟩) ?_
              rotate_left
              · (intro w hSw; go_simp; try with_reducible rfl)
              try simp only [Act.put, List.setIfInBounds_toArray, List.set_cons_zero, List.set_cons_succ]
              refine wpAnyE_take (i := 5) (v := ?_) hS (by kernel_rfl) rfl (by kernel_rfl) (by kernel_rfl) (fun _ _ _ h => h) (Or.inl ⟨by rfl, ?_⟩) ?_
              rotate_left
              · (intro w hSw; go_simp; try with_reducible rfl)
              try simp only [Act.put, List.setIfInBounds_toArray, List.set_cons_zero, List.set_cons_succ]
              refine wpAnyE_take (i := 6) (v := ?_) hS (by kernel_rfl) rfl (by kernel_rfl) (by kernel_rfl) (fun _ _ _ h => h) (Or.inl ⟨by rfl, ?_⟩) ?_
              rotate_left
              · (intro w hSw; go_simp; try with_reducible rfl)
              try simp only [Act.put, List.setIfInBounds_toArray, List.set_cons_zero, List.set_cons_succ]
              refine wpAnyE_take (i := 7) (v := ?_) hS (by kernel_rfl) rfl (by kernel_rfl) (by kernel_rfl) (fun _ _ _ h => h) (Or.inl ⟨by rfl, ?_⟩) ?_
              rotate_left
              · (intro w hSw; go_simp; try with_reducible rfl)
              try simp only [Act.put, List.setIfInBounds_toArray, List.set_cons_zero, List.set_cons_succ]
              refine wpAnyE_take (i := 8) (v := ?_) hS (by kernel_rfl) rfl (by kernel_rfl) (by kernel_rfl) (fun _ _ _ h => h) (Or.inl ⟨by rfl, ?_⟩) ?_
              rotate_left
              · (intro w hSw; go_simp; try with_reducible rfl)
              try simp only [Act.put, List.setIfInBounds_toArray, List.set_cons_zero, List.set_cons_succ]
              refine wpAnyE_take (i := 9) (v := ?_) hS (by kernel_rfl) rfl (by kernel_rfl) (by kernel_rfl) (fun _ _ _ h => h) (Or.inl ⟨by rfl, ?_⟩) ?_
              rotate_left
              · (intro w hSw; go_simp; try with_reducible rfl)
              try simp only [Act.put, List.setIfInBounds_toArray, List.set_cons_zero, List.set_cons_succ]
              refine wpAnyE_take (i := 10) (v := ?_) hS (by kernel_rfl) rfl (by kernel_rfl) (by kernel_rfl) (fun _ _ _ h => h) (Or.inl ⟨by rfl, ?_⟩) ?_
              rotate_left
              · (intro w hSw; go_simp; try with_reducible rfl)
              try simp only [Act.put, List.setIfInBounds_toArray, List.set_cons_zero, List.set_cons_succ]
              refine wpAnyE_take (i := 11) (v := ?_) hS (by kernel_rfl) rfl (by kernel_rfl) (by kernel_rfl) (fun _ _ _ h => h) (Or.inl ⟨by rfl, ?_⟩) ?_
              rotate_left
              · (intro w hSw; go_simp; try with_reducible rfl)
              try simp only [Act.put, List.setIfInBounds_toArray, List.set_cons_zero, List.set_cons_succ]
              refine wpAnyE_take (i := 12) (v := ?_) hS (by kernel_rfl) rfl (by kernel_rfl) (by kernel_rfl) (fun _ _ _ h => h) (Or.inl ⟨by rfl, ?_⟩) ?_
              rotate_left
              · (intro w hSw; go_simp; try with_reducible rfl)
              try simp only [Act.put, List.setIfInBounds_toArray, List.set_cons_zero, List.set_cons_succ]
              refine wpAnyE_take (i := 13) (v := ?_) hS (by kernel_rfl) rfl (by kernel_rfl) (by kernel_rfl) (fun _ _ _ h => h) (Or.inl ⟨by rfl, ?_⟩) ?_
              rotate_left
              · (intro w hSw; go_simp; try with_reducible rfl)
              try simp only [Act.put, List.setIfInBounds_toArray, List.set_cons_zero, List.set_cons_succ]
              refine wpAnyE_take (i := 14) (v := ?_) hS (by kernel_rfl) rfl (by kernel_rfl) (by kernel_rfl) (fun _ _ _ h => h) (Or.inl ⟨by rfl, ?_⟩) ?_
              rotate_left
              · (intro w hSw; go_simp; try with_reducible rfl)
              try simp only [Act.put, List.setIfInBounds_toArray, List.set_cons_zero, List.set_cons_succ]
              refine wpAnyE_take (i := 15) (v := ?_) hS (by kernel_rfl) rfl (by kernel_rfl) (by kernel_rfl) (fun _ _ _ h => h) (Or.inl ⟨by rfl, ?_⟩) ?_
              rotate_left
              · (intro w hSw; go_simp; try with_reducible rfl)
              try simp only [Act.put, List.setIfInBounds_toArray, List.set_cons_zero, List.set_cons_succ]
              refine wpAnyE_take (i := 16) (v := ?_) hS (by kernel_rfl) rfl (by kernel_rfl) (by kernel_rfl) (fun _ _ _ h => h) (Or.inl ⟨by rfl, ?_⟩) ?_
              rotate_left
              · (intro w hSw; go_simp; try with_reducible rfl)
              try simp only [Act.put, List.setIfInBounds_toArray, List.set_cons_zero, List.set_cons_succ]
              refine wpAnyE_take (i := 17) (v := ?_) hS (by kernel_rfl) rfl (by kernel_rfl) (by kernel_rfl) (fun _ _ _ h => h) (Or.inl ⟨by rfl, ?_⟩) ?_
              rotate_left
              · (intro w hSw; go_simp; try with_reducible rfl)
              try simp only [Act.put, List.setIfInBounds_toArray, List.set_cons_zero, List.set_cons_succ]
              refine wpAnyE_one 18 (by kernel_rfl) rfl (fun K hK => ?_)
              go_simp
              go_at_call 64
              (with_reducible refine (HMUL.out _).mono ?_)
              rintro e w9 ⟨rfl, hb9⟩
              replace hrow' := rowBelow hrow' hb9
              have hca := below_cell hb9 (Nat.lt_of_lt_of_le hb1 hzz') hca
              have hcb := below_cell hb9 (Nat.lt_of_lt_of_le hb2 hzz') hcb
              replace hbl' := Cs.Below.trans' hbl' hb9 hbl'.size
              have hzz' := hbl'.size
              have hs1' : w9.cell? ⟨w.heap.size, i + k, none⟩ = some (.string (dec s)) := (hrow'.cell (i := i + k) hik).trans (by unfold cvF; rw [HS.out])
              have hs2' := hrow'.frozen (i + k)
              refine hK.out _ _ (fun _ => ⟨hs1', hca, hcb⟩) (fun hS => ?_)
              replace hS := hS (by decide)
              clear hK K
              try simp only [Act.put, List.setIfInBounds_toArray, List.set_cons_zero, List.set_cons_succ]
              refine wpAnyE_one 19 (by kernel_rfl) rfl (fun K hK => ?_)
              go_simp
              go_at_call 68
              (with_reducible refine (HADD.out _).mono ?_)
              rintro e w9 ⟨rfl, hb9⟩
              replace hrow' := rowBelow hrow' hb9
              have hca := below_cell hb9 (Nat.lt_of_lt_of_le hb1 hzz') hca
              have hcb := below_cell hb9 (Nat.lt_of_lt_of_le hb2 hzz') hcb
              replace hbl' := Cs.Below.trans' hbl' hb9 hbl'.size
              have hzz' := hbl'.size
              have hs1' : w9.cell? ⟨w.heap.size, i + k, none⟩ = some (.string (dec s)) := (hrow'.cell (i := i + k) hik).trans (by unfold cvF; rw [HS.out])
              have hs2' := hrow'.frozen (i + k)
              refine hK.out _ _ (fun _ => ⟨hs1', hca, hcb⟩) (fun hS => ?_)
              replace hS := hS (by decide)
              clear hK K
              try simp only [Act.put, List.setIfInBounds_toArray, List.set_cons_zero, List.set_cons_succ]
              refine wpAnyE_take (i := 20) (v := ?_) hS (by kernel_rfl) rfl (by kernel_rfl) (by kernel_rfl) (fun _ _ _ h => h) (Or.inl ⟨by rfl, ?_⟩) ?_
              rotate_left
              · (intro w hSw; go_simp; try with_reducible rfl)
              try simp only [Act.put, List.setIfInBounds_toArray, List.set_cons_zero, List.set_cons_succ]
              refine wpAnyE_one 21 (by kernel_rfl) rfl (fun K hK => ?_)
              go_simp
              refine hK.out _ _ (fun h => absurd rfl h) (fun _ => ?_)
              clear hK K
              refine wpAnyE_done (by kernel_rfl) ?_ _
              go_wp2
              go_roundw
              case rel =>
                refine ⟨k + 1, by omega, by go_num, (hrow'.set (i + k) _).congr fun t _ => ?_, hbl'.setCell (by simp) _⟩
                unfold cvF
                rw [HCV.out]
                split
                · subst t; rw [HS.out]
                · rw [Nat.add_zero]
              case measure => simp [intOf]; omega
            · obtain rfl : k = b.length := by omega
              have hrow2 : wr.rowIs w.heap.size 9 (a.length + b.length) (cvF (cvO a b (i + 1))) := hrow
              clear hrow
              go_wp2
              go_roundw
              case rel => exact ⟨i + 1, by omega, by go_num, hrow2, hbel⟩
              case measure => simp [intOf]; omega
        · obtain rfl : i = a.length := by omega
          have hszw := hbel.size
          have hrd : Rd wr wr.heap.size (some ⟨w.heap.size, 0, none⟩) p.length (decF p) := (Rd.of_row hrow (by have := HL.out; omega) hrow.lt).congr fun j _ => by unfold decF cvF; rw [HGET.out]
          have hrs : RdS wr wr.heap.size (some ⟨w.heap.size, 0, none⟩) p := ⟨hrd, fun _ b o e => by
            have : w.heap.size = b := by injection e with e; injection e
            subst this; exact ⟨_, _, rowArr hrow⟩⟩
          have hpl : a.length + b.length = p.length := HL.out.symm
          have htr := fun W h => rtrim_any W (some ⟨w.heap.size, 0, none⟩) (a.length + b.length) p (by omega) (by omega) h
          rw [← hpl] at htr
          have HTR := Lib.hid (htr wr (by rw [hpl]; exact hrd))
          have HRD := Lib.hid hrs
          clear hrow hilt hrd hrs htr hpl
          go_wp2_with (go_at_call 137; (with_reducible refine HTR.out.mono ?_); rintro e w' ⟨rfl, rfl⟩)
          go_ret
          exact ⟨_, _, rfl, by rw [trimP_len]; have := tn_le p; have := HL.out; omega, RdS.trimP HRD.out, hbel⟩
end Go.Proofs.YtgnobohfnhpkdaaGreatDoor
end
