import Derived.Test.YtgnobohfnhpkdaaGreatDoorZi
import Derived.WalkMore
set_option linter.unusedSimpArgs false
set_option linter.unusedVariables false
set_option maxRecDepth 100000
set_option maxHeartbeats 8000000
section
open Go Go.RowKit Cs
namespace Cs
def evT (d : Nat) : ByteArray := if d ≤ 1 then ⟨#[49]⟩ else ⟨#[49, 47]⟩ ++ dec d
def evD (ds : List Nat) (k : Nat) : Nat := ds.getD (k % ds.length) 0
def evX (ds : List Nat) (n : Nat) : List ByteArray := (List.range (n + 1)).map fun k => evT (evD ds k)
def evg (d : Nat) : Nat → Nat
 | 0 => d / 100
 | 1 => d / 10 % 10
 | _ => d % 10
def evj (d : Nat) : Nat → ByteArray
 | 0 => ⟨#[49, 47, UInt8.ofNat (48 + d / 100), UInt8.ofNat (48 + d / 10 % 10), UInt8.ofNat (48 + d % 10)]⟩
 | 1 => ⟨#[49, 47, UInt8.ofNat (48 + d / 10 % 10), UInt8.ofNat (48 + d % 10)]⟩
 | _ => ⟨#[49, 47, UInt8.ofNat (48 + d % 10)]⟩
def evz (d j : Nat) : Bool := (decide (j < 1) || decide (d / 100 = 0)) && (decide (j < 2) || decide (d / 10 % 10 = 0)) && decide (j ≤ 2)
theorem ev_fin : ∀ d, d < 256 → 1 < d → ∀ j, j < 3 → evz d j = true → evg d j ≠ 0 → evj d j = evT d := by decide +kernel
theorem ev_stop : ∀ d, d < 256 → 1 < d → ∀ j, j < 3 → evz d j = true → evg d j = 0 → (decide (j + 1 < 3) && evz d (j + 1)) = true := by decide +kernel
theorem ev_first (d : Nat) : (⟨#[49, 47]⟩ : ByteArray) ++ strOfNums [48 + (d : Int) / 100, 48 + (d : Int) / 10 % 10, 48 + (d : Int) % 10] = evj d 0 := by
 apply ByteArray.ext;rw [ByteArray.data_append];apply Array.ext';show [49, 47] ++ _ = _
 have e : ∀ x : Nat, (48 + (x : Int)) = ((48 + x : Nat) : Int) := fun x => by omega
 rw [show (d : Int) / 100 = ((d / 100 : Nat) : Int) by omega, show (d : Int) / 10 % 10 = ((d / 10 % 10 : Nat) : Int) by omega, show (d : Int) % 10 = ((d % 10 : Nat) : Int) by omega, e, e, e]
 rfl
theorem evg_lt : ∀ d, d < 256 → ∀ j, j < 3 → evg d j < 10 := by decide +kernel
def szOf : Value → Nat
 | .string s => s.size
 | _ => 0
theorem szOf_evj (d j : Nat) (h : j < 3) : szOf (.string (evj d j)) = 5 - j := by
 match j, h with
 | 0, _ => rfl
 | 1, _ => rfl
 | 2, _ => rfl
theorem ev_cut (d j : Nat) (h : j < 2) : ∃ m Y, (evj d j).size = m ∧ 4 ≤ m ∧ m ≤ 5 ∧ (evj d j).extract 3 m = Y ∧ Y.size ≤ 2 ∧ (evg d j = 0 → (⟨#[49, 47]⟩ : ByteArray) ++ Y = evj d (j + 1)) := by
 match j, h with
 | 0, _ => exact ⟨5, ⟨#[UInt8.ofNat (48 + d / 10 % 10), UInt8.ofNat (48 + d % 10)]⟩, rfl, by decide, by decide, rfl, Nat.le_refl 2, fun _ => rfl⟩
 | 1, _ => exact ⟨4, ⟨#[UInt8.ofNat (48 + d % 10)]⟩, rfl, by decide, by decide, rfl, (show 1 ≤ 2 by decide), fun _ => rfl⟩
theorem ev_size : ∀ d, d < 256 → (evT d).size ≤ 9 := by decide +kernel
theorem evD_lt {ds : List Nat} (h : ∀ i, ds.getD i 0 < 256) (k : Nat) : evD ds k < 256 := h _
theorem evX_len (ds : List Nat) (n : Nat) : (evX ds n).length = n + 1 := by unfold evX; simp
theorem evX_get (ds : List Nat) (n k : Nat) (h : k < n + 1) : (evX ds n).getD k ⟨#[]⟩ = evT (evD ds k) := by
 unfold evX;rw [List.getD_eq_getElem?_getD, List.getElem?_map, List.getElem?_range h]
 rfl
end Cs
namespace Go.Proofs.YtgnobohfnhpkdaaGreatDoor
theorem ev_read (d : Nat) (hd : d < 256) : okT (evT d) ∧ ∃ m, 1 ≤ m ∧ m < 256 ∧ prT (evT d) = (1, m) := by
 by_cases h : d ≤ 1
 ·have e : evT d = ⟨#[49]⟩ := by unfold evT; rw [if_pos h]
  rw [e];exact ⟨⟨⟨_, rd1⟩, by decide⟩, 1, zqn _, by decide, prT_of rd1 (by decide +kernel)⟩
 ·have e1 : qn (qq 1 d) = 1 := by rw [qn_qq, Nat.gcd_one_left]
  have e2 : (qq 1 d).den = d := by rw [den_qq, Nat.gcd_one_left, qd_of (by omega), Nat.div_one]
  have hq := rdO_text (qq_nonneg 1 d) (by rw [e1]; decide +kernel) (by rw [e2]; have := decN_le d 3 (by omega) (by decide); omega)
  have e : qtext (qq 1 d) = evT d := by
   unfold qtext evT;rw [e2, e1, if_neg (by omega), if_neg h, dec_one]
   congr 1
  rw [e] at hq;exact ⟨⟨⟨_, hq⟩, ev_size d hd⟩, d, by omega, hd, prT_of hq (by rw [e1, e2])⟩
theorem even_ok {ds : List Nat} (h : ∀ i, ds.getD i 0 < 256) (n : Nat) : okL (evX ds n) (evX ds n).length := fun i hi => by
 rw [evX_get ds n i (by rw [evX_len] at hi; exact hi)];exact (ev_read _ (evD_lt h i)).1
theorem even_pr {ds : List Nat} (h : ∀ i, ds.getD i 0 < 256) (n k : Nat) (hk : k < n + 1) : ∃ m, 1 ≤ m ∧ m < 256 ∧ (prL (evX ds n)).getD k (0, 0) = (1, m) := by
 rw [prL_get _ _ (by rw [evX_len]; exact hk), evX_get ds n k hk];exact (ev_read _ (evD_lt h k)).2
theorem even_wst {L : List Pr} {n : Nat} (hl : L.length = n + 1) (hm : ∀ k, k < n + 1 → ∃ m, 1 ≤ m ∧ m < 256 ∧ L.getD k (0, 0) = (1, m)) : (wSt L L (n + 1)).1 = onesP n ∧ (wSt L L (n + 1)).2 = onesP n := by
 obtain ⟨l1, l2⟩ := wSt_len L L (n + 1)
 have lo : (onesP n).length = n + 1 := by unfold onesP; simp
 have g := fun k => wSt_at hl hl k
 have hf : ∀ m, fL (1, m) (1, m) = 1 ∧ fH (1, m) (1, m) = 1 := fun m => by
  unfold fL fH;rw [Nat.gcd_self, Nat.div_self (qd_pos _)];exact ⟨rfl, rfl⟩
 have ext : ∀ K : List Pr, K.length = n + 1 → (∀ k, K.getD k (0, 0) = (onesP n).getD k (0, 0)) → K = onesP n := fun K h1 h2 => by
  refine List.ext_getElem (by omega) fun i a b => ?_;have := h2 i;rw [List.getD_eq_getElem?_getD, List.getElem?_eq_getElem a, List.getD_eq_getElem?_getD, List.getElem?_eq_getElem b] at this;exact this
 constructor
 ·refine ext _ (by omega) fun k => ?_;rw [(g k).1, onesP_get];split
  ·rename_i hk;obtain ⟨m, _, _, e⟩ := hm k hk
   rw [e, (hf m).1]; rfl
  ·rfl
 ·refine ext _ (by omega) fun k => ?_;rw [(g k).2, onesP_get];split
  ·rename_i hk;obtain ⟨m, _, _, e⟩ := hm k hk
   rw [e, (hf m).2]; rfl
  ·rfl
theorem pbits_small : ∀ m, m < 256 → pbits (1, m) ≤ 9 := by decide +kernel
theorem even_bits {L : List Pr} {n : Nat} (hm : ∀ k, k < n + 1 → ∃ m, 1 ≤ m ∧ m < 256 ∧ L.getD k (0, 0) = (1, m)) : ∀ m, m ≤ n → sumB L m ≤ 9 * m
 | 0, _ => zqn _
 | m + 1, h => by
   show sumB L m + pbits (L.getD (m + 1) (0, 0)) ≤ _;obtain ⟨d, _, h2, e⟩ := hm (m + 1) (by omega);have := even_bits hm m (by omega);have := pbits_small d h2
   rw [e]; omega
theorem wg_even {N : Nt} {n : Nat} (hn : N.n = (n : Int)) (hn2 : n ≤ 20) {L : List Pr} (hl : L.length = n + 1) (hm : ∀ k, k < n + 1 → ∃ m, 1 ≤ m ∧ m < 256 ∧ L.getD k (0, 0) = (1, m)) (bs : List Nat) : wgR N L L bs = dwR N bs := by
 have htn : N.n.toNat = n := by omega
 by_cases hv : vld N = true
 ·by_cases hc : cchk N = 0
  ·have hw : wchk N L L = 0 := by
    unfold wchk;have := even_bits hm n (zqn _);rw [if_pos ⟨hv, by omega, by omega⟩, if_pos hc, htn, if_neg (by omega)]
   unfold wgR;rw [if_pos hw, htn, (even_wst hl hm).1, (even_wst hl hm).2, dw_tk hv hn (by omega) bs hc]
  ·have hw : wchk N L L = cchk N := by
    unfold wchk;rw [if_pos ⟨hv, by omega, by omega⟩, if_neg hc]
   unfold wgR dwR;rw [hw, if_neg hc, if_neg hc]
 ·have hc : cchk N = 1 := by unfold cchk; rw [if_neg hv]
  have hw : wchk N L L = 1 := by
   unfold wchk;rw [if_neg fun h => hv h.1]
  unfold wgR dwR;rw [hw, hc, if_neg (by decide), if_neg (by decide)]
theorem ix5 (W : World) (a b c : UInt8) : (Instr.index 9 (.string ⟨#[49, 47, a, b, c]⟩) (.int .i64 2)).run Tryz.prog W = .ok (.int .u8 (a.toNat : Int)) W := by kernel_rfl
theorem ix4 (W : World) (a b : UInt8) : (Instr.index 9 (.string ⟨#[49, 47, a, b]⟩) (.int .i64 2)).run Tryz.prog W = .ok (.int .u8 (a.toNat : Int)) W := by kernel_rfl
theorem ix3 (W : World) (a : UInt8) : (Instr.index 9 (.string ⟨#[49, 47, a]⟩) (.int .i64 2)).run Tryz.prog W = .ok (.int .u8 (a.toNat : Int)) W := by kernel_rfl
theorem ev_index (W : World) (d j : Nat) (h : j < 3) (hd : d < 256) : (Instr.index 9 (.string (evj d j)) (.int .i64 2)).run Tryz.prog W = .ok (.int .u8 ((48 + evg d j : Nat) : Int)) W := by
 have hg := evg_lt d hd j h
 have e : ∀ x : Nat, x < 10 → ((UInt8.ofNat (48 + x)).toNat : Int) = ((48 + x : Nat) : Int) := fun x hx => by
  have : (UInt8.ofNat (48 + x)).toNat = 48 + x := by
   rw [UInt8.toNat_ofNat'];exact Nat.mod_eq_of_lt (by omega)
  rw [this]
 have e2 := e _ hg
 match j, h, e2 with
 | 0, _, e2 => rw [← e2]; exact ix5 W _ _ _
 | 1, _, e2 => rw [← e2]; exact ix4 W _ _
 | 2, _, e2 => rw [← e2]; exact ix3 W _
structure OwnT (W8 : World) (t : TypeId) (v : Value) (m : Nat) (X : List ByteArray) (wr : World) : Prop where
 own : wr.ownsRow W8.heap.size t 1 v m ((List.range m).map (strF X))
 bl : Below W8.heap.size W8 wr
section
variable {W8 wr w' : World} {t : TypeId} {v : Value} {m : Nat} {X : List ByteArray}
theorem OwnT.below (h : OwnT W8 t v m X wr) (hb : Below wr.heap.size wr w') : OwnT W8 t v m X w' := ⟨ownsBelow h.own hb, zqx h.bl hb h.bl.size⟩
theorem OwnT.next (h : OwnT W8 t v m X wr) {x : ByteArray} (hx : X.getD m ⟨#[]⟩ = x) {v' : Value} (ho : w'.ownsRow W8.heap.size t 1 v' (m + 1) ((List.range m).map (strF X) ++ [.string x])) (hg : wr.grownBy w' v.ownBlock) : OwnT W8 t v' (m + 1) X w' := by
 refine ⟨?_, h.bl.grown hg h.bl.size (fun b e => (h.own.lt b e).1)⟩
 have e : (List.range (m + 1)).map (strF X) = (List.range m).map (strF X) ++ [.string x] := by
  rw [List.range_succ, List.map_append];show _ ++ [strF X m] = _;unfold strF;rw [hx]
 rw [e]; exact ho
theorem OwnT.rd (h : OwnT W8 t v (m + 1) X wr) : ∃ g cap, v = .slice (some ⟨g, 0, none⟩) (m + 1) cap ∧ Rd wr wr.heap.size (some ⟨g, 0, none⟩) (m + 1) (strF X) := by
 obtain ⟨g, cap, f, e, h1, h2, h3, h4, h5⟩ := ownsRows h.own (by omega);rw [Nat.mul_one] at h4;refine ⟨g, cap, e, (Rd.of_row h4 h3 h4.lt).congr fun i hi => ?_⟩;have := h5 i (by omega);rw [List.getElem?_map, List.getElem?_range hi] at this;injection this with this;exact this.symm
end
end Go.Proofs.YtgnobohfnhpkdaaGreatDoor
end
section
open Go Go.RowKit Cs
namespace Go.Proofs.YtgnobohfnhpkdaaGreatDoor
theorem even_no (w : World) (N : Nt) (A Ad Ab : Option Addr) (c cd cb ld lb : Nat) (hlen : N.l.length ≤ 140737488355328) (hN : NtAt w w.heap.size A N.l) (hT : Tab w)
  (h : fewS N lb = false ∨ (fewS N lb = true ∧ N.n < 0) ∨ (fewS N lb = true ∧ 0 ≤ N.n ∧ 20 < N.n) ∨ (fewS N lb = true ∧ 0 ≤ N.n ∧ N.n ≤ 20 ∧ ld = 0)) :
  Calls Tryz.prog 8 #[ntV N A c, .slice Ad ld cd, .slice Ab lb cb] w fun e w' => e = .returned (.bool true) ∧ Below w.heap.size w w' := by
 have hfw := fun W hN => fewS_any W N A Ab c lb cb hlen hN;have HTB := zqh (fun W (hb : Below w.heap.size w W) => hT.below hb);obtain ⟨F, hF⟩ : ∃ F, fewS N lb = F := ⟨_, rfl⟩;rw [hF] at hfw h;have HFW := zqh hfw;clear hfw hF;obtain ⟨Nn, l⟩ := N;have q0 := (Bag.zero w).new #[.int .i64 Nn, .slice A l.length c] 24 w.heap.size 2 rfl rfl;have HNT := zqh (fun W (hb : Below w.heap.size w W) => (hN.below hb).more hb.size);clear hN hT;simp only at h;rcases h with rfl | ⟨rfl, h1⟩ | ⟨rfl, h1, h2⟩ | ⟨rfl, h1, h2, rfl⟩
 ·go_enter Tryz.func8, Tryz.ntmps8
  go_wp2_with fail
  refine (HFW.out _ (HNT.out _ q0.bl)).mono ?_;rintro e w1 ⟨rfl, hb1⟩;have q1 := q0.below hb1;have m1 := q1.is0 0 (by decide) (.int .i64 Nn) rfl;clear hb1
  go_wp2_with fail
  refine (works_any _ (HTB.out _ q1.bl)).mono ?_;rintro e w9 ⟨rfl, hb9⟩;have hb := zqx q1.bl hb9 q1.bl.size
  go_wp2_with fail
  go_ret
  exact ⟨rfl, hb⟩
 ·have d1 : decide (Nn < 0) = true := decide_eq_true h1
  go_enter Tryz.func8, Tryz.ntmps8
  go_wp2_with fail
  refine (HFW.out _ (HNT.out _ q0.bl)).mono ?_;rintro e w1 ⟨rfl, hb1⟩;have q1 := q0.below hb1;have m1 := q1.is0 0 (by decide) (.int .i64 Nn) rfl;clear hb1
  go_wp2_with fail
  refine (works_any _ (HTB.out _ q1.bl)).mono ?_;rintro e w9 ⟨rfl, hb9⟩;have hb := zqx q1.bl hb9 q1.bl.size
  go_wp2_with fail
  go_ret
  exact ⟨rfl, hb⟩
 ·have d1 : decide (Nn < 0) = false := decide_eq_false (by omega);have d2 : decide (20 < Nn) = true := decide_eq_true h2
  go_enter Tryz.func8, Tryz.ntmps8
  go_wp2_with fail
  refine (HFW.out _ (HNT.out _ q0.bl)).mono ?_;rintro e w1 ⟨rfl, hb1⟩;have q1 := q0.below hb1;have m1 := q1.is0 0 (by decide) (.int .i64 Nn) rfl;clear hb1
  go_wp2_with fail
  refine (works_any _ (HTB.out _ q1.bl)).mono ?_;rintro e w9 ⟨rfl, hb9⟩;have hb := zqx q1.bl hb9 q1.bl.size
  go_wp2_with fail
  go_ret
  exact ⟨rfl, hb⟩
 ·have d1 : decide (Nn < 0) = false := decide_eq_false (by omega);have d2 : decide (20 < Nn) = false := decide_eq_false (by omega)
  go_enter Tryz.func8, Tryz.ntmps8
  go_wp2_with fail
  refine (HFW.out _ (HNT.out _ q0.bl)).mono ?_;rintro e w1 ⟨rfl, hb1⟩;have q1 := q0.below hb1;have m1 := q1.is0 0 (by decide) (.int .i64 Nn) rfl;clear hb1
  go_wp2_with fail
  refine (works_any _ (HTB.out _ q1.bl)).mono ?_;rintro e w9 ⟨rfl, hb9⟩;have hb := zqx q1.bl hb9 q1.bl.size
  go_wp2_with fail
  go_ret
  exact ⟨rfl, hb⟩
theorem even_go (w : World) (N : Nt) (A Ad Ab : Option Addr) (c cd cb n : Nat) (ds bs : List Nat) (hlen : N.l.length ≤ 140737488355328) (hN : NtAt w w.heap.size A N.l) (hT : Tab w)
  (hds : Rd w w.heap.size Ad ds.length (byF ds)) (hd8 : ∀ i, ds.getD i 0 < 256) (hbs : Rd w w.heap.size Ab bs.length (byF bs)) (hb8 : ∀ i, bs.getD i 0 < 256)
  (hf : fewS N bs.length = true) (hn : N.n = (n : Int)) (hn20 : n ≤ 20) (hdl : 0 < ds.length) :
  Calls Tryz.prog 8 #[ntV N A c, .slice Ad ds.length cd, .slice Ab bs.length cb] w fun e w' => e = .returned (.bool true) ∧ Below w.heap.size w w' := by
 obtain ⟨ti, hti, ht0, ht1, ht2⟩ := info_parts info_str;have hfw := fun W hN => fewS_any W N A Ab c bs.length cb hlen hN;have HTB := zqh (fun W (hb : Below w.heap.size w W) => hT.below hb);obtain ⟨h20, h64⟩ := few_n20 hf
 have hlb : bs.length ≤ 1000000 := by omega
 have hin : ∀ k (hk : k < N.l.length), N.l[k].ins.length ≤ 1000000 := by
  have hf2 := hf;unfold fewS at hf2;simp only [Bool.and_eq_true] at hf2;exact few_ins hf2.1.1
 rw [hf] at hfw;obtain ⟨X, hX⟩ : ∃ X, evX ds n = X := ⟨_, rfl⟩
 have hXl : X.length = n + 1 := by rw [← hX]; exact evX_len ds n
 have hXok : okL X X.length := by rw [← hX]; exact even_ok hd8 n
 have hXg : ∀ k, k < n + 1 → X.getD k ⟨#[]⟩ = evT (evD ds k) := fun k hk => by rw [← hX]; exact evX_get ds n k hk
 have hXs : ∀ i, (X.getD i ⟨#[]⟩).size ≤ maxLen := fun i => by
  rcases Nat.lt_or_ge i (n + 1) with h | h
  ·rw [hXg i h];have := ev_size _ (evD_lt hd8 i)
   unfold maxLen; omega
  ·rw [List.getD_eq_getElem?_getD, List.getElem?_eq_none (by omega)];exact Nat.zero_le _
 have hpl : (prL X).length = n + 1 := by unfold prL; rw [List.length_map, hXl]
 obtain ⟨T, hT'⟩ : ∃ T, dwR N bs = T := ⟨_, rfl⟩
 have hwT : wgR N (prL X) (prL X) bs = T := by
  rw [← hT', ← hX];rw [← hX] at hpl;exact wg_even hn hn20 hpl (fun k hk => even_pr hd8 n k hk) bs
 have hwg : ∀ W Bl Bh dl dh, n + 1 ≤ dl → n + 1 ≤ dh → NtAt W W.heap.size A N.l → Tab W → Rd W W.heap.size Bl ((n + 1) * 2) (prsF (prL X)) → Rd W W.heap.size Bh ((n + 1) * 2) (prsF (prL X)) → Rd W W.heap.size Ab bs.length (byF bs) →
   Calls Tryz.prog 21 #[ntV N A c, wtsV Bl Bh (n + 1) (n + 1) dl dh, .slice Ab bs.length cb] W fun e w' => e = .returned (tkV T) ∧ Below W.heap.size W w' := fun W Bl Bh dl dh h1 h2 hN hT r1 r2 rb => by
  have := weighted_any W N A c dl dh bs.length cb (prL X) (prL X) bs Bl Bh Ab hlen hN hT hin (okL_wg hXok) (okL_wg hXok) (by rw [hpl]; exact r1) (by rw [hpl]; exact r2) (by rw [hpl]; exact h1) (by rw [hpl]; exact h2) rfl hlb rb hb8;rw [hwT, hpl] at this;exact this
 have hdw := fun W hN hT hb => sdraw_any W N A c bs.length cb bs Ab hlen hN hT hin rfl hlb hb hb8;have hrd := fun W hN hb => rdrawn_any W N A Ab c cb bs hlen hN h20 hlb hb hb8;rw [hT'] at hdw hrd
 have hws : ∀ W (B : Option Addr) cp, Rd W W.heap.size B (n + 1) (strF X) → Calls Tryz.prog 20 #[.slice B (n + 1) cp, .slice B (n + 1) cp] W fun e w' => Below W.heap.size W w' ∧ ∃ Al Ah cl ch, e = .returned (.tuple #[wtsV Al Ah (n + 1) (n + 1) cl ch, .bool true]) ∧ n + 1 ≤ cl ∧ n + 1 ≤ ch ∧
   Rd w' w'.heap.size Al ((n + 1) * 2) (prsF (prL X)) ∧ Rd w' w'.heap.size Ah ((n + 1) * 2) (prsF (prL X)) := fun W B cp hr => by
  have := weights_any W X X B B cp cp (by omega) (by omega) (by rw [hXl]; exact hr) (by rw [hXl]; exact hr) hXs hXs;rw [hXl] at this;refine this.mono fun e w' h => ?_;obtain ⟨hb, ⟨hn, _⟩ | ⟨_, Al, Ah, cl, ch, h1, h2, h3, h4, h5⟩⟩ := h
  ·exact absurd ⟨hXok, hXok⟩ hn
  ·rw [hXl] at h1 h2 h3 h4 h5;rw [decide_eq_true (show n + 1 ≤ 140 by omega)] at h1;exact ⟨hb, Al, Ah, cl, ch, h1, h2, h3, h4, h5⟩
 obtain ⟨Nn, l⟩ := N;simp only at hn;subst hn;obtain ⟨Ta, Tu, To, Te⟩ := T
 have hwg' : ∀ W Bl Bh dl dh, n + 1 ≤ dl → n + 1 ≤ dh → NtAt W W.heap.size A l → Tab W → Rd W W.heap.size Bl ((n + 1) * 2) (prsF (prL X)) → Rd W W.heap.size Bh ((n + 1) * 2) (prsF (prL X)) → Rd W W.heap.size Ab bs.length (byF bs) →
   Calls Tryz.prog 21 #[.agg #[.int .i64 (n : Int), .slice A l.length c], .agg #[.slice Bl (n + 1) dl, .slice Bh (n + 1) dh], .slice Ab bs.length cb] W fun e w' => e = .returned (.tuple #[.agg #[.int .u64 (Cs.lo Ta : Int), .int .u64 (Cs.hi Ta : Int)], .int .i64 (Tu : Int), .bool To, .int .i64 Te]) ∧ Below W.heap.size W w' := hwg
 have hdw' : ∀ W, NtAt W W.heap.size A l → Tab W → Rd W W.heap.size Ab bs.length (byF bs) → Calls Tryz.prog 12 #[.agg #[.int .i64 (n : Int), .slice A l.length c], .slice Ab bs.length cb] W fun e w' => e = .returned (.tuple #[.agg #[.int .u64 (Cs.lo Ta : Int), .int .u64 (Cs.hi Ta : Int)], .int .i64 (Tu : Int), .bool To, .int .i64 Te]) ∧ Below W.heap.size W w' := hdw;have hrd' : ∀ W, NtAt W W.heap.size A l → Rd W W.heap.size Ab bs.length (byF bs) → Calls Tryz.prog 13 #[.agg #[.int .i64 (n : Int), .slice A l.length c], .slice Ab bs.length cb] W fun e w' => e = .returned (.tuple #[.agg #[.int .u64 (Cs.lo Ta : Int), .int .u64 (Cs.hi Ta : Int)], .int .i64 (Tu : Int), .bool To, .int .i64 Te]) ∧ Below W.heap.size W w' := hrd
 have he : ∀ w, (Op.equalIn 10000 30 (.agg #[.int .u64 (Cs.lo Ta : Int), .int .u64 (Cs.hi Ta : Int)]) (.agg #[.int .u64 (Cs.lo Ta : Int), .int .u64 (Cs.hi Ta : Int)])).run Tryz.prog w = .ok true w := fun w => by rw [eq_set]; simp
 have HFW := zqh hfw;have HWG := zqh hwg';have HDW := zqh hdw';have HRD := zqh hrd';have HE := zqh he;have HWS := zqh hws;have HXG := zqh hXg;have HDS := zqh (fun W (hb : Below w.heap.size w W) => (hds.below hb).more hb.size);have HBS := zqh (fun W (hb : Below w.heap.size w W) => (hbs.below hb).more hb.size);have HNT := zqh (fun W (hb : Below w.heap.size w W) => (hN.below hb).more hb.size);have HEV := zqh (fun k => evD_lt hd8 k);have g1 : decide ((n : Int) < 0) = false := decide_eq_false (by omega);have g2 : decide (20 < (n : Int)) = false := decide_eq_false (by omega);have g3 : ((ds.length : Int) == 0) = false := beq_eq_false_iff_ne.2 (by omega);clear hfw hwg hdw hrd hwg' hdw' hrd' he hf h20 h64 hin hT' hwT hbs hb8 hT hds hws hN hlb hX hXok hXg hXs hpl hd8;have q0 := (Bag.zero w).new #[.int .i64 (n : Int), .slice A l.length c] 24 w.heap.size 2 rfl rfl
 go_enter Tryz.func8, Tryz.ntmps8
 go_wp2_with fail
 refine (HFW.out _ (HNT.out _ q0.bl)).mono ?_;rintro e w1 ⟨rfl, hb1⟩;have q1 := q0.below hb1;have m1 := q1.is0 0 (by decide) (.int .i64 (n : Int)) rfl;clear hb1 q0
 go_wp2_with fail
 clear m1
 go_loopw [7, 8] (fun t x wr => ∃ (k : Nat), k ≤ n + 1 ∧ x = .int .i64 (k : Int) ∧ OwnT w1 9 t k X wr) (fun _ x _ => n + 1 - (intOf x).toNat)
 case atStart => exact ⟨0, by omega, rfl, ⟨World.ownsRow_nil _ _ _ _, zqr _ _⟩⟩
 case round =>
  obtain ⟨k, hk, rfl, ho⟩ := hrel;have q2 := q1.below ho.bl;have m1 := q2.is0 0 (by decide) (.int .i64 (n : Int)) rfl;rcases Nat.lt_or_ge k (n + 1) with hlt | hge
  ·have d1 : decide ((k : Int) ≤ (n : Int)) = true := decide_eq_true (by omega);obtain ⟨bd, od, rfl, hbd, hcd⟩ := (HDS.out _ q2.bl) hdl;have hev := HEV.out k;have hxg := HXG.out k hlt;have c1 := hcd (k % ds.length) (Nat.mod_lt _ hdl);unfold byF at c1;have e1 : ds.getD (k % ds.length) 0 = evD ds k := rfl;rw [e1] at c1;obtain ⟨d, hd⟩ : ∃ d, evD ds k = d := ⟨_, rfl⟩;rw [hd] at hev hxg c1;have i1 : k % ds.length < ds.length := Nat.mod_lt _ hdl;have htm : ((k : Nat) : Int).tmod ((ds.length : Nat) : Int) = ((k % ds.length : Nat) : Int) := rfl;obtain ⟨p, hp⟩ : ∃ p, k % ds.length = p := ⟨_, rfl⟩;rw [hp] at htm i1 c1
   have i2 : (0 : Int) ≤ (p : Int) := by omega
   have i3 : (p : Int) < (ds.length : Int) := by omega
   clear hcd e1 hd hp;rcases Nat.lt_or_ge 1 d with h1d | h1d
   ·have d9 : decide (1 < (d : Int)) = true := decide_eq_true (by omega)
    have hcv : (convert 25 9 (.slice (some ⟨wr.heap.size, 0, none⟩) 3 3)).run Tryz.prog (wr.alloc (.cells #[.int .u8 (48 + (d : Int) / 100), .int .u8 (48 + (d : Int) / 10 % 10), .int .u8 (48 + (d : Int) % 10)] 5)) = .ok (.string (strOfNums [48 + (d : Int) / 100, 48 + (d : Int) / 10 % 10, 48 + (d : Int) % 10])) (wr.alloc (.cells #[.int .u8 (48 + (d : Int) / 100), .int .u8 (48 + (d : Int) / 10 % 10), .int .u8 (48 + (d : Int) % 10)] 5)) := by
     refine run_convert_bytes_arg (P := Tryz.prog) _ 25 5 Tryz.underlying25 Tryz.underlying5 wr.heap.size 0 3 3 [48 + (d : Int) / 100, 48 + (d : Int) / 10 % 10, 48 + (d : Int) % 10] rfl (fun i hi => ?_) 9 Tryz.underlying9
     match i, hi with
     | 0, _ => simp
     | 1, _ => simp
     | 2, _ => simp
    have hS : (⟨#[49, 47]⟩ : ByteArray) ++ strOfNums [48 + (d : Int) / 100, 48 + (d : Int) / 10 % 10, 48 + (d : Int) % 10] = evj d 0 := ev_first d;have HOX := zqh (ho.below ((zqr _ _).alloc (zqn _) (.cells #[.int .u8 (48 + (d : Int) / 100), .int .u8 (48 + (d : Int) / 10 % 10), .int .u8 (48 + (d : Int) % 10)] 5)))
    go_wp2_with fail
    clear hcv hS
    go_loopw [10] (fun t wr2 => ∃ j : Nat, j < 3 ∧ evz d j = true ∧ t = .string (evj d j) ∧ OwnT w1 9 u7 k X wr2) (fun t _ => szOf t)
    case atStart => exact ⟨0, by omega, by unfold evz; simp, rfl, HOX.out⟩
    case round =>
     clear HOX q2 m1 ho;obtain ⟨j, hj, hz, rfl, ho⟩ := hrel;have hix := fun W => ev_index W d j hj hev;have q2 := q1.below ho.bl;have m1 := q2.is0 0 (by decide) (.int .i64 (n : Int)) rfl;by_cases hg : evg d j = 0
     ·have hst := ev_stop d hev h1d j hj hz hg;rw [Bool.and_eq_true, decide_eq_true_eq] at hst;obtain ⟨hj2, hz2⟩ := hst;obtain ⟨m, Y, y1, y2, y3, y4, y5, y6⟩ := ev_cut d j (by omega);have y7 := y6 hg
      have zz : szOf (.string (evj d (j + 1))) < szOf (.string (evj d j)) := by rw [szOf_evj d _ hj2, szOf_evj d j hj]; omega
      have y8 : 2 + Y.size ≤ maxLen := by unfold maxLen; omega
      have y9 : (Y.size : Int) ≤ 2 := by omega
      rw [hg] at hix;clear y6
      generalize evj d j = S at *
      obtain ⟨S2, hS2⟩ : ∃ S2, evj d (j + 1) = S2 := ⟨_, rfl⟩;have HZ2 := zqh (show ∃ j, j < 3 ∧ evz d j = true ∧ Value.string S2 = Value.string (evj d j) from ⟨j + 1, hj2, hz2, by rw [hS2]⟩);rw [hS2] at y7 zz;clear hS2 hz2
      go_wp2_with fail
      obtain ⟨j3, a1, a2, a3⟩ := HZ2.out;exact ⟨⟨j3, a1, a2, a3, ho⟩, zz⟩
     ·have hfin := ev_fin d hev h1d j hj hz hg;have b1 : (((48 + evg d j : Nat) : Int) == 48) = false := beq_eq_false_iff_ne.2 (by omega);have b2 : ((48 + (evg d j : Int)) == 48) = false := beq_eq_false_iff_ne.2 (by omega);rw [hfin] at hix ⊢
      generalize evg d j = gg at *
      have ho2 := ho.below ((zqr _ _).alloc (zqn _) (.cells #[.string (evT d)] 9));have own2 := ho2.own;have z2 := ho2.bl.size;have HO2 := zqh ho2;have HXK := zqh hxg;clear ho ho2 hxg hfin
      generalize evT d = S at *
      go_wp2_with (
       at_builtin
       refine wpList_append_own2 _ rfl _ _ 43 rfl w1.heap.size 9 ti (.string ⟨#[]⟩) 1 16 Tryz.underlying43 hti ht0 ht1 ht2 rfl (by decide) _ _ _ rfl own2 ⟨wr.heap.size, 0, none⟩ 1 1 [.string S] rfl rfl newOne oneStrV (by unfold maxLen; omega) (by omega) z2 ?_;intro v4 w4 hown4 hgr4 hwh4;have ho4 := HO2.out.next HXK.out hown4 hgr4
       clear own2 hown4 hgr4 hwh4 z2)
      exact ⟨⟨k + 1, by omega, by go_num, ho4⟩, by simp [intOf]; omega⟩
   ·have hT1 : evT d = ⟨#[49]⟩ := by unfold evT; rw [if_pos h1d]
    rw [hT1] at hxg;have d9 : decide (1 < (d : Int)) = false := decide_eq_false (by omega);have ho2 := ho.below ((zqr _ _).alloc (zqn _) (.cells #[.string ⟨#[49]⟩] 9));have own2 := ho2.own;have z2 := ho2.bl.size;have HO2 := zqh ho2;have HXK := zqh hxg;clear ho ho2 hxg
    go_wp2_with (
     at_builtin
     refine wpList_append_own2 _ rfl _ _ 43 rfl w1.heap.size 9 ti (.string ⟨#[]⟩) 1 16 Tryz.underlying43 hti ht0 ht1 ht2 rfl (by decide) _ _ _ rfl own2 ⟨wr.heap.size, 0, none⟩ 1 1 [.string ⟨#[49]⟩] rfl rfl newOne oneStrV (by unfold maxLen; omega) (by omega) z2 ?_;intro v4 w4 hown4 hgr4 hwh4;have ho4 := HO2.out.next HXK.out hown4 hgr4
     clear own2 hown4 hgr4 hwh4 z2)
    exact ⟨⟨k + 1, by omega, by go_num, ho4⟩, by simp [intOf]; omega⟩
  ·obtain rfl : k = n + 1 := by omega
   have d1 : decide (((n + 1 : Nat) : Int) ≤ (n : Int)) = false := decide_eq_false (by omega);have d2 : decide ((n : Int) + 1 ≤ (n : Int)) = false := decide_eq_false (by omega);obtain ⟨g, cap, rfl, hr⟩ := ho.rd;clear ho HXG HEV HDS
   go_wp2_with fail
   refine (HWS.out _ _ _ hr).mono ?_;rintro e w6 ⟨hb6, Bl, Bh, dl, dh, rfl, hdl, hdh, hrl, hrh⟩;have q6 := (q2.below hb6).new #[.slice Bl (n + 1) dl, .slice Bh (n + 1) dh] 46 w6.heap.size 2 rfl rfl;replace hrl := (hrl.alloc (zqn _) (.cells #[.slice Bl (n + 1) dl, .slice Bh (n + 1) dh] 46)).more (B' := (w6.alloc (.cells #[.slice Bl (n + 1) dl, .slice Bh (n + 1) dh] 46)).heap.size) (by simp);replace hrh := (hrh.alloc (zqn _) (.cells #[.slice Bl (n + 1) dl, .slice Bh (n + 1) dh] 46)).more (B' := (w6.alloc (.cells #[.slice Bl (n + 1) dl, .slice Bh (n + 1) dh] 46)).heap.size) (by simp);clear m1;have m1 := q6.tail.is0 0 (by decide) (.int .i64 (n : Int)) rfl;have m2 := q6.tail.is0 1 (by decide) (.slice A l.length c) rfl;have p1 := q6.is0 0 (by decide) (.slice Bl (n + 1) dl) rfl;have p2 := q6.is0 1 (by decide) (.slice Bh (n + 1) dh) rfl;clear hb6 q2 hr
   go_wp2_with fail
   refine (HWG.out _ _ _ _ _ hdl hdh (HNT.out _ q6.bl) (HTB.out _ q6.bl) hrl hrh (HBS.out _ q6.bl)).mono ?_;rintro e w7 ⟨rfl, hb7⟩;have q7 := ((q6.below hb7).tail).new #[.int .u64 (Cs.lo Ta : Int), .int .u64 (Cs.hi Ta : Int)] 30 w7.heap.size 2 rfl rfl;clear m1 m2 p1 p2 hb7 q6 hrl hrh;have m1 := q7.tail.is0 0 (by decide) (.int .i64 (n : Int)) rfl;have m2 := q7.tail.is0 1 (by decide) (.slice A l.length c) rfl
   go_wp2_with fail
   refine (HDW.out _ (HNT.out _ q7.bl) (HTB.out _ q7.bl) (HBS.out _ q7.bl)).mono ?_;rintro e w3 ⟨rfl, hb3⟩;have q3 := (q7.below hb3).new #[.int .u64 (Cs.lo Ta : Int), .int .u64 (Cs.hi Ta : Int)] 30 w3.heap.size 2 rfl rfl;clear m1 m2 hb3 q7;have m1 := q3.tail.tail.is0 0 (by decide) (.int .i64 (n : Int)) rfl;have m2 := q3.tail.tail.is0 1 (by decide) (.slice A l.length c) rfl
   go_wp2_with fail
   refine (HRD.out _ (HNT.out _ q3.bl) (HBS.out _ q3.bl)).mono ?_;rintro e w4 ⟨rfl, hb4⟩;have q4 := (q3.below hb4).new #[.int .u64 (Cs.lo Ta : Int), .int .u64 (Cs.hi Ta : Int)] 30 w4.heap.size 2 rfl rfl;clear m1 m2 hb4 q3;have p1 := q4.tail.is0 0 (by decide) (.int .u64 (Cs.lo Ta : Int)) rfl;have p2 := q4.tail.is0 1 (by decide) (.int .u64 (Cs.hi Ta : Int)) rfl;have p3 := q4.tail.tail.is0 0 (by decide) (.int .u64 (Cs.lo Ta : Int)) rfl;have p4 := q4.tail.tail.is0 1 (by decide) (.int .u64 (Cs.hi Ta : Int)) rfl;have he := HE.out
   go_wp2_with fail
   refine (works_any _ (HTB.out _ q4.bl)).mono ?_;rintro e w9 ⟨rfl, hb9⟩;have hb := zqx q4.bl hb9 q4.bl.size
   go_wp2_with fail
   go_ret
   exact ⟨rfl, hb⟩
theorem even_any (w : World) (N : Nt) (A Ad Ab : Option Addr) (c cd cb : Nat) (ds bs : List Nat) (hlen : N.l.length ≤ 140737488355328) (hN : NtAt w w.heap.size A N.l) (hT : Tab w)
  (hds : Rd w w.heap.size Ad ds.length (byF ds)) (hd8 : ∀ i, ds.getD i 0 < 256) (hbs : Rd w w.heap.size Ab bs.length (byF bs)) (hb8 : ∀ i, bs.getD i 0 < 256) :
  Calls Tryz.prog 8 #[ntV N A c, .slice Ad ds.length cd, .slice Ab bs.length cb] w fun e w' => e = .returned (.bool true) ∧ Below w.heap.size w w' := by
 cases hf : fewS N bs.length
 ·exact even_no w N A Ad Ab c cd cb ds.length bs.length hlen hN hT (.inl hf)
 ·by_cases h0 : N.n < 0
  ·exact even_no w N A Ad Ab c cd cb ds.length bs.length hlen hN hT (.inr (.inl ⟨hf, h0⟩))
  ·by_cases h1 : 20 < N.n
   ·exact even_no w N A Ad Ab c cd cb ds.length bs.length hlen hN hT (.inr (.inr (.inl ⟨hf, by omega, h1⟩)))
   ·by_cases h2 : ds.length = 0
    ·exact even_no w N A Ad Ab c cd cb ds.length bs.length hlen hN hT (.inr (.inr (.inr ⟨hf, by omega, by omega, h2⟩)))
    ·exact even_go w N A Ad Ab c cd cb N.n.toNat ds bs hlen hN hT hds hd8 hbs hb8 hf (by omega) (by omega) (by omega)
end Go.Proofs.YtgnobohfnhpkdaaGreatDoor
end
