import Derived.Test.YtgnobohfnhpkdaaGreatDoorYh
import Derived.Test.YtgnobohfnhpkdaaGreatDoorYb
import Derived.Test.YtgnobohfnhpkdaaGreatDoorYa
import Derived.Test.YtgnobohfnhpkdaaGreatDoorYc
import Derived.Test.YtgnobohfnhpkdaaGreatDoorC1
import Derived.Test.YtgnobohfnhpkdaaGreatDoorDw
set_option linter.unusedSimpArgs false
set_option linter.unusedVariables false
set_option maxRecDepth 100000
set_option maxHeartbeats 4000000
section
open Go Go.RowKit Cs
namespace Cs
structure Tk where
 a : Nat
 u : Nat
 ok : Bool
 e : Int
deriving DecidableEq
def Tk.no (e : Int) : Tk := ⟨0, 0, false, e⟩
def tkD (N : Nt) (n : Nat) (lo hi : List Pr) : Option (Nat × Nat) → Tk
 | none => Tk.no 0
 | some (r, u) => ⟨choiceN N n lo hi r, u, true, 0⟩
def tkR (N : Nt) (n : Nat) (lo hi : List Pr) (bs : List Nat) : Tk :=
 if wfit N n lo hi = 0 then (if totN N n lo hi = 0 then Tk.no 3 else tkD N n lo hi (drawN (totN N n lo hi) bs)) else Tk.no (wfit N n lo hi)
def dwR (N : Nt) (bs : List Nat) : Tk :=
 if cchk N = 0 then (if cntN N = 0 then Tk.no 3 else tkD N N.n.toNat (onesP N.n.toNat) (onesP N.n.toNat) (drawN (cntN N) bs)) else Tk.no (cchk N)
def needK (N : Nt) : Nat := if cchk N = 0 then nd 2 (cntN N - 1) else 0
def needE (N : Nt) : Int := if cchk N = 0 then (if cntN N = 0 then 3 else 0) else cchk N
theorem ones_tot {N : Nt} {n : Nat} (hv : vld N = true) (hn : N.n = (n : Int)) : totN N n (onesP n) (onesP n) = (RN 0).sum N := by
 rw [tot_wh (ones_whIn n)];have e : (RN 0).sum N = ((RN 0).wit (wt 0)).sum N := rfl;rw [e];refine wit_sum hv _ _ fun l hl => ?_;have hr := litOk_rng' hl;unfold WN;rw [ones_plit n l (by omega) (by omega)];unfold wt;rw [if_neg (by omega)]
theorem ones_fit {N : Nt} {n : Nat} (hn : n ≤ 128) (hc : cchk N = 0) : WtFit N n (onesP n) (onesP n) :=
 ⟨ones_in n, hc, by rw [ones_bits n n (zqn _)]; omega⟩
theorem dw_tk {N : Nt} {n : Nat} (hv : vld N = true) (hn : N.n = (n : Int)) (hn2 : n ≤ 128) (bs : List Nat) (hc : cchk N = 0) : dwR N bs = tkR N n (onesP n) (onesP n) bs := by
 unfold dwR tkR
 have e : N.n.toNat = n := by omega
 have e2 : cntN N = (RN 0).sum N := by unfold cntN; rw [if_pos hc]
 rw [if_pos hc, if_pos (ones_fit hn2 hc).fit, ones_tot hv hn, e, e2]
theorem cchk_vld {N : Nt} (h : cchk N = 0) : vld N = true := by
 unfold cchk at h;cases hv : vld N
 ·rw [hv] at h; simp at h
 ·rfl
theorem cmpN_zero (x : Nat) : cmpN x 0 = 0 ↔ x = 0 := by unfold cmpN; split <;> (try split) <;> omega
end Cs
namespace Go.Proofs.YtgnobohfnhpkdaaGreatDoor
theorem natV_zero : natV 0 = .agg #[.string ⟨#[]⟩] := by unfold natV; rw [natB_zero]
def tkV (t : Tk) : Value := .tuple #[setV t.a, .int .i64 (t.u : Int), .bool t.ok, .int .i64 t.e]
theorem results_cell_tmp3 {fn : Func} {p u v x : Tmp} {ty : TypeId} (h : fn.results = #[.cell p ty, .tmp u, .tmp v, .tmp x]) (tmps : Array Value) (P : Program) (w : World) :
  (results fn tmps).run P w = ((asAddr (tmps.getD p undef)).run P w).andThen fun a w₁ => ((loadVar ty a).run P w₁).andThen fun z w₂ => .ok (.tuple #[z, tmps.getD u undef, tmps.getD v undef, tmps.getD x undef]) w₂ := by
 simp only [results, h];simp [Sem.run_bind, Result.andThen]
theorem drV_none : drV none = .tuple #[natV 0, .int .i64 0, .bool false] := rfl
theorem drV_some (x u : Nat) : drV (some (x, u)) = .tuple #[natV x, .int .i64 (u : Int), .bool true] := rfl
theorem no_lo (E : Int) (x : Value) : arrF #[.int .u64 0, x] 0 = .int .u64 (lo (Tk.no E).a : Int) := rfl
theorem no_hi (E : Int) (x : Value) : arrF #[x, .int .u64 0] 1 = .int .u64 (hi (Tk.no E).a : Int) := by
 show Value.int .u64 0 = .int .u64 ((hi 0 : Nat) : Int)
 rw [show hi 0 = 0 by decide]; rfl
theorem ret_take {fn : Func} {R : Ending → World → Prop} {a : Act} {w : World} {p u v x : Tmp} (h : fn.results = #[.cell p 30, .tmp u, .tmp v, .tmp x]) {g : Nat} {t : TypeId} (T : Tk) {f : Nat → Value}
  (hp : a.tmps.getD p undef = .pointer (some ⟨g, 0, none⟩)) (hu : a.tmps.getD u undef = .int .i64 (T.u : Int)) (hb : a.tmps.getD v undef = .bool T.ok) (he : a.tmps.getD x undef = .int .i64 T.e) (hrow : w.rowIs g t 2 f) (h0 : f 0 = .int .u64 (lo T.a : Int)) (h1 : f 1 = .int .u64 (hi T.a : Int)) (hdf : a.defers = []) (hR : R (.returned (tkV T)) w) : bodyPost Tryz.prog fn R .ret a w := by
 refine bodyPost_ret (v := tkV T) ?_ hdf hR;rw [results_cell_tmp3 h, hp];simp only [asAddr, Sem.run_pure, Result.andThen_ok];have hl := run_loadVar_row (P := Tryz.prog) w g t 30 _ (0, 0) _ (rowArr hrow) Tryz.underlying30 rfl (by simpa using size_set);have e2 : ((List.range 2).map f).toArray = #[f 0, f 1] := rfl;rw [e2, h0, h1] at hl;rw [hl, hu, hb, he];simp [tkV, setV]
theorem take_any (w : World) (N : Nt) (A : Option Addr) (c cl ch n lb cb : Nat) (lo hi : List Pr) (bs : List Nat) (Al Ah Ab : Option Addr) (hN : NtAt w w.heap.size A N.l) (hv : vld N = true) (hn : N.n = (n : Int)) (hn2 : n ≤ 128) (hT : Tab w)
  (hin : ∀ k (hk : k < N.l.length), N.l[k].ins.length ≤ 1000000) (hW : WtIn n lo hi)
  (hlo : Rd w w.heap.size Al ((n + 1) * 2) (prsF lo)) (hhi : Rd w w.heap.size Ah ((n + 1) * 2) (prsF hi)) (hc1 : n + 1 ≤ cl) (hc2 : n + 1 ≤ ch)
  (hl : bs.length = lb) (hl2 : lb ≤ 1000000) (hbs : Rd w w.heap.size Ab lb (byF bs)) (hb8 : ∀ i, bs.getD i 0 < 256) :
  Calls Tryz.prog 28 #[ntV N A c, wtsV Al Ah (n + 1) (n + 1) cl ch, .slice Ab lb cb] w fun e w' => e = .returned (tkV (tkR N n lo hi bs)) ∧ Below w.heap.size w w' := by
 obtain ⟨R, hR⟩ : ∃ R, tkR N n lo hi bs = R := ⟨_, rfl⟩;obtain ⟨E, hE⟩ : ∃ E, wfit N n lo hi = E := ⟨_, rfl⟩;have htot := fun W hN hT hlo hhi => total_fit W N A c cl ch n lo hi Al Ah hN hv hn hT hin hW hlo hhi hc1 hc2 _ E hE.symm rfl;have hR0 := hR;unfold tkR at hR;rw [hR0];rw [hE] at hR;have HR := zqh hR;have HBS := zqh hbs;have HB8 := zqh hb8;clear hR hR0 hb8;obtain ⟨Nn, l⟩ := N;simp only at hn;subst hn;have q0 := ((((Bag.zero w).new #[.int .i64 (n : Int), .slice A l.length c] 24 w.heap.size 2 rfl rfl).new #[.slice Al (n + 1) cl, .slice Ah (n + 1) ch] 46 (w.heap.size + 1) 2 (by simp) rfl).new #[.int .u64 0, .int .u64 0] 30 (w.heap.size + 1 + 1) 2 (by simp) rfl);by_cases h0 : E = 0
 ·subst h0
  have hEf : WtFit ⟨(n : Int), l⟩ n lo hi := by
   have := wfit_zero hv hE;refine ⟨hW, ?_, by omega⟩;unfold wfit at hE;by_cases h : cchk ⟨(n : Int), l⟩ = 0
   ·exact h
   ·rw [if_neg h] at hE; exact absurd hE h
  have hsp := sum_Sp hv rfl hEf;have hRR := HR.out;rw [if_pos rfl] at hRR;unfold totN at hRR;have hch := fun W r (hN : NtAt W W.heap.size A l) hT hlo hhi hr => choice_any W ⟨(n : Int), l⟩ A c cl ch n r lo hi Al Ah hN hv rfl hn2 hT hin hEf hlo hhi hr;simp only [if_true] at htot;obtain ⟨T, hTT⟩ : ∃ T, (RP n lo hi).sum ⟨(n : Int), l⟩ = T := ⟨_, rfl⟩;rw [hTT] at htot hsp hRR;obtain ⟨Tn, Td⟩ := T;simp only at hRR;have hs1 := hsp.1;simp only at hs1;have hcm := fun W => cmp_any W Tn 0 (by omega) (by rw [n8_zero]; omega);rw [natV_zero] at hcm;have hdr := fun W hp hbs => draw_any W Tn lb cb bs Ab hp hs1 hl hl2 hbs HB8.out;have HTOT := zqh htot;have HCM := zqh hcm;have HDR := zqh hdr;have HCH := zqh hch;clear htot hcm hdr hch hTT hE HR hsp hEf hin hW hl2 hl hv;by_cases hz : Tn = 0
  ·rw [if_pos hz] at hRR;subst hRR;have hz2 := (cmpN_zero Tn).2 hz;have HZ2 := zqh hz2
   have hbz : (cmpN Tn 0 == 0) = true := by rw [hz2]; rfl
   clear hz hz2
   generalize cmpN Tn 0 = M at *
   go_enter Tryz.func28, Tryz.ntmps28
   go_wp2_with (first
    | (go_at_call 40
       (with_reducible refine (HTOT.out _ ((hN.below q0.bl).more q0.bl.size) (hT.below q0.bl) ((hlo.below q0.bl).more q0.bl.size) ((hhi.below q0.bl).more q0.bl.size)).mono ?_)
       rintro e w5 ⟨rfl, hb5⟩;have q1 := q0.below hb5;have s0 := (q1.rows (w.heap.size, 24, 2, #[.int .i64 (n : Int), .slice A l.length c]) (by simp)).lt;have m00 := q1.is (w.heap.size) 2 24 #[.int .i64 (n : Int), .slice A l.length c] (by simp) 0 (by decide) (.int .i64 (n : Int)) rfl;have m01 := q1.is (w.heap.size) 2 24 #[.int .i64 (n : Int), .slice A l.length c] (by simp) 1 (by decide) (.slice A l.length c) rfl;simp only at s0;have s1 := (q1.rows (w.heap.size + 1, 46, 2, #[.slice Al (n + 1) cl, .slice Ah (n + 1) ch]) (by simp)).lt;have m10 := q1.is (w.heap.size + 1) 2 46 #[.slice Al (n + 1) cl, .slice Ah (n + 1) ch] (by simp) 0 (by decide) (.slice Al (n + 1) cl) rfl;have m11 := q1.is (w.heap.size + 1) 2 46 #[.slice Al (n + 1) cl, .slice Ah (n + 1) ch] (by simp) 1 (by decide) (.slice Ah (n + 1) ch) rfl;simp only at s1;have s2 := (q1.rows (w.heap.size + 1 + 1, 30, 2, #[.int .u64 0, .int .u64 0]) (by simp)).lt;have m20 := q1.is (w.heap.size + 1 + 1) 2 30 #[.int .u64 0, .int .u64 0] (by simp) 0 (by decide) (.int .u64 0) rfl;have f20 := (q1.rows (w.heap.size + 1 + 1, 30, 2, #[.int .u64 0, .int .u64 0]) (by simp)).frozen 0;have m21 := q1.is (w.heap.size + 1 + 1) 2 30 #[.int .u64 0, .int .u64 0] (by simp) 1 (by decide) (.int .u64 0) rfl;have f21 := (q1.rows (w.heap.size + 1 + 1, 30, 2, #[.int .u64 0, .int .u64 0]) (by simp)).frozen 1;simp only at s2
       clear hb5)
    | (go_at_call 51
       (with_reducible refine (num_any _ Tn Td).mono ?_)
       rintro e w5 ⟨rfl, hb5⟩;have q2 := (q1.new #[.string (natB Tn), .string (natB Td)] 74 _ 2 rfl rfl).below hb5;have s0 := (q2.rows (w.heap.size, 24, 2, #[.int .i64 (n : Int), .slice A l.length c]) (by simp)).lt;have m00 := q2.is (w.heap.size) 2 24 #[.int .i64 (n : Int), .slice A l.length c] (by simp) 0 (by decide) (.int .i64 (n : Int)) rfl;have m01 := q2.is (w.heap.size) 2 24 #[.int .i64 (n : Int), .slice A l.length c] (by simp) 1 (by decide) (.slice A l.length c) rfl;simp only at s0;have s1 := (q2.rows (w.heap.size + 1, 46, 2, #[.slice Al (n + 1) cl, .slice Ah (n + 1) ch]) (by simp)).lt;have m10 := q2.is (w.heap.size + 1) 2 46 #[.slice Al (n + 1) cl, .slice Ah (n + 1) ch] (by simp) 0 (by decide) (.slice Al (n + 1) cl) rfl;have m11 := q2.is (w.heap.size + 1) 2 46 #[.slice Al (n + 1) cl, .slice Ah (n + 1) ch] (by simp) 1 (by decide) (.slice Ah (n + 1) ch) rfl;simp only at s1;have s2 := (q2.rows (w.heap.size + 1 + 1, 30, 2, #[.int .u64 0, .int .u64 0]) (by simp)).lt;have m20 := q2.is (w.heap.size + 1 + 1) 2 30 #[.int .u64 0, .int .u64 0] (by simp) 0 (by decide) (.int .u64 0) rfl;have f20 := (q2.rows (w.heap.size + 1 + 1, 30, 2, #[.int .u64 0, .int .u64 0]) (by simp)).frozen 0;have m21 := q2.is (w.heap.size + 1 + 1) 2 30 #[.int .u64 0, .int .u64 0] (by simp) 1 (by decide) (.int .u64 0) rfl;have f21 := (q2.rows (w.heap.size + 1 + 1, 30, 2, #[.int .u64 0, .int .u64 0]) (by simp)).frozen 1;simp only at s2
       clear hb5)
    | (go_at_call 30
       (with_reducible refine (HCM.out _).mono ?_)
       rintro e w5 ⟨rfl, hb5⟩;have q3 := (q2.new #[.string (natB Tn)] 59 _ 1 rfl rfl).below hb5;have s0 := (q3.rows (w.heap.size, 24, 2, #[.int .i64 (n : Int), .slice A l.length c]) (by simp)).lt;have m00 := q3.is (w.heap.size) 2 24 #[.int .i64 (n : Int), .slice A l.length c] (by simp) 0 (by decide) (.int .i64 (n : Int)) rfl;have m01 := q3.is (w.heap.size) 2 24 #[.int .i64 (n : Int), .slice A l.length c] (by simp) 1 (by decide) (.slice A l.length c) rfl;simp only at s0;have s1 := (q3.rows (w.heap.size + 1, 46, 2, #[.slice Al (n + 1) cl, .slice Ah (n + 1) ch]) (by simp)).lt;have m10 := q3.is (w.heap.size + 1) 2 46 #[.slice Al (n + 1) cl, .slice Ah (n + 1) ch] (by simp) 0 (by decide) (.slice Al (n + 1) cl) rfl;have m11 := q3.is (w.heap.size + 1) 2 46 #[.slice Al (n + 1) cl, .slice Ah (n + 1) ch] (by simp) 1 (by decide) (.slice Ah (n + 1) ch) rfl;simp only at s1;have s2 := (q3.rows (w.heap.size + 1 + 1, 30, 2, #[.int .u64 0, .int .u64 0]) (by simp)).lt;have m20 := q3.is (w.heap.size + 1 + 1) 2 30 #[.int .u64 0, .int .u64 0] (by simp) 0 (by decide) (.int .u64 0) rfl;have f20 := (q3.rows (w.heap.size + 1 + 1, 30, 2, #[.int .u64 0, .int .u64 0]) (by simp)).frozen 0;have m21 := q3.is (w.heap.size + 1 + 1) 2 30 #[.int .u64 0, .int .u64 0] (by simp) 1 (by decide) (.int .u64 0) rfl;have f21 := (q3.rows (w.heap.size + 1 + 1, 30, 2, #[.int .u64 0, .int .u64 0]) (by simp)).frozen 1;simp only at s2;have k1 := q3.is0 0 (by decide) (.string (natB Tn)) rfl;have k2 := q3.lt0
       clear hb5))
   exact ret_take rfl (Tk.no 3) rfl rfl rfl rfl (pairRow (q3.rows (w.heap.size + 1 + 1, 30, 2, #[.int .u64 0, .int .u64 0]) (by simp)) _ _) (no_lo _ _) (no_hi _ _) rfl ⟨rfl, (q3.bl.setCell (by simp <;> omega) _).setCell (by simp <;> omega) _⟩
  ·rw [if_neg hz] at hRR;have hbz : (cmpN Tn 0 == 0) = false := beq_eq_false_iff_ne.2 fun h => hz ((cmpN_zero Tn).1 h)
   generalize cmpN Tn 0 = M at *
   obtain ⟨D, hD⟩ : ∃ D, drawN Tn bs = D := ⟨_, rfl⟩;rw [hD] at hRR;rcases D with _ | ⟨r, u⟩
   ·have HD := zqh hD;subst hRR;clear hD
    go_enter Tryz.func28, Tryz.ntmps28
    go_wp2_with (first
     | (go_at_call 40
        (with_reducible refine (HTOT.out _ ((hN.below q0.bl).more q0.bl.size) (hT.below q0.bl) ((hlo.below q0.bl).more q0.bl.size) ((hhi.below q0.bl).more q0.bl.size)).mono ?_)
        rintro e w5 ⟨rfl, hb5⟩;have q1 := q0.below hb5;have s0 := (q1.rows (w.heap.size, 24, 2, #[.int .i64 (n : Int), .slice A l.length c]) (by simp)).lt;have m00 := q1.is (w.heap.size) 2 24 #[.int .i64 (n : Int), .slice A l.length c] (by simp) 0 (by decide) (.int .i64 (n : Int)) rfl;have m01 := q1.is (w.heap.size) 2 24 #[.int .i64 (n : Int), .slice A l.length c] (by simp) 1 (by decide) (.slice A l.length c) rfl;simp only at s0;have s1 := (q1.rows (w.heap.size + 1, 46, 2, #[.slice Al (n + 1) cl, .slice Ah (n + 1) ch]) (by simp)).lt;have m10 := q1.is (w.heap.size + 1) 2 46 #[.slice Al (n + 1) cl, .slice Ah (n + 1) ch] (by simp) 0 (by decide) (.slice Al (n + 1) cl) rfl;have m11 := q1.is (w.heap.size + 1) 2 46 #[.slice Al (n + 1) cl, .slice Ah (n + 1) ch] (by simp) 1 (by decide) (.slice Ah (n + 1) ch) rfl;simp only at s1;have s2 := (q1.rows (w.heap.size + 1 + 1, 30, 2, #[.int .u64 0, .int .u64 0]) (by simp)).lt;have m20 := q1.is (w.heap.size + 1 + 1) 2 30 #[.int .u64 0, .int .u64 0] (by simp) 0 (by decide) (.int .u64 0) rfl;have f20 := (q1.rows (w.heap.size + 1 + 1, 30, 2, #[.int .u64 0, .int .u64 0]) (by simp)).frozen 0;have m21 := q1.is (w.heap.size + 1 + 1) 2 30 #[.int .u64 0, .int .u64 0] (by simp) 1 (by decide) (.int .u64 0) rfl;have f21 := (q1.rows (w.heap.size + 1 + 1, 30, 2, #[.int .u64 0, .int .u64 0]) (by simp)).frozen 1;simp only at s2
        clear hb5)
     | (go_at_call 51
        (with_reducible refine (num_any _ Tn Td).mono ?_)
        rintro e w5 ⟨rfl, hb5⟩;have q2 := (q1.new #[.string (natB Tn), .string (natB Td)] 74 _ 2 rfl rfl).below hb5;have s0 := (q2.rows (w.heap.size, 24, 2, #[.int .i64 (n : Int), .slice A l.length c]) (by simp)).lt;have m00 := q2.is (w.heap.size) 2 24 #[.int .i64 (n : Int), .slice A l.length c] (by simp) 0 (by decide) (.int .i64 (n : Int)) rfl;have m01 := q2.is (w.heap.size) 2 24 #[.int .i64 (n : Int), .slice A l.length c] (by simp) 1 (by decide) (.slice A l.length c) rfl;simp only at s0;have s1 := (q2.rows (w.heap.size + 1, 46, 2, #[.slice Al (n + 1) cl, .slice Ah (n + 1) ch]) (by simp)).lt;have m10 := q2.is (w.heap.size + 1) 2 46 #[.slice Al (n + 1) cl, .slice Ah (n + 1) ch] (by simp) 0 (by decide) (.slice Al (n + 1) cl) rfl;have m11 := q2.is (w.heap.size + 1) 2 46 #[.slice Al (n + 1) cl, .slice Ah (n + 1) ch] (by simp) 1 (by decide) (.slice Ah (n + 1) ch) rfl;simp only at s1;have s2 := (q2.rows (w.heap.size + 1 + 1, 30, 2, #[.int .u64 0, .int .u64 0]) (by simp)).lt;have m20 := q2.is (w.heap.size + 1 + 1) 2 30 #[.int .u64 0, .int .u64 0] (by simp) 0 (by decide) (.int .u64 0) rfl;have f20 := (q2.rows (w.heap.size + 1 + 1, 30, 2, #[.int .u64 0, .int .u64 0]) (by simp)).frozen 0;have m21 := q2.is (w.heap.size + 1 + 1) 2 30 #[.int .u64 0, .int .u64 0] (by simp) 1 (by decide) (.int .u64 0) rfl;have f21 := (q2.rows (w.heap.size + 1 + 1, 30, 2, #[.int .u64 0, .int .u64 0]) (by simp)).frozen 1;simp only at s2
        clear hb5)
     | (go_at_call 30
        (with_reducible refine (HCM.out _).mono ?_)
        rintro e w5 ⟨rfl, hb5⟩;have q3 := (q2.new #[.string (natB Tn)] 59 _ 1 rfl rfl).below hb5;have s0 := (q3.rows (w.heap.size, 24, 2, #[.int .i64 (n : Int), .slice A l.length c]) (by simp)).lt;have m00 := q3.is (w.heap.size) 2 24 #[.int .i64 (n : Int), .slice A l.length c] (by simp) 0 (by decide) (.int .i64 (n : Int)) rfl;have m01 := q3.is (w.heap.size) 2 24 #[.int .i64 (n : Int), .slice A l.length c] (by simp) 1 (by decide) (.slice A l.length c) rfl;simp only at s0;have s1 := (q3.rows (w.heap.size + 1, 46, 2, #[.slice Al (n + 1) cl, .slice Ah (n + 1) ch]) (by simp)).lt;have m10 := q3.is (w.heap.size + 1) 2 46 #[.slice Al (n + 1) cl, .slice Ah (n + 1) ch] (by simp) 0 (by decide) (.slice Al (n + 1) cl) rfl;have m11 := q3.is (w.heap.size + 1) 2 46 #[.slice Al (n + 1) cl, .slice Ah (n + 1) ch] (by simp) 1 (by decide) (.slice Ah (n + 1) ch) rfl;simp only at s1;have s2 := (q3.rows (w.heap.size + 1 + 1, 30, 2, #[.int .u64 0, .int .u64 0]) (by simp)).lt;have m20 := q3.is (w.heap.size + 1 + 1) 2 30 #[.int .u64 0, .int .u64 0] (by simp) 0 (by decide) (.int .u64 0) rfl;have f20 := (q3.rows (w.heap.size + 1 + 1, 30, 2, #[.int .u64 0, .int .u64 0]) (by simp)).frozen 0;have m21 := q3.is (w.heap.size + 1 + 1) 2 30 #[.int .u64 0, .int .u64 0] (by simp) 1 (by decide) (.int .u64 0) rfl;have f21 := (q3.rows (w.heap.size + 1 + 1, 30, 2, #[.int .u64 0, .int .u64 0]) (by simp)).frozen 1;simp only at s2;have k1 := q3.is0 0 (by decide) (.string (natB Tn)) rfl;have k2 := q3.lt0
        clear hb5)
     | (go_at_call 52
        (with_reducible refine (HDR.out _ (by omega) ((HBS.out.below q3.bl).more q3.bl.size)).mono ?_)
        rintro e w5 ⟨he5, hb5⟩;have q4 := q3.below hb5;have s0 := (q4.rows (w.heap.size, 24, 2, #[.int .i64 (n : Int), .slice A l.length c]) (by simp)).lt;have m00 := q4.is (w.heap.size) 2 24 #[.int .i64 (n : Int), .slice A l.length c] (by simp) 0 (by decide) (.int .i64 (n : Int)) rfl;have m01 := q4.is (w.heap.size) 2 24 #[.int .i64 (n : Int), .slice A l.length c] (by simp) 1 (by decide) (.slice A l.length c) rfl;simp only at s0;have s1 := (q4.rows (w.heap.size + 1, 46, 2, #[.slice Al (n + 1) cl, .slice Ah (n + 1) ch]) (by simp)).lt;have m10 := q4.is (w.heap.size + 1) 2 46 #[.slice Al (n + 1) cl, .slice Ah (n + 1) ch] (by simp) 0 (by decide) (.slice Al (n + 1) cl) rfl;have m11 := q4.is (w.heap.size + 1) 2 46 #[.slice Al (n + 1) cl, .slice Ah (n + 1) ch] (by simp) 1 (by decide) (.slice Ah (n + 1) ch) rfl;simp only at s1;have s2 := (q4.rows (w.heap.size + 1 + 1, 30, 2, #[.int .u64 0, .int .u64 0]) (by simp)).lt;have m20 := q4.is (w.heap.size + 1 + 1) 2 30 #[.int .u64 0, .int .u64 0] (by simp) 0 (by decide) (.int .u64 0) rfl;have f20 := (q4.rows (w.heap.size + 1 + 1, 30, 2, #[.int .u64 0, .int .u64 0]) (by simp)).frozen 0;have m21 := q4.is (w.heap.size + 1 + 1) 2 30 #[.int .u64 0, .int .u64 0] (by simp) 1 (by decide) (.int .u64 0) rfl;have f21 := (q4.rows (w.heap.size + 1 + 1, 30, 2, #[.int .u64 0, .int .u64 0]) (by simp)).frozen 1;simp only at s2;rw [HD.out, drV_none] at he5;subst he5
        clear hb5))
    exact ret_take rfl (Tk.no 0) rfl rfl rfl rfl ((pairRow (q4.rows (w.heap.size + 1 + 1, 30, 2, #[.int .u64 0, .int .u64 0]) (by simp)) _ _).alloc _) (no_lo _ _) (no_hi _ _) rfl ⟨rfl, ((q4.bl.setCell (by simp <;> omega) _).setCell (by simp <;> omega) _).alloc (by rw [size_setCell, size_setCell]; exact q4.bl.size) _⟩
   ·have hrn : n8 r ≤ 100000 := Nat.le_trans (n8_mono (Nat.le_of_lt (drawN_at hD).2.1)) hs1;have HRN := zqh hrn;have HD := zqh hD;have HRR := zqh hRR;clear hD hrn hRR
    go_enter Tryz.func28, Tryz.ntmps28
    go_wp2_with (first
     | (go_at_call 40
        (with_reducible refine (HTOT.out _ ((hN.below q0.bl).more q0.bl.size) (hT.below q0.bl) ((hlo.below q0.bl).more q0.bl.size) ((hhi.below q0.bl).more q0.bl.size)).mono ?_)
        rintro e w5 ⟨rfl, hb5⟩;have q1 := q0.below hb5;have s0 := (q1.rows (w.heap.size, 24, 2, #[.int .i64 (n : Int), .slice A l.length c]) (by simp)).lt;have m00 := q1.is (w.heap.size) 2 24 #[.int .i64 (n : Int), .slice A l.length c] (by simp) 0 (by decide) (.int .i64 (n : Int)) rfl;have m01 := q1.is (w.heap.size) 2 24 #[.int .i64 (n : Int), .slice A l.length c] (by simp) 1 (by decide) (.slice A l.length c) rfl;simp only at s0;have s1 := (q1.rows (w.heap.size + 1, 46, 2, #[.slice Al (n + 1) cl, .slice Ah (n + 1) ch]) (by simp)).lt;have m10 := q1.is (w.heap.size + 1) 2 46 #[.slice Al (n + 1) cl, .slice Ah (n + 1) ch] (by simp) 0 (by decide) (.slice Al (n + 1) cl) rfl;have m11 := q1.is (w.heap.size + 1) 2 46 #[.slice Al (n + 1) cl, .slice Ah (n + 1) ch] (by simp) 1 (by decide) (.slice Ah (n + 1) ch) rfl;simp only at s1;have s2 := (q1.rows (w.heap.size + 1 + 1, 30, 2, #[.int .u64 0, .int .u64 0]) (by simp)).lt;have m20 := q1.is (w.heap.size + 1 + 1) 2 30 #[.int .u64 0, .int .u64 0] (by simp) 0 (by decide) (.int .u64 0) rfl;have f20 := (q1.rows (w.heap.size + 1 + 1, 30, 2, #[.int .u64 0, .int .u64 0]) (by simp)).frozen 0;have m21 := q1.is (w.heap.size + 1 + 1) 2 30 #[.int .u64 0, .int .u64 0] (by simp) 1 (by decide) (.int .u64 0) rfl;have f21 := (q1.rows (w.heap.size + 1 + 1, 30, 2, #[.int .u64 0, .int .u64 0]) (by simp)).frozen 1;simp only at s2
        clear hb5)
     | (go_at_call 51
        (with_reducible refine (num_any _ Tn Td).mono ?_)
        rintro e w5 ⟨rfl, hb5⟩;have q2 := (q1.new #[.string (natB Tn), .string (natB Td)] 74 _ 2 rfl rfl).below hb5;have s0 := (q2.rows (w.heap.size, 24, 2, #[.int .i64 (n : Int), .slice A l.length c]) (by simp)).lt;have m00 := q2.is (w.heap.size) 2 24 #[.int .i64 (n : Int), .slice A l.length c] (by simp) 0 (by decide) (.int .i64 (n : Int)) rfl;have m01 := q2.is (w.heap.size) 2 24 #[.int .i64 (n : Int), .slice A l.length c] (by simp) 1 (by decide) (.slice A l.length c) rfl;simp only at s0;have s1 := (q2.rows (w.heap.size + 1, 46, 2, #[.slice Al (n + 1) cl, .slice Ah (n + 1) ch]) (by simp)).lt;have m10 := q2.is (w.heap.size + 1) 2 46 #[.slice Al (n + 1) cl, .slice Ah (n + 1) ch] (by simp) 0 (by decide) (.slice Al (n + 1) cl) rfl;have m11 := q2.is (w.heap.size + 1) 2 46 #[.slice Al (n + 1) cl, .slice Ah (n + 1) ch] (by simp) 1 (by decide) (.slice Ah (n + 1) ch) rfl;simp only at s1;have s2 := (q2.rows (w.heap.size + 1 + 1, 30, 2, #[.int .u64 0, .int .u64 0]) (by simp)).lt;have m20 := q2.is (w.heap.size + 1 + 1) 2 30 #[.int .u64 0, .int .u64 0] (by simp) 0 (by decide) (.int .u64 0) rfl;have f20 := (q2.rows (w.heap.size + 1 + 1, 30, 2, #[.int .u64 0, .int .u64 0]) (by simp)).frozen 0;have m21 := q2.is (w.heap.size + 1 + 1) 2 30 #[.int .u64 0, .int .u64 0] (by simp) 1 (by decide) (.int .u64 0) rfl;have f21 := (q2.rows (w.heap.size + 1 + 1, 30, 2, #[.int .u64 0, .int .u64 0]) (by simp)).frozen 1;simp only at s2
        clear hb5)
     | (go_at_call 30
        (with_reducible refine (HCM.out _).mono ?_)
        rintro e w5 ⟨rfl, hb5⟩;have q3 := (q2.new #[.string (natB Tn)] 59 _ 1 rfl rfl).below hb5;have s0 := (q3.rows (w.heap.size, 24, 2, #[.int .i64 (n : Int), .slice A l.length c]) (by simp)).lt;have m00 := q3.is (w.heap.size) 2 24 #[.int .i64 (n : Int), .slice A l.length c] (by simp) 0 (by decide) (.int .i64 (n : Int)) rfl;have m01 := q3.is (w.heap.size) 2 24 #[.int .i64 (n : Int), .slice A l.length c] (by simp) 1 (by decide) (.slice A l.length c) rfl;simp only at s0;have s1 := (q3.rows (w.heap.size + 1, 46, 2, #[.slice Al (n + 1) cl, .slice Ah (n + 1) ch]) (by simp)).lt;have m10 := q3.is (w.heap.size + 1) 2 46 #[.slice Al (n + 1) cl, .slice Ah (n + 1) ch] (by simp) 0 (by decide) (.slice Al (n + 1) cl) rfl;have m11 := q3.is (w.heap.size + 1) 2 46 #[.slice Al (n + 1) cl, .slice Ah (n + 1) ch] (by simp) 1 (by decide) (.slice Ah (n + 1) ch) rfl;simp only at s1;have s2 := (q3.rows (w.heap.size + 1 + 1, 30, 2, #[.int .u64 0, .int .u64 0]) (by simp)).lt;have m20 := q3.is (w.heap.size + 1 + 1) 2 30 #[.int .u64 0, .int .u64 0] (by simp) 0 (by decide) (.int .u64 0) rfl;have f20 := (q3.rows (w.heap.size + 1 + 1, 30, 2, #[.int .u64 0, .int .u64 0]) (by simp)).frozen 0;have m21 := q3.is (w.heap.size + 1 + 1) 2 30 #[.int .u64 0, .int .u64 0] (by simp) 1 (by decide) (.int .u64 0) rfl;have f21 := (q3.rows (w.heap.size + 1 + 1, 30, 2, #[.int .u64 0, .int .u64 0]) (by simp)).frozen 1;simp only at s2;have k1 := q3.is0 0 (by decide) (.string (natB Tn)) rfl;have k2 := q3.lt0
        clear hb5)
     | (go_at_call 52
        (with_reducible refine (HDR.out _ (by omega) ((HBS.out.below q3.bl).more q3.bl.size)).mono ?_)
        rintro e w5 ⟨he5, hb5⟩;have q4 := q3.below hb5;have s0 := (q4.rows (w.heap.size, 24, 2, #[.int .i64 (n : Int), .slice A l.length c]) (by simp)).lt;have m00 := q4.is (w.heap.size) 2 24 #[.int .i64 (n : Int), .slice A l.length c] (by simp) 0 (by decide) (.int .i64 (n : Int)) rfl;have m01 := q4.is (w.heap.size) 2 24 #[.int .i64 (n : Int), .slice A l.length c] (by simp) 1 (by decide) (.slice A l.length c) rfl;simp only at s0;have s1 := (q4.rows (w.heap.size + 1, 46, 2, #[.slice Al (n + 1) cl, .slice Ah (n + 1) ch]) (by simp)).lt;have m10 := q4.is (w.heap.size + 1) 2 46 #[.slice Al (n + 1) cl, .slice Ah (n + 1) ch] (by simp) 0 (by decide) (.slice Al (n + 1) cl) rfl;have m11 := q4.is (w.heap.size + 1) 2 46 #[.slice Al (n + 1) cl, .slice Ah (n + 1) ch] (by simp) 1 (by decide) (.slice Ah (n + 1) ch) rfl;simp only at s1;have s2 := (q4.rows (w.heap.size + 1 + 1, 30, 2, #[.int .u64 0, .int .u64 0]) (by simp)).lt;have m20 := q4.is (w.heap.size + 1 + 1) 2 30 #[.int .u64 0, .int .u64 0] (by simp) 0 (by decide) (.int .u64 0) rfl;have f20 := (q4.rows (w.heap.size + 1 + 1, 30, 2, #[.int .u64 0, .int .u64 0]) (by simp)).frozen 0;have m21 := q4.is (w.heap.size + 1 + 1) 2 30 #[.int .u64 0, .int .u64 0] (by simp) 1 (by decide) (.int .u64 0) rfl;have f21 := (q4.rows (w.heap.size + 1 + 1, 30, 2, #[.int .u64 0, .int .u64 0]) (by simp)).frozen 1;simp only at s2;rw [HD.out, drV_some] at he5;subst he5
        clear hb5)
     | (have q4N := q4.new #[.string (natB r)] 59 _ 1 rfl rfl
        go_at_call 53
        (with_reducible refine (HCH.out _ r ((hN.below q4N.bl).more q4N.bl.size) (hT.below q4N.bl) ((hlo.below q4N.bl).more q4N.bl.size) ((hhi.below q4N.bl).more q4N.bl.size) HRN.out).mono ?_)
        rintro e w5 ⟨rfl, hb5⟩;have q5 := q4N.below hb5;have s0 := (q5.rows (w.heap.size + 1 + 1, 30, 2, #[.int .u64 0, .int .u64 0]) (by simp)).lt;have m00 := q5.is (w.heap.size + 1 + 1) 2 30 #[.int .u64 0, .int .u64 0] (by simp) 0 (by decide) (.int .u64 0) rfl;have f00 := (q5.rows (w.heap.size + 1 + 1, 30, 2, #[.int .u64 0, .int .u64 0]) (by simp)).frozen 0;have m01 := q5.is (w.heap.size + 1 + 1) 2 30 #[.int .u64 0, .int .u64 0] (by simp) 1 (by decide) (.int .u64 0) rfl;have f01 := (q5.rows (w.heap.size + 1 + 1, 30, 2, #[.int .u64 0, .int .u64 0]) (by simp)).frozen 1;simp only at s0
        clear hb5))
    rw [← HRR.out];exact ret_take rfl (tkD ⟨(n : Int), l⟩ n lo hi (some (r, u))) rfl rfl rfl rfl (pairRow (q5.rows (w.heap.size + 1 + 1, 30, 2, #[.int .u64 0, .int .u64 0]) (by simp)) _ _) rfl rfl rfl ⟨rfl, (q5.bl.setCell (by simp <;> omega) _).setCell (by simp <;> omega) _⟩
 ·rw [if_neg h0] at htot;have hb0 : (E == 0) = false := beq_eq_false_iff_ne.2 h0
  have hb1 : (E != 0) = true := by simp [bne, hb0]
  have hRR := HR.out;rw [if_neg h0] at hRR;subst hRR;have HTOT := zqh htot;clear htot HR hE hW hin hv h0
  go_enter Tryz.func28, Tryz.ntmps28
  go_wp2_with (first
   | (go_at_call 40
      (with_reducible refine (HTOT.out _ ((hN.below q0.bl).more q0.bl.size) (hT.below q0.bl) ((hlo.below q0.bl).more q0.bl.size) ((hhi.below q0.bl).more q0.bl.size)).mono ?_)
      rintro e w5 ⟨rfl, hb5⟩;have q1 := q0.below hb5;have s0 := (q1.rows (w.heap.size, 24, 2, #[.int .i64 (n : Int), .slice A l.length c]) (by simp)).lt;have m00 := q1.is (w.heap.size) 2 24 #[.int .i64 (n : Int), .slice A l.length c] (by simp) 0 (by decide) (.int .i64 (n : Int)) rfl;have m01 := q1.is (w.heap.size) 2 24 #[.int .i64 (n : Int), .slice A l.length c] (by simp) 1 (by decide) (.slice A l.length c) rfl;simp only at s0;have s1 := (q1.rows (w.heap.size + 1, 46, 2, #[.slice Al (n + 1) cl, .slice Ah (n + 1) ch]) (by simp)).lt;have m10 := q1.is (w.heap.size + 1) 2 46 #[.slice Al (n + 1) cl, .slice Ah (n + 1) ch] (by simp) 0 (by decide) (.slice Al (n + 1) cl) rfl;have m11 := q1.is (w.heap.size + 1) 2 46 #[.slice Al (n + 1) cl, .slice Ah (n + 1) ch] (by simp) 1 (by decide) (.slice Ah (n + 1) ch) rfl;simp only at s1;have s2 := (q1.rows (w.heap.size + 1 + 1, 30, 2, #[.int .u64 0, .int .u64 0]) (by simp)).lt;have m20 := q1.is (w.heap.size + 1 + 1) 2 30 #[.int .u64 0, .int .u64 0] (by simp) 0 (by decide) (.int .u64 0) rfl;have f20 := (q1.rows (w.heap.size + 1 + 1, 30, 2, #[.int .u64 0, .int .u64 0]) (by simp)).frozen 0;have m21 := q1.is (w.heap.size + 1 + 1) 2 30 #[.int .u64 0, .int .u64 0] (by simp) 1 (by decide) (.int .u64 0) rfl;have f21 := (q1.rows (w.heap.size + 1 + 1, 30, 2, #[.int .u64 0, .int .u64 0]) (by simp)).frozen 1;simp only at s2
      clear hb5))
  exact ret_take rfl (Tk.no E) rfl rfl rfl rfl ((pairRow (q1.rows (w.heap.size + 1 + 1, 30, 2, #[.int .u64 0, .int .u64 0]) (by simp)) _ _).alloc _) (no_lo _ _) (no_hi _ _) rfl ⟨rfl, ((q1.bl.setCell (by simp <;> omega) _).setCell (by simp <;> omega) _).alloc (by rw [size_setCell, size_setCell]; exact q1.bl.size) _⟩
end Go.Proofs.YtgnobohfnhpkdaaGreatDoor
end
section
open Go Go.RowKit Cs
namespace Cs
theorem n8_sum (N : Nt) (hc : cchk N = 0) : n8 ((RN 0).sum N) ≤ 100000 := by
 have hv := cchk_vld hc;obtain ⟨hn0, hn1, _, _⟩ := vld_bounds hv
 have hn : N.n = ((N.n.toNat : Nat) : Int) := by omega
 rw [← ones_tot hv hn];exact (sum_Sp hv hn (ones_fit (by omega) hc)).1
end Cs
namespace Go.Proofs.YtgnobohfnhpkdaaGreatDoor
theorem sdraw_any (w : World) (N : Nt) (A : Option Addr) (c lb cb : Nat) (bs : List Nat) (Ab : Option Addr) (hlen : N.l.length ≤ 140737488355328) (hN : NtAt w w.heap.size A N.l) (hT : Tab w)
  (hin : ∀ k (hk : k < N.l.length), N.l[k].ins.length ≤ 1000000) (hl : bs.length = lb) (hl2 : lb ≤ 1000000) (hbs : Rd w w.heap.size Ab lb (byF bs)) (hb8 : ∀ i, bs.getD i 0 < 256) :
  Calls Tryz.prog 12 #[ntV N A c, .slice Ab lb cb] w fun e w' => e = .returned (tkV (dwR N bs)) ∧ Below w.heap.size w w' := by
 obtain ⟨R, hR⟩ : ∃ R, dwR N bs = R := ⟨_, rfl⟩;have hR0 := hR;obtain ⟨E, hE⟩ : ∃ E, cchk N = E := ⟨_, rfl⟩;have hct := fun W hN hT => count_any W N A c hlen hN hT;rw [hR0];rw [hE] at hct;have HCT := zqh hct;clear hct;have q0 := ((Bag.zero w).new #[.int .i64 N.n, .slice A N.l.length c] 24 w.heap.size 2 rfl rfl).new #[.int .u64 0, .int .u64 0] 30 (w.heap.size + 1) 2 (by simp) rfl;by_cases h0 : E = 0
 ·subst h0;have hv := cchk_vld hE;obtain ⟨hn0, hn1, hl0, hl1⟩ := vld_bounds hv;obtain ⟨Nn, l⟩ := N;obtain ⟨n, hn⟩ : ∃ n : Nat, Nn = (n : Int) := ⟨Nn.toNat, by simp only at hn0; omega⟩;subst hn
  have hn2 : n ≤ 128 := by simp only at hn1; omega
  rw [dw_tk hv rfl hn2 bs hE] at hR;have htk := fun W g1 g2 (hN : NtAt W W.heap.size A l) hT hlo hhi hbs => take_any W ⟨(n : Int), l⟩ A c (n + 1) (n + 1) n lb cb (onesP n) (onesP n) bs (some ⟨g1, 0, none⟩) (some ⟨g2, 0, none⟩) Ab hN hv rfl hn2 hT hin (ones_in n) hlo hhi (zqn _) (zqn _) hl hl2 hbs hb8;rw [hR] at htk;have HTK := zqh htk;have HBS := zqh hbs;clear htk hbs hb8 hin hl hl2 hv hE hR0 hR hn0 hn1 hl0 hl1;obtain ⟨C, hC⟩ : ∃ C, cntN ⟨(n : Int), l⟩ = C := ⟨_, rfl⟩;rw [hC] at HCT;clear hC;obtain ⟨Ra, Ru, Ro, Re⟩ := R;have HTV := zqh (show tkV ⟨Ra, Ru, Ro, Re⟩ = .tuple #[setV Ra, .int .i64 (Ru : Int), .bool Ro, .int .i64 Re] from rfl);rw [HTV.out] at HTK;have hmn : decide ((n : Int) < 0) = false := decide_eq_false (by omega);simp only at q0
  go_enter Tryz.func12, Tryz.ntmps12
  go_wp2_with (first
   | (go_at_call 26
      (with_reducible refine (HCT.out _ ((hN.below q0.bl).more q0.bl.size) (hT.below q0.bl)).mono ?_)
      rintro e w5 ⟨rfl, hb5⟩;have q1 := q0.below hb5;have s0 := (q1.rows (w.heap.size, 24, 2, #[.int .i64 (n : Int), .slice A l.length c]) (by simp)).lt;have m00 := q1.is (w.heap.size) 2 24 #[.int .i64 (n : Int), .slice A l.length c] (by simp) 0 (by decide) (.int .i64 (n : Int)) rfl;have m01 := q1.is (w.heap.size) 2 24 #[.int .i64 (n : Int), .slice A l.length c] (by simp) 1 (by decide) (.slice A l.length c) rfl;simp only at s0;have s1 := (q1.rows (w.heap.size + 1, 30, 2, #[.int .u64 0, .int .u64 0]) (by simp)).lt;have m10 := q1.is (w.heap.size + 1) 2 30 #[.int .u64 0, .int .u64 0] (by simp) 0 (by decide) (.int .u64 0) rfl;have f10 := (q1.rows (w.heap.size + 1, 30, 2, #[.int .u64 0, .int .u64 0]) (by simp)).frozen 0;have m11 := q1.is (w.heap.size + 1) 2 30 #[.int .u64 0, .int .u64 0] (by simp) 1 (by decide) (.int .u64 0) rfl;have f11 := (q1.rows (w.heap.size + 1, 30, 2, #[.int .u64 0, .int .u64 0]) (by simp)).frozen 1;simp only at s1
      clear hb5)
   | (go_at_call 27
      (with_reducible refine (ones_any _ n hn2).mono ?_)
      rintro e w5 ⟨g1, g2, rfl, hg12, hg1, hg2, hr1, hr2, hb5⟩;have q2 := (q1.new #[.string (natB C)] 59 _ 1 rfl rfl).below hb5;have s0 := (q2.rows (w.heap.size, 24, 2, #[.int .i64 (n : Int), .slice A l.length c]) (by simp)).lt;have m00 := q2.is (w.heap.size) 2 24 #[.int .i64 (n : Int), .slice A l.length c] (by simp) 0 (by decide) (.int .i64 (n : Int)) rfl;have m01 := q2.is (w.heap.size) 2 24 #[.int .i64 (n : Int), .slice A l.length c] (by simp) 1 (by decide) (.slice A l.length c) rfl;simp only at s0;have s1 := (q2.rows (w.heap.size + 1, 30, 2, #[.int .u64 0, .int .u64 0]) (by simp)).lt;have m10 := q2.is (w.heap.size + 1) 2 30 #[.int .u64 0, .int .u64 0] (by simp) 0 (by decide) (.int .u64 0) rfl;have f10 := (q2.rows (w.heap.size + 1, 30, 2, #[.int .u64 0, .int .u64 0]) (by simp)).frozen 0;have m11 := q2.is (w.heap.size + 1) 2 30 #[.int .u64 0, .int .u64 0] (by simp) 1 (by decide) (.int .u64 0) rfl;have f11 := (q2.rows (w.heap.size + 1, 30, 2, #[.int .u64 0, .int .u64 0]) (by simp)).frozen 1;simp only at s1;have l1 := hr1.lt;have l2 := hr2.lt
      clear hb5)
   | (have q3 := q2.new #[.slice (some ⟨g1, 0, none⟩) (n + 1) (n + 1), .slice (some ⟨g2, 0, none⟩) (n + 1) (n + 1)] 46 _ 2 rfl rfl
      go_at_call 28
      (with_reducible refine (HTK.out _ g1 g2 ((hN.below q3.bl).more q3.bl.size) (hT.below q3.bl) (Rd.of_row (hr1.alloc _) (zqn _) (by simp; omega)) (Rd.of_row (hr2.alloc _) (zqn _) (by simp; omega)) ((HBS.out.below q3.bl).more q3.bl.size)).mono ?_)
      rintro e w5 ⟨rfl, hb5⟩;have q4 := q3.below hb5;have s0 := (q4.rows (w.heap.size + 1, 30, 2, #[.int .u64 0, .int .u64 0]) (by simp)).lt;have m00 := q4.is (w.heap.size + 1) 2 30 #[.int .u64 0, .int .u64 0] (by simp) 0 (by decide) (.int .u64 0) rfl;have f00 := (q4.rows (w.heap.size + 1, 30, 2, #[.int .u64 0, .int .u64 0]) (by simp)).frozen 0;have m01 := q4.is (w.heap.size + 1) 2 30 #[.int .u64 0, .int .u64 0] (by simp) 1 (by decide) (.int .u64 0) rfl;have f01 := (q4.rows (w.heap.size + 1, 30, 2, #[.int .u64 0, .int .u64 0]) (by simp)).frozen 1;simp only at s0
      clear hb5))
  exact ret_take rfl (⟨Ra, Ru, Ro, Re⟩) rfl rfl rfl rfl (pairRow (q4.rows (w.heap.size + 1, 30, 2, #[.int .u64 0, .int .u64 0]) (by simp)) _ _) rfl rfl rfl ⟨rfl, (q4.bl.setCell (by simp <;> omega) _).setCell (by simp <;> omega) _⟩
 ·have hb0 : (E == 0) = false := beq_eq_false_iff_ne.2 h0
  have hb1 : (E != 0) = true := by simp [bne, hb0]
  have hRR := hR;unfold dwR at hRR;rw [hE, if_neg h0] at hRR;subst hRR;clear hR0 hR hE hin h0 hbs hb8 hl hl2;obtain ⟨C, hC⟩ : ∃ C, cntN N = C := ⟨_, rfl⟩;rw [hC] at HCT;clear hC;obtain ⟨Nn, l⟩ := N;simp only at q0
  go_enter Tryz.func12, Tryz.ntmps12
  go_wp2_with (first
   | (go_at_call 26
      (with_reducible refine (HCT.out _ ((hN.below q0.bl).more q0.bl.size) (hT.below q0.bl)).mono ?_)
      rintro e w5 ⟨rfl, hb5⟩;have q1 := q0.below hb5;have s0 := (q1.rows (w.heap.size, 24, 2, #[.int .i64 Nn, .slice A l.length c]) (by simp)).lt;have m00 := q1.is (w.heap.size) 2 24 #[.int .i64 Nn, .slice A l.length c] (by simp) 0 (by decide) (.int .i64 Nn) rfl;have m01 := q1.is (w.heap.size) 2 24 #[.int .i64 Nn, .slice A l.length c] (by simp) 1 (by decide) (.slice A l.length c) rfl;simp only at s0;have s1 := (q1.rows (w.heap.size + 1, 30, 2, #[.int .u64 0, .int .u64 0]) (by simp)).lt;have m10 := q1.is (w.heap.size + 1) 2 30 #[.int .u64 0, .int .u64 0] (by simp) 0 (by decide) (.int .u64 0) rfl;have f10 := (q1.rows (w.heap.size + 1, 30, 2, #[.int .u64 0, .int .u64 0]) (by simp)).frozen 0;have m11 := q1.is (w.heap.size + 1) 2 30 #[.int .u64 0, .int .u64 0] (by simp) 1 (by decide) (.int .u64 0) rfl;have f11 := (q1.rows (w.heap.size + 1, 30, 2, #[.int .u64 0, .int .u64 0]) (by simp)).frozen 1;simp only at s1
      clear hb5))
  exact ret_take rfl (Tk.no E) rfl rfl rfl rfl ((pairRow (q1.rows (w.heap.size + 1, 30, 2, #[.int .u64 0, .int .u64 0]) (by simp)) _ _).alloc _) (no_lo _ _) (no_hi _ _) rfl ⟨rfl, ((q1.bl.setCell (by simp <;> omega) _).setCell (by simp <;> omega) _).alloc (by rw [size_setCell, size_setCell]; exact q1.bl.size) _⟩
theorem need_any (w : World) (N : Nt) (A : Option Addr) (c : Nat) (hlen : N.l.length ≤ 140737488355328) (hN : NtAt w w.heap.size A N.l) (hT : Tab w) :
  Calls Tryz.prog 14 #[ntV N A c] w fun e w' => e = .returned (.tuple #[.int .i64 (needK N : Int), .int .i64 (needE N)]) ∧ Below w.heap.size w w' := by
 obtain ⟨K, hK⟩ : ∃ K, needK N = K := ⟨_, rfl⟩;obtain ⟨F, hF⟩ : ∃ F, needE N = F := ⟨_, rfl⟩;obtain ⟨E, hE⟩ : ∃ E, cchk N = E := ⟨_, rfl⟩;have hct := fun W hN hT => count_any W N A c hlen hN hT;rw [hK, hF];rw [hE] at hct;have HCT := zqh hct;clear hct;have q0 := (Bag.zero w).new #[.int .i64 N.n, .slice A N.l.length c] 24 w.heap.size 2 rfl rfl;unfold needK at hK;unfold needE at hF;rw [hE] at hK hF;by_cases h0 : E = 0
 ·subst h0;rw [if_pos rfl] at hK hF
  have hn8 : n8 (cntN N) ≤ 100000 := by
   unfold cntN;rw [if_pos hE];exact n8_sum N hE
  obtain ⟨C, hC⟩ : ∃ C, cntN N = C := ⟨_, rfl⟩;rw [hC] at HCT hn8 hK hF;have hcm := fun W => cmp_any W C 0 (by omega) (by rw [n8_zero]; omega);rw [natV_zero] at hcm;have HCM := zqh hcm;clear hC hcm hE;obtain ⟨Nn, l⟩ := N;simp only at q0;by_cases hz : C = 0
  ·rw [if_pos hz] at hF
   have hbz : (cmpN C 0 == 0) = true := by rw [(cmpN_zero C).2 hz]; rfl
   have hK0 : K = 0 := by rw [← hK, hz]; decide +kernel
   subst hF hK0;clear hK hz
   generalize cmpN C 0 = M at *
   go_enter Tryz.func14, Tryz.ntmps14
   go_wp2_with (first
    | (go_at_call 26
       (with_reducible refine (HCT.out _ ((hN.below q0.bl).more q0.bl.size) (hT.below q0.bl)).mono ?_)
       rintro e w5 ⟨rfl, hb5⟩;have q1 := q0.below hb5
       clear hb5)
    | (go_at_call 30
       (with_reducible refine (HCM.out _).mono ?_)
       rintro e w5 ⟨rfl, hb5⟩;have q2 := (q1.new #[.string (natB C)] 59 _ 1 rfl rfl).below hb5;have k1 := q2.is0 0 (by decide) (.string (natB C)) rfl
       clear hb5))
   go_ret2
   exact ⟨rfl, q2.bl⟩
  ·rw [if_neg hz] at hF;have hbz : (cmpN C 0 == 0) = false := beq_eq_false_iff_ne.2 fun h => hz ((cmpN_zero C).1 h);have hbo := fun W => bitsOf_any W C (by omega) hn8;rw [hK] at hbo;have HBO := zqh hbo;subst hF;clear hK hz hbo
   generalize cmpN C 0 = M at *
   go_enter Tryz.func14, Tryz.ntmps14
   go_wp2_with (first
    | (go_at_call 26
       (with_reducible refine (HCT.out _ ((hN.below q0.bl).more q0.bl.size) (hT.below q0.bl)).mono ?_)
       rintro e w5 ⟨rfl, hb5⟩;have q1 := q0.below hb5
       clear hb5)
    | (go_at_call 30
       (with_reducible refine (HCM.out _).mono ?_)
       rintro e w5 ⟨rfl, hb5⟩;have q2 := (q1.new #[.string (natB C)] 59 _ 1 rfl rfl).below hb5;have k1 := q2.is0 0 (by decide) (.string (natB C)) rfl
       clear hb5)
    | (go_at_call 31
       (with_reducible refine (HBO.out _).mono ?_)
       rintro e w5 ⟨rfl, hb5⟩;have q3 := q2.below hb5
       clear hb5))
   go_ret2
   exact ⟨rfl, q3.bl⟩
 ·have hb0 : (E == 0) = false := beq_eq_false_iff_ne.2 h0
  have hb1 : (E != 0) = true := by simp [bne, hb0]
  rw [if_neg h0] at hK hF;subst hK hF;obtain ⟨C, hC⟩ : ∃ C, cntN N = C := ⟨_, rfl⟩;rw [hC] at HCT;clear hC hE h0;obtain ⟨Nn, l⟩ := N;simp only at q0
  go_enter Tryz.func14, Tryz.ntmps14
  go_wp2_with (first
   | (go_at_call 26
      (with_reducible refine (HCT.out _ ((hN.below q0.bl).more q0.bl.size) (hT.below q0.bl)).mono ?_)
      rintro e w5 ⟨rfl, hb5⟩;have q1 := q0.below hb5
      clear hb5))
  go_ret2
  exact ⟨rfl, q1.bl.alloc (by have := q1.bl.size; omega) _⟩
end Go.Proofs.YtgnobohfnhpkdaaGreatDoor
end
