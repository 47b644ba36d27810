import Derived.Test.YtoljkoifgnmbgaaGreatDoorUb
import Derived.Test.YtoljkoifgnmbgaaGreatDoorDt
import Derived.Test.YtoljkoifgnmbgaaGreatDoorZa
set_option linter.unusedSimpArgs false
set_option linter.unusedVariables false
set_option maxRecDepth 100000
set_option maxHeartbeats 8000000
open Go Go.RowKit Cs
namespace Go.Proofs.YtoljkoifgnmbgaaGreatDoor
theorem ownsPr {w : World} {base n c : Nat} {e : TypeId} {A : Option Addr} {L : List Pr} (h : w.ownsRow base e 2 (.slice A n c) n ((List.range (n * 2)).map (prsF L))) (hn : 0 < n) : ∃ g, A = some ⟨g, 0, none⟩ ∧ base ≤ g ∧ g < w.heap.size ∧ n ≤ c ∧ PrR w g e (c * 2) n L := by
 obtain ⟨g, cap, F, e1, hg, hlt, hc, hr, hf⟩ := ownsRows h hn;injection e1 with e2 e3 e4
 subst e2; subst e4
 refine ⟨g, rfl, hg, hlt, hc, F, hr, fun i hi => ?_⟩;have := hf i hi
 have e5 : ((List.range (n * 2)).map (prsF L))[i]? = some (prsF L i) := by simp [hi]
 rw [e5] at this;exact (Option.some.inj this).symm
theorem WtsO.yes {w w' : World} {lo hi : List ByteArray} {e : Ending} {N : Nt} {n : Nat} (h : WtsO w lo hi e w') (hac : acOk N lo hi) (e1 : lo.length = n + 1) (e2 : hi.length = n + 1) :
  Below w.heap.size w w' ∧ ∃ gl gh cl ch, e = .returned (.tuple #[wtsV (some ⟨gl, 0, none⟩) (some ⟨gh, 0, none⟩) (n + 1) (n + 1) cl ch, .bool true]) ∧ w.heap.size ≤ gl ∧ w.heap.size ≤ gh ∧ gl < w'.heap.size ∧ gh < w'.heap.size ∧ gl ≠ gh ∧ n + 1 ≤ cl ∧ n + 1 ≤ ch ∧
   PrR w' gl 60 (cl * 2) (n + 1) (prL lo) ∧ PrR w' gh 60 (ch * 2) (n + 1) (prL hi) := by
 obtain ⟨⟨hb, hr⟩, h2⟩ := h;obtain ⟨Al, Ah, cl, ch, b, S1, S, he, hS1, hS, o1, o2, o3⟩ := h2 hac.1;rw [e1] at o1 o3;rw [e2] at o2;obtain ⟨gl, rfl, a1, a2, a3, a4⟩ := ownsPr o1 (by omega);obtain ⟨gh, rfl, b1, b2, b3, b4⟩ := ownsPr o2 (by omega);have hlt := o3 gl (by simp [Value.ownBlock])
 have hbt : b = true := by
  rcases hr with ⟨hn, _⟩ | ⟨_, Al', Ah', cl', ch', he', _⟩
  ·exact absurd hac.1 hn
  ·rw [he] at he';injection he' with he';injection he' with he';have := congrArg (fun a : Array Value => a[1]?) he';simp at this;rw [this, decide_eq_true hac.2.1.1, decide_eq_true hac.2.1.2]
   rfl
 subst hbt;rw [e1, e2] at he;exact ⟨hb, gl, gh, cl, ch, he, by omega, by omega, a2, b2, by omega, a3, b3, a4, b4⟩
structure ScAt (w2 : World) (n gw gl gh cm ck D B : Nat) (A4 : Option Addr) (T : List Int) (L1 L2 : List Pr) (W : World) : Prop where
 bl : Below w2.heap.size w2 W
 bw : W.rowIs gw 30 2 (arrF #[.slice (some ⟨gl, 0, none⟩) (n + 1) cm, .slice (some ⟨gh, 0, none⟩) (n + 1) ck])
 tm : RdK W D B A4 T.length (intF T)
 p1 : PrR W gl 60 (cm * 2) (n + 1) L1
 p2 : PrR W gh 60 (ck * 2) (n + 1) L2
section
variable {w2 W W' : World} {n gw gl gh cm ck D B : Nat} {A4 : Option Addr} {T : List Int} {L1 L2 : List Pr}
theorem rdk_set {W : World} {D B : Nat} {A : Option Addr} {m : Nat} {f : Nat → Value} (h : RdK W D B A m f) {x : Nat} (hx : x < D) (i : Nat) (v : Value) : RdK (W.setCell ⟨x, i, none⟩ v) D B A m f :=
 h.agree fun b a c => Below.heap_setCell _ _ _ _ (by show b ≠ x; omega)
theorem ScAt.set1 (h : ScAt w2 n gw gl gh cm ck D B A4 T L1 L2 W) (k : Nat) (hk : k < n + 1) (hL : L1.length = n + 1) (h1 : w2.heap.size ≤ gl) (h2 : gl ≠ gw) (h3 : gl < D) (h4 : gl ≠ gh) :
  ScAt w2 n gw gl gh cm ck D B A4 T (L1.set k (0, 0)) L2 ((W.setCell ⟨gl, k * 2, none⟩ (.string ⟨#[]⟩)).setCell ⟨gl, k * 2 + 1, none⟩ (.string ⟨#[]⟩)) := by
 have hp := h.p1.set (0, 0) k hk hL;rw [natB_zero] at hp;exact ⟨(h.bl.setCell h1 _).setCell h1 _, (h.bw.setOther (Ne.symm h2) _).setOther (Ne.symm h2) _, rdk_set (rdk_set h.tm h3 _ _) h3 _ _, hp, (h.p2.setOther (Ne.symm h4) _).setOther (Ne.symm h4) _⟩
theorem ScAt.set2 (h : ScAt w2 n gw gl gh cm ck D B A4 T L1 L2 W) (k : Nat) (hk : k < n + 1) (hL : L2.length = n + 1) (h1 : w2.heap.size ≤ gh) (h2 : gh ≠ gw) (h3 : gh < D) (h4 : gl ≠ gh) :
  ScAt w2 n gw gl gh cm ck D B A4 T L1 (L2.set k (0, 0)) ((W.setCell ⟨gh, k * 2, none⟩ (.string ⟨#[]⟩)).setCell ⟨gh, k * 2 + 1, none⟩ (.string ⟨#[]⟩)) := by
 have hp := h.p2.set (0, 0) k hk hL;rw [natB_zero] at hp;exact ⟨(h.bl.setCell h1 _).setCell h1 _, (h.bw.setOther (Ne.symm h2) _).setOther (Ne.symm h2) _, rdk_set (rdk_set h.tm h3 _ _) h3 _ _, (h.p1.setOther h4 _).setOther h4 _, hp⟩
theorem ScAt.size2 (W : World) (g a b : Nat) (u v : Value) : ((W.setCell ⟨g, a, none⟩ u).setCell ⟨g, b, none⟩ v).heap.size = W.heap.size := by rw [size_setCell, size_setCell]
end
theorem wfit_under {N : Nt} {n : Nat} {lo hi : List Pr} {S : List Int} {D : Nat} (ok : SesOk N n lo hi S D) (T : List Int) : wfit N n (wLo n lo T) (wHi n hi T) = 0 := by
 unfold wfit;rw [if_pos (cchk_ok ok.hv ok.hd ok.hs), if_neg];have := sumB_under (n := n) (lo := lo) (hi := hi) T n;have := ok.hb;omega
section
variable {N : Nt} {A Al Ah AL : Option Addr} {lo hi : List ByteArray} {L : List Int}
theorem uscratch_any (w : World) (c cl ch cL : Nat) (h : ActIn N A lo hi Al Ah AL L w) (hc : ActC N lo hi L) :
  Calls Tryz.prog 11 #[ntV N A c, .slice Al lo.length cl, .slice Ah hi.length ch, .slice AL L.length cL] w fun e w' => e = .returned (.bool true) ∧ Below w.heap.size w w' := by
 have hfw := fun W hN => fewU_any W N A AL c L.length cL hc.hlen hN;have o0 := zqh (oneNew w N A c h.nt);obtain ⟨m1, m2⟩ := o0.out.cells;have HT := zqh h.tb;have HI := zqh (h.below o0.out.bl);obtain ⟨F, hF⟩ : ∃ F, fewU N L.length = F := ⟨_, rfl⟩;rw [hF] at hfw;have HFW := zqh hfw;cases F
 ·clear hfw hF h hc
  go_enter Tryz.func11, Tryz.ntmps11
  go_wp2_with (first
   | (go_at_call 17; (with_reducible refine (HFW.out _ o0.out.nt).mono ?_); rintro e w1 ⟨rfl, hb⟩; have o1 := zqh (o0.out.below hb); clear hb m1 m2 o0)
   | (go_at_call 13; (with_reducible refine (works_any _ (HT.out.below o1.out.bl)).mono ?_); rintro e w2 ⟨rfl, hb⟩; have o2 := zqh (o1.out.below hb); clear hb o1))
  all_goals
   go_ret
   exact ⟨rfl, o2.out.bl⟩
 ·have hin := fewU_ins hF;have hll := fewU_len hF;have hac := fun W (hi' : ActIn N A lo hi Al Ah AL L W) => acted_in c cl ch cL hi' hc hin (by omega);have HAC := zqh hac;by_cases hok : acOk N lo hi
  ·have hy := fun (e : Ending) (W W' : World) (hr : ActR W N lo hi L e W') => hr.yes hok;obtain ⟨n, hn, e1, e2, ok0⟩ := acOk_ses hok (Nat.lt_succ_self _)
   have htn : N.n.toNat = n := by omega
   have htk := acOk_tk hok L;simp only [htn] at hy htk;have hrng := htk.rng;have hn2 := vn_le ok0.hv hn;have hwo := fun W (hI : ActIn N A lo hi Al Ah AL L W) => (weights_own W lo hi Al Ah cl ch hc.hl1 hc.hl2 hI.l1 hI.l2 hc.hs1 hc.hs2).mono fun e w' hr => WtsO.yes hr hok e1 e2
   have hat : ∀ D, 1 < D → ∀ T, TOk n T → SesOk N n (prL lo) (prL hi) T D := fun D hD T ht => by
    have := acOk_at hok hD (T := T) (by rw [htn]; exact ht);rw [htn] at this;exact this
   have hsv : vld N = true := ok0.hv;have hwt := ok0.wt;have hsw := sesW_small (hat _ (Nat.lt_succ_self _) _ htk)
   generalize actsT N.n L = T at *
   have hfit := fun W Al Ah cm ck hN hT h1 h2 h3 h4 => total_fit W N A c cm ck n (wLo n (prL lo) T) (wHi n (prL hi) T) Al Ah hN hsv hn hT hin (hwt.under T) h1 h2 h3 h4 (sesW N n (prL lo) (prL hi) T) 0 (wfit_under ok0 T).symm (by rw [if_pos rfl]);have hqc := fun W => qcmp_any W _ _ _ _ hsw.1 hsw.2 hsw.1 hsw.2
   have hcmp : ∀ a, cmpN a a = 0 := fun a => by unfold cmpN; rw [if_neg (by omega), if_pos rfl]
   simp only [hcmp] at hqc
   have hlen : T.length ≤ 128 := by have := htk.len; omega
   have hmem : ∀ k, k < T.length → 1 ≤ (T.getD k 0).natAbs ∧ (T.getD k 0).natAbs ≤ n := fun k hk => by
    have : T.getD k 0 ∈ T := by rw [List.getD_eq_getElem?_getD, List.getElem?_eq_getElem hk]; exact List.getElem_mem hk
    exact htk.rng _ this
   have htake : ∀ k, k < T.length → T.take (k + 1) = T.take k ++ [T.getD k 0] := fun k hk => by
    rw [List.take_add_one, List.getD_eq_getElem?_getD, List.getElem?_eq_getElem hk]
    rfl
   have hs1 : wLo n (prL lo) [] = prL lo := wLo_nil hwt.ll;have hs2 : wHi n (prL hi) [] = prL hi := wHi_nil hwt.lh;have HY := zqh hy;have HWO := zqh hwo;have HFT := zqh hfit;have HQC := zqh hqc;have HAT := zqh hat;have HTK := zqh htk;have HSV := zqh hsv;have HME := zqh hmem;have HTA := zqh htake;have HS1 := zqh hs1;have HS2 := zqh hs2;obtain ⟨Sx, hSx⟩ : ∃ S, sesW N n (prL lo) (prL hi) T = S := ⟨_, rfl⟩;have hwe := fun (v0 W : World) E g tv k (hT : Tab v0) (h : Lv v0 E g N n (prL lo) (prL hi) tv T k W) => h.weight (hat _ hT.lt _ htk) hT;rw [hSx] at hwe HFT HQC;have HWE := zqh hwe;clear hfw hF h hc hin hll hac hok hy hwo hat hsv hwt hsw hfit hqc hcmp hmem htake hs1 hs2 hSx hwe ok0 htk hrng e1 e2 htn hn;obtain ⟨a, b⟩ := Sx
   go_enter Tryz.func11, Tryz.ntmps11
   go_upto_region 8 with (first
    | (go_at_call 17; (with_reducible refine (HFW.out _ o0.out.nt).mono ?_); rintro e w1 ⟨rfl, hb⟩; have o1 := zqh (o0.out.below hb); have i1 := zqh (HI.out.below hb); obtain ⟨n1, n2⟩ := o1.out.cells; clear hb m1 m2 o0 HI)
    | (go_at_call 30; (with_reducible refine (HAC.out _ i1.out).mono ?_); rintro e w2 hr; obtain ⟨hb, g, E, tv, k, v0, rfl, hv0, s2⟩ := HY.out _ _ _ hr; have S2 := zqh s2; have o2 := zqh (o1.out.below hb); have i2 := zqh (i1.out.below hb); have TB0 := zqh (i1.out.tb.below hv0); clear hb hr n1 n2 o1 i1 hv0 s2)
    | (go_at_call 14; (with_reducible refine (HWO.out _ i2.out).mono ?_); rintro e w3 ⟨hb, gl, gh, cm, ck, rfl, hg1, hg2, hl1, hl2, hne, hc1, hc2, r1, r2⟩; have hb3 := (Below.refl w3.heap.size w3).alloc (zqn _) (.cells #[.slice (some ⟨gl, 0, none⟩) (n + 1) cm, .slice (some ⟨gh, 0, none⟩) (n + 1) ck] 30); have B3 := zqh (zqx hb hb3 hb.size); have P1 := zqh (r1.below hb3); have P2 := zqh (r2.below hb3); have BW := zqh (arrNew w3 #[.slice (some ⟨gl, 0, none⟩) (n + 1) cm, .slice (some ⟨gh, 0, none⟩) (n + 1) ck] 30 w3.heap.size 2 rfl rfl); clear hb hb3 r1 r2)
    | (go_at_call 26; (with_reducible refine (term_at (S2.out.below B3.out).ses HSV.out (by omega)).mono ?_); rintro e w4 ⟨A4, c4, rfl, hr4, hb4⟩; have Q4 := zqh (ScAt.mk (zqx B3.out hb4 B3.out.size) (rowBelow BW.out hb4) hr4 (P1.out.below hb4) (P2.out.below hb4)); clear hr4 hb4 B3 P1 P2 BW))
   clear HFW HAC HY HWO;obtain ⟨D, hD⟩ : ∃ D, (w3.alloc (.cells #[.slice (some ⟨gl, 0, none⟩) (n + 1) cm, .slice (some ⟨gh, 0, none⟩) (n + 1) ck] 30)).heap.size = D := ⟨_, rfl⟩;obtain ⟨gw, hgw⟩ : ∃ gw, w3.heap.size = gw := ⟨_, rfl⟩;rw [hD] at Q4;rw [World.size_alloc] at hD;rw [hgw] at hD Q4 hl1 hl2 ⊢;have HGW := zqh hgw;clear hgw
   go_wp2_with fail
   go_loopw [13] (fun t wr => ∃ k : Nat, k ≤ T.length ∧ t = .int .i64 (k : Int) ∧ ScAt w2 n gw gl gh cm ck D w4.heap.size A4 T (wLo n (prL lo) (T.take k)) (wHi n (prL hi) (T.take k)) wr ∧ w4.heap.size ≤ wr.heap.size) (fun t _ => T.length - (intOf t).toNat)
   case atStart => exact ⟨0, Nat.zero_le _, rfl, by rw [List.take_zero, HS1.out, HS2.out]; exact Q4.out, zqn _⟩
   case round =>
    obtain ⟨k, hk, rfl, q, hsz⟩ := hrel;have w0 : wr.cell? ⟨gw, 0, none⟩ = some (.slice (some ⟨gl, 0, none⟩) (n + 1) cm) := q.bw.cell (i := 0) (by decide);have w1 : wr.cell? ⟨gw, 1, none⟩ = some (.slice (some ⟨gh, 0, none⟩) (n + 1) ck) := q.bw.cell (i := 1) (by decide);by_cases hlt : k < T.length
    ·obtain ⟨b', o, rfl, _, hbA, hcA⟩ := q.tm (by omega);have cA0 := hcA k hlt
     have i1 : (0 : Int) ≤ (k : Int) := by omega
     have i2 : (k : Int) < (T.length : Int) := by omega
     have hta := HTA.out k hlt;obtain ⟨r1, r2⟩ := HME.out k hlt;obtain ⟨x, hx⟩ : ∃ y, T.getD k 0 = y := ⟨_, rfl⟩;rw [hx] at hta r1 r2
     have cA : wr.cell? ⟨b', o + k, none⟩ = some (.int .i64 x) := by rw [cA0]; unfold intF; rw [hx]
     clear hcA cA0 hx;have hlt2 := q.bl.size;by_cases hp : 0 < x
     ·obtain ⟨u, rfl⟩ : ∃ u : Nat, x = (u : Int) := ⟨x.toNat, by omega⟩;rw [Int.natAbs_natCast] at r1 r2;obtain ⟨f1, f2, f3, f4⟩ := q.p1.cells (by omega) u (by omega);have hset := q.set1 u (by omega) wLo_len hg1 (by omega) (by omega) hne
      have eL : wLo n (prL lo) (T.take (k + 1)) = (wLo n (prL lo) (T.take k)).set u (0, 0) := by rw [hta, wLo_snoc hp, Int.natAbs_natCast]
      have eH : wHi n (prL hi) (T.take (k + 1)) = wHi n (prL hi) (T.take k) := by rw [hta, wHi_same hp]
      rw [← eL, ← eH] at hset;have HSET := zqh hset;have d1 : decide ((u : Int) < 0) = false := decide_eq_false (by omega);have d2 : decide ((u : Int) < 1) = false := decide_eq_false (by omega);have d3 : decide ((n : Int) + 1 ≤ (u : Int)) = false := decide_eq_false (by omega);have d4 : decide ((0 : Int) < (u : Int)) = true := decide_eq_true (by omega)
      have i3 : (0 : Int) ≤ (u : Int) := by omega
      have i4 : (u : Int) < (n : Int) + 1 := by omega
      clear q hset eL eH hta
      go_wp2_with fail
      go_roundw
      case rel => exact ⟨k + 1, by omega, by go_num, HSET.out, by rw [ScAt.size2]; exact hsz⟩
      case measure => simp [intOf]; omega
     ·obtain ⟨u, rfl⟩ : ∃ u : Nat, x = -(u : Int) := ⟨(-x).toNat, by omega⟩;rw [Int.natAbs_neg, Int.natAbs_natCast] at r1 r2;obtain ⟨f1, f2, f3, f4⟩ := q.p2.cells (by omega) u (by omega);have hset := q.set2 u (by omega) wHi_len hg2 (by omega) (by omega) hne
      have eL : wLo n (prL lo) (T.take (k + 1)) = wLo n (prL lo) (T.take k) := by rw [hta, wLo_same (by omega)]
      have eH : wHi n (prL hi) (T.take (k + 1)) = (wHi n (prL hi) (T.take k)).set u (0, 0) := by rw [hta, wHi_snoc (by omega), Int.natAbs_neg, Int.natAbs_natCast]
      rw [← eL, ← eH] at hset;have HSET := zqh hset;have d1 : decide (-(u : Int) < 0) = true := decide_eq_true (by omega)
      have hwr : IntKind.i64.wrap (-(-(u : Int))) = (u : Int) := by rw [Int.neg_neg, IntKind.wrap_i64]; omega
      have hwr2 : IntKind.i64.wrap (u : Int) = (u : Int) := by rw [IntKind.wrap_i64]; omega
      have d2 : decide ((u : Int) < 1) = false := decide_eq_false (by omega);have d3 : decide ((n : Int) + 1 ≤ (u : Int)) = false := decide_eq_false (by omega);have d4 : decide ((0 : Int) < -(u : Int)) = false := decide_eq_false (by omega)
      have i3 : (0 : Int) ≤ (u : Int) := by omega
      have i4 : (u : Int) < (n : Int) + 1 := by omega
      clear q hset eL eH hta
      go_wp2_with fail
      go_roundw
      case rel => exact ⟨k + 1, by omega, by go_num, HSET.out, by rw [ScAt.size2]; exact hsz⟩
      case measure => simp [intOf]; omega
    ·obtain rfl : k = T.length := by omega
     rw [List.take_length] at q;have o5 := o2.out.below q.bl;obtain ⟨m1, m2⟩ := o5.cells;have HFX := zqh (HFT.out wr _ _ cm ck o5.nt (HT.out.below o5.bl) (q.p1.rd (by omega)) (q.p2.rd (by omega)) hc1 hc2);have HBQ := zqh q.bl;have HBO := zqh o5.bl;clear q o5
     go_wp2_with fail
     refine HFX.out.mono ?_;rintro e w5 ⟨rfl, hb⟩;have q5 := zqh ((Bag.zero w5).new #[.string (natB a), .string (natB b)] 60 w5.heap.size 2 rfl rfl);have B5 := zqh (zqx HBQ.out hb HBQ.out.size);have O5 := zqh (zqx HBO.out hb HBO.out.size);clear hb
     go_wp2_with fail
     refine (HWE.out _ _ _ _ _ _ TB0.out (S2.out.below (zqx B5.out q5.out.bl B5.out.size))).mono ?_;rintro e w6 ⟨rfl, hb⟩;have q6 := zqh ((q5.out.below hb).new #[.string (natB a), .string (natB b)] 60 w6.heap.size 2 rfl rfl);have c1 := q6.out.is w5.heap.size 2 60 #[.string (natB a), .string (natB b)] (by simp) 0 (by decide) (.string (natB a)) rfl;have c2 := q6.out.is w5.heap.size 2 60 #[.string (natB a), .string (natB b)] (by simp) 1 (by decide) (.string (natB b)) rfl;have c3 := q6.out.is w6.heap.size 2 60 #[.string (natB a), .string (natB b)] (by simp) 0 (by decide) (.string (natB a)) rfl;have c4 := q6.out.is w6.heap.size 2 60 #[.string (natB a), .string (natB b)] (by simp) 1 (by decide) (.string (natB b)) rfl;clear hb
     go_wp2_with fail
     refine (HQC.out _).mono ?_;rintro e w7 ⟨rfl, hb⟩;have q7 := zqh (q6.out.below hb);clear hb
     go_wp2_with fail
     refine (works_any _ (HT.out.below (zqx O5.out q7.out.bl O5.out.size))).mono ?_;rintro e w8 ⟨rfl, hb⟩;have q8 := zqh (q7.out.below hb);clear hb
     go_wp2_with fail
     go_ret
     exact ⟨rfl, zqx O5.out q8.out.bl O5.out.size⟩
  ·have hy := fun (e : Ending) (W W' : World) (hr : ActR W N lo hi L e W') => hr.no hok;have HY := zqh hy;clear hfw hF h hc hin hll hac hok hy
   go_enter Tryz.func11, Tryz.ntmps11
   go_wp2_with (first
    | (go_at_call 17; (with_reducible refine (HFW.out _ o0.out.nt).mono ?_); rintro e w1 ⟨rfl, hb⟩; have o1 := zqh (o0.out.below hb); have i1 := zqh (HI.out.below hb); obtain ⟨n1, n2⟩ := o1.out.cells; clear hb m1 m2 o0 HI)
    | (go_at_call 30; (with_reducible refine (HAC.out _ i1.out).mono ?_); rintro e w2 hr; obtain ⟨hb, rfl⟩ := HY.out _ _ _ hr; have o2 := zqh (o1.out.below hb); clear hb hr n1 n2 o1 i1)
    | (go_at_call 13; (with_reducible refine (works_any _ (HT.out.below o2.out.bl)).mono ?_); rintro e w4 ⟨rfl, hb⟩; have o4 := zqh (o2.out.below hb); clear hb o2))
   all_goals
    go_ret
    exact ⟨rfl, o4.out.bl⟩
end
end Go.Proofs.YtoljkoifgnmbgaaGreatDoor
