import Derived.Test.YtoljkoifgnmbgaaGreatDoorVl
import Derived.Test.YtoljkoifgnmbgaaGreatDoorYa
import Derived.Test.YtoljkoifgnmbgaaGreatDoorKl
import Derived.Test.YtoljkoifgnmbgaaGreatDoorCl
set_option linter.unusedSimpArgs false
set_option linter.unusedVariables false
section
open Go Go.RowKit Cs
namespace Cs
theorem nlit_one {n:Nat} {x l:Int} (h1:1≤l.natAbs) (h2:l.natAbs≤n):nlit n (cLo n [x]) (cHi n [x]) l=wt (-x) l:=by
 have h3:l.natAbs<n+1:=by omega
 unfold nlit wt;rw [if_pos ⟨h1,h2⟩,cLo_get,cHi_get,if_pos h3,if_pos h3];by_cases hl:l<0
 ·rw [if_pos hl];by_cases hx:l = -x
  ·rw [if_pos hx,if_pos (List.mem_singleton.2 (by omega))]
  ·rw [if_neg hx,if_neg (fun h=>hx (by have:=List.mem_singleton.1 h;omega))]
 ·rw [if_neg hl];by_cases hx:l = -x
  ·rw [if_pos hx,if_pos (List.mem_singleton.2 (by omega))]
  ·rw [if_neg hx,if_neg (fun h=>hx (by have:=List.mem_singleton.1 h;omega))]
theorem nlit_nil {n:Nat} {l:Int} (h1:1≤l.natAbs) (h2:l.natAbs≤n):nlit n (cLo n []) (cHi n []) l=wt 0 l:=by
 have h3:l.natAbs<n+1:=by omega
 unfold nlit wt;rw [if_pos ⟨h1,h2⟩,cLo_get,cHi_get,if_pos h3,if_pos h3,if_neg (show ¬ l=0 by omega)];by_cases hl:l<0
 ·rw [if_pos hl,if_neg (by simp)]
 ·rw [if_neg hl,if_neg (by simp)]
end Cs
namespace Go.Proofs.YtoljkoifgnmbgaaGreatDoor
theorem ses_one {N:Nt} {n:Nat} (hv:vld N=true) (hn:N.n=(n:Int)) (x:Int):sesC N n [x]=(RN (-x)).sum N:=by
 refine (sum_re (R:=RL n (cLo n [x]) (cHi n [x])) (lit':=wt (-x)) (both':=fun v=>wt (-x) v+wt (-x) (-v)) (fun v h1 h2=>?_) (fun l h1 h2=>nlit_one h1 h2) hv hn).trans rfl;show nlit n _ _ (-v)+nlit n _ _ v=_;rw [nlit_one (by omega) (by omega),nlit_one (by omega) (by omega),Nat.add_comm]
theorem ses_nil {N:Nt} {n:Nat} (hv:vld N=true) (hn:N.n=(n:Int)):sesC N n []=(RN 0).sum N:=by
 refine (sum_re (R:=RL n (cLo n []) (cHi n [])) (lit':=wt 0) (both':=fun v=>wt 0 v+wt 0 (-v)) (fun v h1 h2=>?_) (fun l h1 h2=>nlit_nil h1 h2) hv hn).trans rfl;show nlit n _ _ (-v)+nlit n _ _ v=_;rw [nlit_nil (by omega) (by omega),nlit_nil (by omega) (by omega),Nat.add_comm]
theorem ses_split {N:Nt} {n v:Nat} (hv:vld N=true) (hd:dcmp N=true) (hn:N.n=(n:Int)) (h1:1≤v) (h2:v≤n):sesC N n [(v:Int)]+sesC N n [-(v:Int)]=sesC N n []:=by
 obtain ⟨i,rfl⟩:∃ i,v=i+1:=⟨v-1,by omega⟩;rw [ses_one hv hn,ses_one hv hn,ses_nil hv hn,Int.neg_neg,Nat.add_comm];exact low_high hv hd n hn i (by omega)
end Go.Proofs.YtoljkoifgnmbgaaGreatDoor
end
section
set_option maxRecDepth 100000
set_option maxHeartbeats 4000000
open Go Go.RowKit Cs
namespace Go.Proofs.YtoljkoifgnmbgaaGreatDoor
def fewU (N:Nt) (l:Nat):Bool:=fewB N&&(decide (N.n≤20)||decide (128<N.n))&&decide (l≤15)
theorem fewU_any (w:World) (N:Nt) (A Ab:Option Addr) (c lb cb:Nat) (hlen:N.l.length≤140737488355328) (hN:NtAt w w.heap.size A N.l) :
  Calls Tryz.prog 17 #[ntV N A c,.slice Ab lb cb] w fun e w'=>e = .returned (.bool (fewU N lb))∧Below w.heap.size w w':=by
 have hfw:=fun W hN=>few_any W N A c hlen hN;obtain ⟨F,hF⟩:∃ F,fewU N lb=F:=⟨_,rfl⟩;rw [hF];unfold fewU at hF;obtain ⟨B,hB⟩:∃ B,fewB N=B:=⟨_,rfl⟩;rw [hB] at hfw hF;have HFW:=zqh hfw;have HF:=zqh hF;clear hfw hB hF;obtain ⟨n,l⟩:=N;have q0:=(Bag.zero w).new #[.int .i64 n,.slice A l.length c] 24 w.heap.size 2 rfl rfl;simp only at HF;cases B
 ·go_enter Tryz.func17, Tryz.ntmps17
  go_wp2_with fail
  refine (HFW.out _ ((hN.below q0.bl).more q0.bl.size)).mono ?_;rintro e w1 ⟨rfl,hb1⟩;have q1:=q0.below hb1;have m1:=q1.is0 0 (by decide) (.int .i64 n) rfl;have m2:=q1.is0 1 (by decide) (.slice A l.length c) rfl;clear hN hlen HFW
  go_wp2_with fail
  go_ret
  have hh:=HF.out;rw [Bool.false_and,Bool.false_and] at hh;obtain rfl:=hh;exact ⟨rfl,q1.bl⟩
 ·rcases (show n≤20∨20<n by omega) with h1 | h1
  ·have d1:decide (n≤20)=true:=decide_eq_true h1;rcases (show lb≤15∨15<lb by omega) with h2 | h2
   ·have d2:decide ((lb:Int)≤15)=true:=decide_eq_true (by omega);have d4:decide (lb≤15)=true:=decide_eq_true (by omega)
    go_enter Tryz.func17, Tryz.ntmps17
    go_wp2_with fail
    refine (HFW.out _ ((hN.below q0.bl).more q0.bl.size)).mono ?_;rintro e w1 ⟨rfl,hb1⟩;have q1:=q0.below hb1;have m1:=q1.is0 0 (by decide) (.int .i64 n) rfl;have m2:=q1.is0 1 (by decide) (.slice A l.length c) rfl;clear hN hlen HFW
    go_wp2_with fail
    go_ret
    have hh:=HF.out;rw [d1,d4,Bool.true_or,Bool.true_and,Bool.true_and] at hh;obtain rfl:=hh;exact ⟨rfl,q1.bl⟩
   ·have d2:decide ((lb:Int)≤15)=false:=decide_eq_false (by omega);have d4:decide (lb≤15)=false:=decide_eq_false (by omega)
    go_enter Tryz.func17, Tryz.ntmps17
    go_wp2_with fail
    refine (HFW.out _ ((hN.below q0.bl).more q0.bl.size)).mono ?_;rintro e w1 ⟨rfl,hb1⟩;have q1:=q0.below hb1;have m1:=q1.is0 0 (by decide) (.int .i64 n) rfl;have m2:=q1.is0 1 (by decide) (.slice A l.length c) rfl;clear hN hlen HFW
    go_wp2_with fail
    go_ret
    have hh:=HF.out;rw [d1,d4,Bool.and_false] at hh;obtain rfl:=hh;exact ⟨rfl,q1.bl⟩
  ·have d1:decide (n≤20)=false:=decide_eq_false (by omega);rcases (show 128<n∨n≤128 by omega) with h3 | h3
   ·have d3:decide (128<n)=true:=decide_eq_true h3;rcases (show lb≤15∨15<lb by omega) with h2 | h2
    ·have d2:decide ((lb:Int)≤15)=true:=decide_eq_true (by omega);have d4:decide (lb≤15)=true:=decide_eq_true (by omega)
     go_enter Tryz.func17, Tryz.ntmps17
     go_wp2_with fail
     refine (HFW.out _ ((hN.below q0.bl).more q0.bl.size)).mono ?_;rintro e w1 ⟨rfl,hb1⟩;have q1:=q0.below hb1;have m1:=q1.is0 0 (by decide) (.int .i64 n) rfl;have m2:=q1.is0 1 (by decide) (.slice A l.length c) rfl;clear hN hlen HFW
     go_wp2_with fail
     go_ret
     have hh:=HF.out;rw [d1,d3,d4,Bool.or_true,Bool.true_and,Bool.true_and] at hh;obtain rfl:=hh;exact ⟨rfl,q1.bl⟩
    ·have d2:decide ((lb:Int)≤15)=false:=decide_eq_false (by omega);have d4:decide (lb≤15)=false:=decide_eq_false (by omega)
     go_enter Tryz.func17, Tryz.ntmps17
     go_wp2_with fail
     refine (HFW.out _ ((hN.below q0.bl).more q0.bl.size)).mono ?_;rintro e w1 ⟨rfl,hb1⟩;have q1:=q0.below hb1;have m1:=q1.is0 0 (by decide) (.int .i64 n) rfl;have m2:=q1.is0 1 (by decide) (.slice A l.length c) rfl;clear hN hlen HFW
     go_wp2_with fail
     go_ret
     have hh:=HF.out;rw [d1,d3,d4,Bool.and_false] at hh;obtain rfl:=hh;exact ⟨rfl,q1.bl⟩
   ·have d3:decide (128<n)=false:=decide_eq_false (by omega)
    go_enter Tryz.func17, Tryz.ntmps17
    go_wp2_with fail
    refine (HFW.out _ ((hN.below q0.bl).more q0.bl.size)).mono ?_;rintro e w1 ⟨rfl,hb1⟩;have q1:=q0.below hb1;have m1:=q1.is0 0 (by decide) (.int .i64 n) rfl;have m2:=q1.is0 1 (by decide) (.slice A l.length c) rfl;clear hN hlen HFW
    go_wp2_with fail
    go_ret
    have hh:=HF.out;rw [d1,d3,Bool.or_false,Bool.and_false,Bool.false_and] at hh;obtain rfl:=hh;exact ⟨rfl,q1.bl⟩
end Go.Proofs.YtoljkoifgnmbgaaGreatDoor
end
section
open Go Go.RowKit Cs
namespace Go.Proofs.YtoljkoifgnmbgaaGreatDoor
theorem ones_few {n:Nat} (h:n≤128):¬ 16384<sumB (onesP n) n+sumB (onesP n) n:=by
 rw [ones_bits n n (zqn _)];omega
theorem one_ok {N:Nt} {n D:Nat} {T:List Int} (hk:cchk N=0) (hn:N.n=(n:Int)) (ht:TOk n T) (hl:T.length≤1000000) (hD:1<D):SesOk N n (onesP n) (onesP n) T D:=by
 have hv:vld N=true:=by
  cases h:vld N
  ·unfold cchk at hk;rw [h] at hk;cases hk
  ·rfl
 obtain ⟨hd,hs⟩:=cchk_zero hv hk;exact ⟨hv,hd,hs,hn,ones_in n,ones_few (vn_le hv hn),ht,hl,hD⟩
theorem tok_one {n:Nat} {x:Int} (h1:1≤x.natAbs) (h2:x.natAbs≤n):TOk n [x]:=TOk.snoc TOk.nil h1 h2 (by simp) (by simp)
theorem lit_one {n:Nat} {N:Nt} {x:Int} (hn:N.n=(n:Int)) (h0:n≤128) (h1:1≤x.natAbs) (h2:x.natAbs≤n):litOk x N.n=true:=by
 unfold litOk litVar;rw [hn];simp only [decide_eq_true_eq];split
 ·omega
 ·split <;> omega
end Go.Proofs.YtoljkoifgnmbgaaGreatDoor
end
section
set_option maxRecDepth 100000
set_option maxHeartbeats 4000000
section
open Go Go.RowKit Cs
namespace Cs
def lowL (N:Nt) (k:Nat):List Nat:=0::(List.range k).map fun i:Nat=>(RN ((i:Int)+1)).sum N
def highL (N:Nt) (k:Nat):List Nat:=0::(List.range k).map fun i:Nat=>(RN (-((i:Int)+1))).sum N
theorem lowL_succ (N:Nt) (k:Nat):lowL N (k+1)=lowL N k++[(RN ((k:Int)+1)).sum N]:=by unfold lowL;rw [List.range_succ];simp
theorem highL_succ (N:Nt) (k:Nat):highL N (k+1)=highL N k++[(RN (-((k:Int)+1))).sum N]:=by unfold highL;rw [List.range_succ];simp
theorem lowL_len (N:Nt) (k:Nat):(lowL N k).length=k+1:=by unfold lowL;simp
theorem highL_len (N:Nt) (k:Nat):(highL N k).length=k+1:=by unfold highL;simp
theorem cchk_zero3 {N:Nt} (hk:cchk N=0):vld N=true∧dcmp N=true∧shortB N=true:=by
 unfold cchk at hk;cases h1:vld N
 ·rw [h1] at hk;cases hk
 ·cases h2:dcmp N
  ·rw [h1,h2] at hk;cases hk
  ·cases h3:shortB N
   ·rw [h1,h2,h3] at hk;cases hk
   ·exact ⟨rfl,rfl,rfl⟩
theorem natsF_zero (i:Nat):natsF [] i=natsF [0] i:=by unfold natsF;cases i <;> simp
end Cs
namespace Go.Proofs.YtoljkoifgnmbgaaGreatDoor
theorem byLit_any (w:World) (N:Nt) (A:Option Addr) (c m:Nat) (hm:N.n=(m:Int)) (hN:NtAt w w.heap.size A N.l) (hT:Tab w) (hk:cchk N=0) :
  Calls Tryz.prog 34 #[ntV N A c] w fun e w'=>∃ gl gh,e = .returned (.tuple #[.slice (some ⟨gl,0,none⟩) (m+1) (m+1),.slice (some ⟨gh,0,none⟩) (m+1) (m+1),.int .i64 0]) ∧
   w.heap.size≤gl∧w.heap.size≤gh∧w'.rowIs gl 54 (m+1) (natsF (lowL N m))∧w'.rowIs gh 54 (m+1) (natsF (highL N m))∧Below w.heap.size w w':=by
 obtain ⟨hv,_,hs⟩:=cchk_zero3 hk;obtain ⟨hn0,hn1,hl0,hl1⟩:=vld_bounds hv;have hcc:=fun W h hT=>countCheck_any W N A c (by omega) h hT;rw [hk] at hcc;have hsm:=fun W nt p q h1 h2 h3 h4=>sumNat_any W N A c p q nt h1 hv hs h2 h3 h4;have HCC:=zqh hcc;have HSM:=zqh hsm;clear hcc hsm hk hv hs;obtain ⟨n,l⟩:=N;obtain rfl:n=(m:Int):=hm;simp only at hn0 hn1 hl0 hl1 hN;have hnet:=ntNew w ⟨(m:Int),l⟩ A c 24 _ rfl;have hbl:Below w.heap.size w (w.alloc (.cells #[.int .i64 (m:Int),.slice A l.length c] 24)):=(zqr _ _).alloc (zqn _) _;have hmk:=mk_nat (m+1) (by omega);rw [Int.natCast_succ] at hmk
 have hwr:IntKind.i64.wrap ((m:Int)+1)=(m:Int)+1:=by rw [IntKind.wrap_i64];omega
 go_enter Tryz.func34, Tryz.ntmps34
 go_wp2_with (
  go_at_call 74
  (with_reducible refine (HCC.out _ ((hN.below hbl).more hbl.size) (hT.below hbl)).mono ?_)
  rintro e w5 ⟨rfl,hb5⟩;replace hnet:=rowBelow hnet hb5;replace hbl:=zqx hbl hb5 hbl.size
  obtain ⟨hc1,hc2⟩:=ntCells hnet)
 have hz:=hnet.lt
 go_cut [2,3] from 11 to 19 (fun a b wx=>∃ gl gh,a = .slice (some ⟨gl,0,none⟩) (m+1) (m+1)∧b = .slice (some ⟨gh,0,none⟩) (m+1) (m+1)∧w.heap.size<gl∧w.heap.size<gh∧gl≠gh ∧
  wx.rowIs gl 54 (m+1) (natsF [0])∧wx.rowIs gh 54 (m+1) (natsF [0])∧wx.rowIs w.heap.size 24 2 (ntF ⟨(m:Int),l⟩ A c)∧Below w.heap.size w wx)
 case first =>
  have hc1':w5.drew.cell? ⟨w.heap.size,0,none⟩=some (.int .i64 (m:Int)):=hc1
  go_region_held3 (fun w'=>w'.cell? ⟨w.heap.size,0,none⟩=some (.int .i64 (m:Int))) (first | go_keep) (fail)
  all_goals
   try go_wp2
   go_meet
   case rel =>
    have r1:(w5.alloc (.cells (madeCells #[.string ⟨#[]⟩] (m+1)) 54)).rowIs w5.heap.size 54 (m+1) (natsF [0]):=(natsMade w5 (m+1) 54 w5.heap.size rfl).congr fun i _=>natsF_zero i;have r2:((w5.alloc (.cells (madeCells #[.string ⟨#[]⟩] (m+1)) 54)).alloc (.cells (madeCells #[.string ⟨#[]⟩] (m+1)) 54)).rowIs (w5.heap.size+1) 54 (m+1) (natsF [0]):=(natsMade _ (m+1) 54 (w5.heap.size+1) (by simp)).congr fun i _=>natsF_zero i;have n1:=((hnet.alloc (.cells (madeCells #[.string ⟨#[]⟩] (m+1)) 54)).alloc (.cells (madeCells #[.string ⟨#[]⟩] (m+1)) 54)).drew;have b1:=belowDrewN ((hbl.alloc (by omega) (.cells (madeCells #[.string ⟨#[]⟩] (m+1)) 54)).alloc (by simp;omega) (.cells (madeCells #[.string ⟨#[]⟩] (m+1)) 54)) 1
    first
     | exact ⟨_,_,rfl,rfl,by omega,by omega,by omega,(r1.alloc _).drew,r2.drew,n1,b1⟩
     | exact ⟨_,_,rfl,rfl,by omega,by omega,by omega,r2.drew,(r1.alloc _).drew,n1,b1⟩
 case rest =>
  obtain ⟨gl,gh,rfl,rfl,hgl,hgh,hgg,hlo,hhi,hnet',hbl'⟩:=hcut;clear hnet hbl hc1 hc2 hz hb5 hmk hwr HCC
  go_wp2
  go_loopw [6] (fun t wr=>∃ k:Nat,k≤m∧t = .int .i64 ((k:Int)+1)∧wr.rowIs gl 54 (m+1) (natsF (lowL ⟨(m:Int),l⟩ k))∧wr.rowIs gh 54 (m+1) (natsF (highL ⟨(m:Int),l⟩ k))∧wr.rowIs w.heap.size 24 2 (ntF ⟨(m:Int),l⟩ A c)∧Below w.heap.size w wr) (fun t _=>m+1-(intOf t).toNat)
  case atStart=>exact ⟨0,by omega,rfl,hlo,hhi,hnet',hbl'⟩
  case round =>
   clear hlo hhi hnet' hbl';obtain ⟨k,hk,rfl,hlo,hhi,hnet,hbl⟩:=hrel;obtain ⟨hc1,hc2⟩:=ntCells hnet;by_cases hlt:k<m
   ·have hs1:=fun W p q h1 h2 h3 h4=>HSM.out W ((k:Int)+1) p q h1 h2 h3 h4;have hs2:=fun W p q h1 h2 h3 h4=>HSM.out W (-((k:Int)+1)) p q h1 h2 h3 h4;have hls:=lowL_succ ⟨(m:Int),l⟩ k;have hhs:=highL_succ ⟨(m:Int),l⟩ k;have hll:=lowL_len ⟨(m:Int),l⟩ k;have hhl:=highL_len ⟨(m:Int),l⟩ k;obtain ⟨V1,hV1⟩:∃ V,(RN ((k:Int)+1)).sum ⟨(m:Int),l⟩=V:=⟨_,rfl⟩;obtain ⟨V2,hV2⟩:∃ V,(RN (-((k:Int)+1))).sum ⟨(m:Int),l⟩=V:=⟨_,rfl⟩;obtain ⟨L1,hL1⟩:∃ L,lowL ⟨(m:Int),l⟩ k=L:=⟨_,rfl⟩;obtain ⟨L2,hL2⟩:∃ L,highL ⟨(m:Int),l⟩ k=L:=⟨_,rfl⟩;simp only [hV1] at hs1 hls;simp only [hV2] at hs2 hhs;rw [hL1] at hls hll hlo;rw [hL2] at hhs hhl hhi;have HS1:=zqh hs1;have HS2:=zqh hs2;have HLS:=zqh hls;have HHS:=zqh hhs;have HLL:=zqh hll;have HHL:=zqh hhl;clear hs1 hs2 hls hhs hll hhl hV1 hV2 hL1 hL2;have hnet':=hnet.drew;have hlo':=hlo.drew;have hhi':=hhi.drew;have hbl':Below w.heap.size w wr.drew:=belowDrewN hbl 1;obtain ⟨hn1',hn2'⟩:=ntCells hnet';have hl1':=hlo'.cell (i:=k+1) (by omega);have hl2':=hlo'.frozen (k+1);have hh1':=hhi'.cell (i:=k+1) (by omega);have hh2':=hhi'.frozen (k+1)
    have hi1:(0:Int)≤(k:Int)+1:=by omega
    have hi2:(k:Int)+1<(m:Int)+1:=by omega
    have hi3:(k:Int)+1≤(m:Int):=by omega
    have hwr:IntKind.i64.wrap (-((k:Int)+1)) = -((k:Int)+1):=by rw [IntKind.wrap_i64];omega
    have HNE1:Hid (gl≠w.heap.size):=zqh (by omega);have HNE2:Hid (gh≠w.heap.size):=zqh (by omega);have HNE3:Hid (gl≠gh):=zqh hgg
    go_wp2_with fail
    go_region_held3 (fun w'=>w'.cell? ⟨w.heap.size,0,none⟩=some (Value.int .i64 (m:Int))∧w'.cell? ⟨w.heap.size,1,none⟩=some (Value.slice A l.length c))
     (first | exact ⟨hn1',hn2'⟩ | exact ⟨(World.cell?_setCell_far _ _ _ _ HNE1.out).trans hn1',(World.cell?_setCell_far _ _ _ _ HNE1.out).trans hn2'⟩ | exact ⟨(World.cell?_setCell_far _ _ _ _ HNE2.out).trans ((World.cell?_setCell_far _ _ _ _ HNE1.out).trans hn1'),(World.cell?_setCell_far _ _ _ _ HNE2.out).trans ((World.cell?_setCell_far _ _ _ _ HNE1.out).trans hn2')⟩ | go_keep)
     (first
       | (go_simp
          go_at_call 76
          (with_reducible refine (numbers_any _ ((k:Int)+1)).mono ?_)
          rintro e w9 ⟨p,q,rfl,hcq,hcp,hb9⟩;replace hnet':=rowBelow hnet' hb9;replace hlo':=rowBelow hlo' hb9;replace hhi':=rowBelow hhi' hb9;replace hbl':=zqx hbl' hb9 hbl'.size;obtain ⟨hn1',hn2'⟩:=ntCells hnet';have hl1':=hlo'.cell (i:=k+1) (by omega);have hl2':=hlo'.frozen (k+1);have hh1':=hhi'.cell (i:=k+1) (by omega)
          have hh2':=hhi'.frozen (k+1))
       | (go_simp
          go_at_call 75
          (with_reducible refine (HS1.out _ p q ((hN.below hbl').more hbl'.size) hcq hcp (hT.below hbl')).mono ?_)
          rintro e w9 ⟨rfl,hb9⟩;replace hnet':=rowBelow hnet' hb9;replace hlo':=rowBelow hlo' hb9;replace hhi':=rowBelow hhi' hb9;replace hbl':=zqx hbl' hb9 hbl'.size;obtain ⟨hn1',hn2'⟩:=ntCells hnet';have hl1':=hlo'.cell (i:=k+1) (by omega);have hl2':=hlo'.frozen (k+1);have hh1':=hhi'.cell (i:=k+1) (by omega)
          have hh2':=hhi'.frozen (k+1))
       | (go_simp
          go_at_call 76
          (with_reducible refine (numbers_any _ (-((k:Int)+1))).mono ?_)
          rintro e w9 ⟨p2,q2,rfl,hcq2,hcp2,hb9⟩;replace hnet':=rowBelow hnet' hb9;replace hlo':=rowBelow hlo' hb9;replace hhi':=rowBelow hhi' hb9;replace hbl':=zqx hbl' hb9 hbl'.size;obtain ⟨hn1',hn2'⟩:=ntCells hnet';have hl1':=hlo'.cell (i:=k+1) (by omega);have hl2':=hlo'.frozen (k+1);have hh1':=hhi'.cell (i:=k+1) (by omega)
          have hh2':=hhi'.frozen (k+1))
       | (go_simp
          go_at_call 75
          (with_reducible refine (HS2.out _ p2 q2 ((hN.below hbl').more hbl'.size) hcq2 hcp2 (hT.below hbl')).mono ?_)
          rintro e w9 ⟨rfl,hb9⟩;replace hnet':=rowBelow hnet' hb9;replace hlo':=rowBelow hlo' hb9;replace hhi':=rowBelow hhi' hb9;replace hbl':=zqx hbl' hb9 hbl'.size;obtain ⟨hn1',hn2'⟩:=ntCells hnet';have hl1':=hlo'.cell (i:=k+1) (by omega);have hl2':=hlo'.frozen (k+1);have hh1':=hhi'.cell (i:=k+1) (by omega)
          have hh2':=hhi'.frozen (k+1)))
    all_goals
     try go_wp2
     go_roundw
     case rel =>
      have r1:=natsNext hlo' (k+1) V1 HLL.out.symm;have r2:=natsNext hhi' (k+1) V2 HHL.out.symm;refine ⟨k+1,by omega,by go_num,?_,?_,(hnet'.setOther (by simp;omega) _).setOther (by simp;omega) _,(hbl'.setCell (by simp;omega) _).setCell (by simp;omega) _⟩
      ·rw [HLS.out];exact r1.setOther (by simp;omega) _
      ·rw [HHS.out];exact natsNext (hhi'.setOther (by simp;omega) _) (k+1) V2 HHL.out.symm
     case measure=>simp [intOf];omega
   ·obtain rfl:k=m:=by omega
    go_wp2
    go_ret3
    exact ⟨gl,gh,rfl,by omega,by omega,hlo,hhi,hbl⟩
end Go.Proofs.YtoljkoifgnmbgaaGreatDoor
end
end
