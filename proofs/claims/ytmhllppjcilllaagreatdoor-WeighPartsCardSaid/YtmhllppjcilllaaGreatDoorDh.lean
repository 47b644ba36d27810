import Derived.Test.YtmhllppjcilllaaGreatDoorMg
import Derived.Test.YtmhllppjcilllaaGreatDoorKp
import Derived.Test.YtmhllppjcilllaaGreatDoorHp
import Derived.Lib.BitFns
import Derived.Laws.BitsAllLaws
set_option linter.unusedSimpArgs false
set_option linter.unusedVariables false
section
set_option maxRecDepth 100000
set_option maxHeartbeats 4000000
open Go Go.RowKit Cs
namespace Cs
def qI (f:Nat→Nat) (i:Nat):Value:=.int .u64 (f i:Int)
end Cs
namespace Go.Proofs.YtmhllppjcilllaaGreatDoor
theorem not64 (y:Nat) (hy:y<18446744073709551616):bits .xor .u64 (if IntKind.u64.signed=true then -1 else IntKind.u64.max) (y:Int)=((18446744073709551616-(y+1):Nat):Int):=by
 have e:(if IntKind.u64.signed=true then (-1:Int) else IntKind.u64.max)=((18446744073709551615:Nat):Int):=by decide
 rw [e,u64_xor_nat _ _ (by decide) hy];congr 1;apply Nat.eq_of_testBit_eq;intro i;rw [Nat.testBit_xor,show (18446744073709551616:Nat)=2^64 from rfl,Nat.testBit_two_pow_sub_succ (by exact hy),show (18446744073709551615:Nat)=2^64-1 from rfl,Nat.testBit_two_pow_sub_one];by_cases h:i<64
 ·rw [decide_eq_true h];simp
 ·have hp:(2:Nat)^64≤2^i:=Nat.pow_le_pow_right (by decide) (by omega);rw [decide_eq_false h,Nat.testBit_lt_two_pow (Nat.lt_of_lt_of_le (show y<2^64 from hy) hp)];rfl
structure SpS (w:World) (N:Nt) (A:Option Addr) (c gw gv:Nat) (om:Nat→Nat) (k:Nat) (f:Nat→Nat) (W:World):Prop where
 fn:W.rowIs w.heap.size 24 2 (zC #[.int .i64 N.n,.slice A N.l.length c])
 fw:W.rowIs gw 180 129 (qI om)
 fv:W.rowIs gv 64 N.l.length (qI f)
 hf:∀ i,f i<18446744073709551616
 si:SepI om N k f
 hw:gw<w.heap.size
 hv:gv<w.heap.size
 ne:gw≠gv
 gr:w.grownBy W (some gv)
section
variable {w W W':World} {N:Nt} {A:Option Addr} {c gw gv k:Nat} {om f:Nat→Nat}
theorem SpS.below (h:SpS w N A c gw gv om k f W) (hb:Below W.heap.size W W'):SpS w N A c gw gv om k f W' :=
 ⟨zh h.fn hb,zh h.fw hb,zh h.fv hb,h.hf,h.si,h.hw,h.hv,h.ne,⟨hb.os.trans h.gr.os,hb.tape.trans h.gr.tape,hb.output.trans h.gr.output,Nat.le_trans h.gr.size hb.size,fun j hj hn=>(hb.block j (Nat.lt_of_lt_of_le hj h.gr.size)).trans (h.gr.block j hj hn)⟩⟩
theorem SpS.put (h:SpS w N A c gw gv om k f W) (x:Nat) (hx:x<18446744073709551616) (hk:k<N.l.length) (si:SepI om N (k+1) (fun i=>if i=k then x else f i)):SpS w N A c gw gv om (k+1) (fun i=>if i=k then x else f i) (W.setCell ⟨gv,k,none⟩ (.int .u64 (x:Int))):=by
 have hv:=h.hv;refine ⟨h.fn.setOther (show w.heap.size≠gv by omega) _,h.fw.setOther h.ne _,(h.fv.set k _).congr fun i hi=>?_,fun i=>?_,si,h.hw,h.hv,h.ne,h.gr.os,h.gr.tape,h.gr.output,by have:=h.gr.size;simp;omega,fun j hj hn=>?_⟩
 ·unfold qI;by_cases he:i=k
  ·subst he;simp
  ·simp [he]
 ·show (if i=k then x else f i)<_;split
  ·exact hx
  ·exact h.hf i
 ·exact (Below.heap_setCell W ⟨gv,k,none⟩ _ j (fun e=>hn (by rw [e]))).trans (h.gr.block j hj hn)
theorem SpS.low (h:SpS w N A c gw gv om k f W) {B:Nat} (hB:B≤gv):Below B w W:=⟨h.gr.os,h.gr.tape,h.gr.output,h.gr.size,fun j hj=>h.gr.block j (by have:=h.hv;omega) (fun e=>by injection e;omega)⟩
end
theorem sep_any (w:World) (N:Nt) (A:Option Addr) (c B gw gv:Nat) (om f0:Nat→Nat) (hN:NtAt w B A N.l) (hv:zE N=true) (hin:∀ k (hk:k<N.l.length),N.l[k].ins.length≤1000000) (hB:B≤gv)
  (hgw:w.rowIs gw 180 129 (qI om)) (hom:∀ v,om v<18446744073709551616) (hgv:w.rowIs gv 64 N.l.length (qI f0)) (hf0:∀ i,f0 i<18446744073709551616) (hne:gw≠gv) :
  Calls Tryz.prog 137 #[qB N A c,.pointer (some ⟨gw,0,none⟩),.slice (some ⟨gv,0,none⟩) N.l.length N.l.length] w fun e w'=>∃ r f,e = .returned (.bool r)∧(r=true→SepI om N N.l.length f)∧w'.rowIs gv 64 N.l.length (qI f)∧(∀ i,f i<18446744073709551616)∧w.grownBy w' (some gv):=by
 obtain ⟨hn0,hn1,hl0,hl1⟩:=qR hv;have st:SpS w N A c gw gv om 0 f0 (w.alloc (.cells #[.int .i64 N.n,.slice A N.l.length c] 24)) :=
  ⟨zI w _ _ _ 2 rfl rfl,hgw.alloc _,hgv.alloc _,hf0,SepI.zero,hgw.lt,hgv.lt,hne,rfl,rfl,rfl,by simp,fun j hj _=>by
    have hb:=(Below.refl w.heap.size w).alloc (zv _) (.cells #[.int .i64 N.n,.slice A N.l.length c] 24);exact hb.block j hj⟩
 have HST:=zc st;have HV:=zc hv;have HIN:=zc hin;have HB:=zc hB;have HOM:=zc hom;have HLEN:=zc hl1;have HN1:=zc (show N.n≤128 by omega);have s1:World.cell? _ ⟨w.heap.size,0,none⟩=some (.int .i64 N.n):=st.fn.cell (i:=0) (by decide);have s2:World.cell? _ ⟨w.heap.size,1,none⟩=some (.slice A N.l.length c):=st.fn.cell (i:=1) (by decide);clear st hv hin hB hom hf0 hgw hgv hne hn0 hn1 hl0 hl1;go_enter Tryz.func137, Tryz.ntmps137;go_wp2_with fail
 clear s1 s2;go_loopw [17] (fun t wr=>∃ (k:Nat) (f:Nat→Nat),k≤N.l.length∧t = .int .i64 (k:Int)∧SpS w N A c gw gv om k f wr) (fun t _=>N.l.length-(intOf t).toNat)
 case atStart=>exact ⟨0,f0,Nat.zero_le _,rfl,HST.out⟩
 case round =>
  clear HST;obtain ⟨k,f,hk,rfl,hE⟩:=hrel;by_cases hlt:k<N.l.length
  ·have hc0:decide ((k:Int)<(N.l.length:Int))=true:=decide_eq_true (by omega);have hi1:(0:Int)≤(k:Int):=by omega
   have hi2:(k:Int)<(N.l.length:Int):=by omega
   have hlen:=HLEN.out;have e9:IntKind.i64.wrap ((k:Int)+1)=(k:Int)+1:=by rw [IntKind.wrap_i64];omega
   obtain ⟨b,o,rfl,hbB,hcs⟩:=hN (by omega);have hnd:=hcs k hlt;have hfk:=qM HV.out k hlt;have hil:=HIN.out k hlt;obtain ⟨⟨xk,lx,xi⟩,hx⟩:∃ x,N.l[k]=x:=⟨_,rfl⟩;rw [hx] at hnd hfk hil;have HX:=zc hx;have HFK:=zc hfk;have hbl:=hE.low HB.out;obtain ⟨hk1,hk2,⟨A',c',hk3,hrd⟩,hr1,hr2,hr3,hr4⟩:=hnd;replace hk1:=zF hbl hbB hk1;replace hk2:=zF hbl hbB hk2;replace hk3:=zF hbl hbB hk3;have HRD:=zc hrd;obtain ⟨W0,rfl⟩:∃ W0,W0=wr:=⟨wr,rfl⟩;have hxN:=zI W0 #[.int .i64 xk,.int .i64 lx,.slice A' xi.length c'] 66 W0.heap.size 3 rfl rfl;have hE1:=hE.below ((zy _ _).alloc (zv _) (.cells #[.int .i64 xk,.int .i64 lx,.slice A' xi.length c'] 66));have x0:World.cell? _ ⟨W0.heap.size,0,none⟩=some (.int .i64 xk):=hxN.cell (i:=0) (by decide);have x1:World.cell? _ ⟨W0.heap.size,1,none⟩=some (.int .i64 lx):=hxN.cell (i:=1) (by decide);have x2:World.cell? _ ⟨W0.heap.size,2,none⟩=some (.slice A' xi.length c'):=hxN.cell (i:=2) (by decide);have hvr:=hE1.fv.frozen k;have hvc:World.cell? _ ⟨gv,k,none⟩=some (qI f k):=hE1.fv.cell (i:=k) hlt;unfold qI at hvc;have HE1:=zc hE1;have HXN:=zc hxN;have HLT:=zc hlt;have hkd:((xk=0∨xk=1∨xk=2)∧xi.length=0)∨xk=3∨xk=4:=zaV HFK.out;clear hE hE1 hxN hk hcs hbB hfk hx hr1 hr2 hr3 hr4 hbl hrd hlen;rcases hkd with ⟨h0 | h1 | h2,hi0⟩ | h3 | h4
   ·have b1:(xk==1)=false:=beq_eq_false_iff_ne.2 (by omega);have b2:(xk==2)=false:=beq_eq_false_iff_ne.2 (by omega);have b3:(xk==3)=false:=beq_eq_false_iff_ne.2 (by omega);have b4:(xk==4)=false:=beq_eq_false_iff_ne.2 (by omega);have HKK:=zc h0;clear hi0 h0;go_wp2_with fail
    go_roundw
    case rel=>exact ⟨k+1,_,Nat.succ_le_of_lt HLT.out,by go_num,HE1.out.put 0 (by decide) HLT.out (SepI.leaf0 HV.out HLT.out (by rw [HX.out];exact HKK.out) HE1.out.si)⟩
    case measure=>have:=HLT.out;simp [intOf];omega
   ·have b1:(xk==1)=true:=beq_iff_eq.2 (by omega);have b2:(xk==2)=false:=beq_eq_false_iff_ne.2 (by omega);have b3:(xk==3)=false:=beq_eq_false_iff_ne.2 (by omega);have b4:(xk==4)=false:=beq_eq_false_iff_ne.2 (by omega);have en:IntKind.u64.wrap (-0-1)=18446744073709551615:=by decide
    have HKK:=zc h1;clear hi0 h1;go_wp2_with fail
    go_roundw
    case rel=>exact ⟨k+1,_,Nat.succ_le_of_lt HLT.out,by go_num,HE1.out.put ones64 (by decide) HLT.out (SepI.leaf1 HV.out HLT.out (by rw [HX.out];exact HKK.out) HE1.out.si)⟩
    case measure=>have:=HLT.out;simp [intOf];omega
   ·have b1:(xk==1)=false:=beq_eq_false_iff_ne.2 (by omega);have b2:(xk==2)=true:=beq_iff_eq.2 (by omega);have b3:(xk==3)=false:=beq_eq_false_iff_ne.2 (by omega);have b4:(xk==4)=false:=beq_eq_false_iff_ne.2 (by omega);have hlk:z7 lx N.n=true:=(zaT HFK.out h2).1;have hrg:=zb3 hlk;obtain ⟨hr64a,hr64b⟩ : -9223372036854775808≤lx∧lx≤9223372036854775807:=by have:=HN1.out;omega
    have hlv:=fun W=>zbD W lx hr64a hr64b;obtain ⟨v,hlvv⟩:∃ v:Nat,zH lx=(v:Int):=⟨(zH lx).toNat,by have:=HN1.out;unfold zH;split <;> (try split) <;> omega⟩;have hv129:v<129:=by have:=HN1.out;unfold zH at hlvv;split at hlvv <;> (try split at hlvv) <;> omega
    simp only [hlvv] at hlv;have HLV:=zc hlv;have HLVV:=zc hlvv;have HKK:=zc h2;have HSG:=zc (show (0<lx∨lx<0) by omega);have hi5:(0:Int)≤(v:Int):=by omega
    have hi6:(v:Int)<129:=by omega
    have hom:=HOM.out v;obtain ⟨y,hy⟩:∃ y,om v=y:=⟨_,rfl⟩;have hwc:World.cell? _ ⟨gw,v,none⟩=some (qI om v):=HE1.out.fw.cell (i:=v) hv129;unfold qI at hwc;rw [hy] at hwc hom;have HY:=zc hy;have HO:=zc hom;clear hlk hrg hr64a hr64b hlv hlvv h2 hi0 hv129 hy;go_upto_region 9 with (fail)
    obtain ⟨wr1,hw1⟩:∃ V,W0.alloc (.cells #[.int .i64 xk,.int .i64 lx,.slice A' xi.length c'] 66)=V:=⟨_,rfl⟩;obtain ⟨nb,hnb⟩:∃ b,W0.heap.size=b:=⟨_,rfl⟩;rw [hw1] at HE1 HXN x1 hwc hvr hvc ⊢;simp only [hnb] at HXN x1 ⊢;have s1:=x1;have s2:=hwc;have gnb:=World.block_lt_of_cell? _ _ x1;have ggw:=World.block_lt_of_cell? _ _ hwc;clear hw1 hnb x0 x1 x2 hwc hvr hvc hom hk1 hk2 hk3;have HS:Hid (∀ W,Below wr1.heap.size wr1 W→W.cell? ⟨nb,1,none⟩=some (.int .i64 lx)∧W.cell? ⟨gw,v,none⟩=some (.int .u64 (y:Int))):=zc fun W hb=>⟨zG hb s1 gnb,zG hb s2 ggw⟩;refine yT (n:=_) (PX:=[zm (.pointer (some ⟨gw,0,none⟩)),
       zm (.pointer (some ⟨nb,1,none⟩)),
       zm (.int .i64 lx),
       zm (.int .i64 (v:Int)),
       zm (.pointer (some ⟨gw,0,none⟩)),
       zm (.pointer (some ⟨gw,v,none⟩)),
       zm (.int .u64 (y:Int)),
       zm (.int .u64 (y:Int))])
      (AL:=[]) (DP:=[[],[],[1],[2],[0],[3,4],[5],[6]]) (L1:=[0,1,2,3,4,5,6,7]) (ex:=[]) (by kernel_rfl) rfl (by kernel_rfl) ?_ ?_ (ji ?_)
    ·repeat' first|exact qi|refine zo ?_ ?_|exact fun _ _ _ _ h _=>h
    ·refine zo (zw rfl [] ?_) (zo (zw rfl [] ?_) (zo (zw rfl [(1,some 31)] ?_) (zo ?_ (zo (zw rfl [(0,some 30)] ?_) (zo (zw rfl [(3,some 33),(4,some 34)] ?_) (zo (zw rfl [(5,some 35)] ?_) (zo (zw rfl [(6,some 36)] ?_) qi)))))));all_goals try (intro vs W hW hd K hK;(try simp only [qh,zm,and_true,List.getD_cons_succ,List.getD_cons_zero] at hd);(first | simp only [hd,zu,Act.put,zk,zj,zi,zg,zf,ze] at hK ⊢ | simp only [zu,Act.put,zk,zj,zi,zg,zf,ze] at hK ⊢ | skip);obtain ⟨m1,m2⟩:=HS.out W hW;go_simp;exact hK.out _ _ rfl (zy _ _) (yM rfl))
     ·refine zZ rfl [(2,some 32)] ?_;intro vs W hW hd K hK;have d2:vs 2 = .int .i64 lx:=hd 2 (by decide);clear hd;try simp only [d2,zu,Act.put,zk,zj,zi,zg,zf,ze] at hK ⊢
      go_simp;go_at_call 117;(with_reducible first | refine (HLV.out _).mono ?_);rintro e w9 ⟨rfl,rfl⟩;have hb9:=Below.refl W.heap.size W;exact hK.out _ _ (rfl) hb9 (fun h=>absurd h (by decide))
    refine yp [(0,some 30),(1,some 31),(2,some 32),(3,some 33),(4,some 34),(5,some 35),(6,some 36),(7,some 9)] #[true,true,true,true,true,true,true,true] 0 ?_;intro vs Wf hW hd hbk hdis kf;simp only [qh,zm,and_true,List.getD_cons_succ,List.getD_cons_zero] at hd;obtain ⟨d0,d1,d2,d3,d4,d5,d6,d7⟩:=hd;clear hbk hdis;try simp only [d0,d1,d2,d3,d4,d5,d6,d7,zu,Act.put,zk,zj,zi,zg,zf,ze]
    clear d0 d1 d2 d3 d4 d5 d6 d7 vs;clear HS;refine z8 (by kernel_rfl) ?_ _;all_goals
     have HE2:=zc (HE1.out.below hW);have x1:World.cell? _ ⟨nb,1,none⟩=some (.int .i64 lx):=(zh HXN.out hW).cell (i:=1) (by decide);have hvr:=HE2.out.fv.frozen k;have hvc:World.cell? _ ⟨gv,k,none⟩=some (qI f k):=HE2.out.fv.cell (i:=k) hlt;unfold qI at hvc;clear s1 s2 gnb ggw HE1 hW
    rcases HSG.out with hp | hp
    ·have hd0:decide (lx<0)=false:=decide_eq_false (by omega);have HP:=zc hp;clear hp;go_wp2_with fail
     go_roundw
     case rel=>exact ⟨k+1,_,Nat.succ_le_of_lt HLT.out,by go_num,HE2.out.put y HO.out HLT.out (SepI.pos HV.out HLT.out (by rw [HX.out];exact HKK.out) (by rw [HX.out];exact HP.out) (by rw [HX.out,HLVV.out,Int.toNat_natCast];exact HY.out) HE2.out.si)⟩
     case measure=>have:=HLT.out;simp [intOf];omega
    ·have hd0:decide (lx<0)=true:=decide_eq_true hp;have enot:=not64 y HO.out;have HP:=zc hp;obtain ⟨yn,hyn⟩:∃ n,18446744073709551616-(y+1)=n:=⟨_,rfl⟩;rw [hyn] at enot;have HYN:=zc hyn;clear hp hyn;go_wp2_with fail
     go_roundw
     case rel=>exact ⟨k+1,_,Nat.succ_le_of_lt HLT.out,by go_num,HE2.out.put yn (by rw [← HYN.out];omega) HLT.out (by rw [← HYN.out];exact SepI.neg HV.out HLT.out (by rw [HX.out];exact HKK.out) (by rw [HX.out];exact HP.out) (by rw [HX.out,HLVV.out,Int.toNat_natCast];exact HY.out) HO.out HE2.out.si)⟩
     case measure=>have:=HLT.out;simp [intOf];omega
   ·have b1:(xk==1)=false:=beq_eq_false_iff_ne.2 (by omega);have b2:(xk==2)=false:=beq_eq_false_iff_ne.2 (by omega);have b3:(xk==3)=true:=beq_iff_eq.2 (by omega);have b4:(xk==4)=false:=beq_eq_false_iff_ne.2 (by omega);have HKK:=zc h3;have hin:∀ i,i<xi.length→∃ m:Nat,xi.getD i 0=(m:Int)∧m<k:=formed_ins HFK.out;have HII:=zc hin;have HIL:=zc hil;clear h3 hin hil;go_wp2_with fail
    obtain ⟨V,hV⟩:∃ V,W0.alloc (.cells #[.int .i64 xk,.int .i64 lx,.slice A' xi.length c'] 66)=V:=⟨_,rfl⟩;rw [hV] at HE1 HXN hvr hvc ⊢;clear hV x0 x1 x2;go_loopw [9,49] (fun p t wq=>∃ q x:Nat,q≤xi.length∧p = .int .u64 (x:Int)∧t = .int .i64 (q:Int)∧x<18446744073709551616∧AndI f xi q x∧wq=V) (fun _ t _=>xi.length-(intOf t).toNat)
    case atStart=>exact ⟨0,ones64,Nat.zero_le _,rfl,rfl,by decide,AndI.zero,rfl⟩
    case round =>
     obtain ⟨q,x,hq,rfl,rfl,hx64,hI,rfl⟩:=hrel;by_cases hlt2:q<xi.length
     ·have hd0:decide ((q:Int)<(xi.length:Int))=true:=decide_eq_true (by omega);have hd1:(q:Int)<(xi.length:Int):=by omega
      have hd2:(0:Int)≤(q:Int):=by omega
      have e8:IntKind.i64.wrap ((q:Int)+1)=(q:Int)+1:=by have:=HIL.out;rw [IntKind.wrap_i64];omega
      obtain ⟨b',o',rfl,hbB',hcs'⟩:=HRD.out (by omega);have hc:World.cell? _ ⟨b',o'+q,none⟩=some (.int .i64 (xi.getD q 0)):=zF (HE1.out.low HB.out) hbB' (hcs' q hlt2);obtain ⟨j,hj1,hj2⟩:=HII.out q hlt2;rw [hj1] at hc;have hd3:(0:Int)≤(j:Int):=by omega
      have hd4:(j:Int)<(N.l.length:Int):=by omega
      have hvj:World.cell? _ ⟨gv,j,none⟩=some (qI f j):=HE1.out.fv.cell (i:=j) (by omega);unfold qI at hvj;have hfj:=HE1.out.hf j;have hgj:f (xi.getD q 0).toNat=f j:=by rw [hj1,Int.toNat_natCast]
      have hnx:=hI.next hlt2;rw [hgj] at hnx;have hand:=u64_and_nat x (f j) hx64 hfj;have hy64:x &&& f j<18446744073709551616:=Nat.lt_of_le_of_lt Nat.and_le_left hx64;obtain ⟨y,hy⟩:∃ y,x &&& f j=y:=⟨_,rfl⟩;rw [hy] at hnx hand hy64;have HNX:=zc hnx;have HY:=zc hy64;have HL2:=zc hlt2;clear hI hx64 hnx hy64 hy hlt2 hq hj1 hj2 hcs' hbB' hfj hgj;go_wp2_with fail
      go_roundw
      case rel=>exact ⟨q+1,y,Nat.succ_le_of_lt HL2.out,rfl,by go_num,HY.out,HNX.out,trivial⟩
      case measure=>have:=HL2.out;simp [intOf];omega
     ·have hd0:decide ((q:Int)<(xi.length:Int))=false:=decide_eq_false (by omega);have hd00:decide (q<xi.length)=false:=decide_eq_false hlt2;obtain rfl:q=xi.length:=by omega
      have HI:=zc hI;have HX6:=zc hx64;clear hI hx64 hq hlt2;go_wp2_with fail
      go_roundw
      case rel=>exact ⟨k+1,_,Nat.succ_le_of_lt HLT.out,by go_num,HE1.out.put x HX6.out HLT.out (AndI.done HV.out HLT.out (by rw [HX.out];exact HKK.out) HE1.out.si (by rw [HX.out];exact HI.out))⟩
      case measure=>have:=HLT.out;simp [intOf];omega
   ·have b1:(xk==1)=false:=beq_eq_false_iff_ne.2 (by omega);have b2:(xk==2)=false:=beq_eq_false_iff_ne.2 (by omega);have b3:(xk==3)=false:=beq_eq_false_iff_ne.2 (by omega);have b4:(xk==4)=true:=beq_iff_eq.2 (by omega);have HKK:=zc h4;have hin:∀ i,i<xi.length→∃ m:Nat,xi.getD i 0=(m:Int)∧m<k:=formed_ins HFK.out;have HII:=zc hin;have HIL:=zc hil;clear h4 hin hil;go_wp2_with fail
    obtain ⟨V,hV⟩:∃ V,W0.alloc (.cells #[.int .i64 xk,.int .i64 lx,.slice A' xi.length c'] 66)=V:=⟨_,rfl⟩;rw [hV] at HE1 HXN hvr hvc ⊢;clear hV x0 x1 x2;go_loopw [9,65] (fun p t wq=>∃ q x:Nat,q≤xi.length∧p = .int .u64 (x:Int)∧t = .int .i64 (q:Int)∧x<18446744073709551616∧OrI f xi q x∧wq=V) (fun _ t _=>xi.length-(intOf t).toNat)
    case atStart=>exact ⟨0,0,Nat.zero_le _,rfl,rfl,by decide,OrI.zero,rfl⟩
    case round =>
     obtain ⟨q,x,hq,rfl,rfl,hx64,hI,rfl⟩:=hrel;by_cases hlt2:q<xi.length
     ·have hd0:decide ((q:Int)<(xi.length:Int))=true:=decide_eq_true (by omega);have hd1:(q:Int)<(xi.length:Int):=by omega
      have hd2:(0:Int)≤(q:Int):=by omega
      have e8:IntKind.i64.wrap ((q:Int)+1)=(q:Int)+1:=by have:=HIL.out;rw [IntKind.wrap_i64];omega
      obtain ⟨b',o',rfl,hbB',hcs'⟩:=HRD.out (by omega);have hc:World.cell? _ ⟨b',o'+q,none⟩=some (.int .i64 (xi.getD q 0)):=zF (HE1.out.low HB.out) hbB' (hcs' q hlt2);obtain ⟨j,hj1,hj2⟩:=HII.out q hlt2;rw [hj1] at hc;have hd3:(0:Int)≤(j:Int):=by omega
      have hd4:(j:Int)<(N.l.length:Int):=by omega
      have hvj:World.cell? _ ⟨gv,j,none⟩=some (qI f j):=HE1.out.fv.cell (i:=j) (by omega);unfold qI at hvj;have hfj:=HE1.out.hf j;have hgj:f (xi.getD q 0).toNat=f j:=by rw [hj1,Int.toNat_natCast]
      have hand:=u64_and_nat x (f j) hx64 hfj;by_cases hz:x &&& f j=0
      ·have hnx:=hI.next hlt2 (by rw [hgj];exact hz);rw [hgj] at hnx;rw [hz] at hand;have hor:=u64_or_nat x (f j) hx64 hfj;have hy64:x ||| f j<18446744073709551616:=Nat.or_lt_two_pow (n:=64) hx64 hfj
       obtain ⟨y,hy⟩:∃ y,x ||| f j=y:=⟨_,rfl⟩;rw [hy] at hnx hor hy64;have HNX:=zc hnx;have HY:=zc hy64;have HL2:=zc hlt2;clear hI hx64 hnx hy64 hy hlt2 hq hj1 hj2 hcs' hbB' hfj hgj hz;go_wp2_with fail
       go_roundw
       case rel=>exact ⟨q+1,y,Nat.succ_le_of_lt HL2.out,rfl,by go_num,HY.out,HNX.out,trivial⟩
       case measure=>have:=HL2.out;simp [intOf];omega
      ·obtain ⟨y,hy⟩:∃ y,x &&& f j=y:=⟨_,rfl⟩;rw [hy] at hand hz;have hb0:((y:Int)==0)=false:=beq_eq_false_iff_ne.2 (by omega);have hb1:((y:Int) != 0)=true:=by simp [bne,hb0]
       have hb2:(y != 0)=true:=by simpa [bne] using hz
       have hb3:(y==0)=false:=by simpa using hz
       clear hI hx64 hlt2 hq hj1 hj2 hcs' hbB' hfj hgj hz hy;go_wp2_with fail
       go_ret;exact ⟨false,f,rfl,fun h=>(by cases h),HE1.out.fv,HE1.out.hf,HE1.out.gr⟩
     ·have hd0:decide ((q:Int)<(xi.length:Int))=false:=decide_eq_false (by omega);have hd00:decide (q<xi.length)=false:=decide_eq_false hlt2;obtain rfl:q=xi.length:=by omega
      have HI:=zc hI;have HX6:=zc hx64;clear hI hx64 hq hlt2;go_wp2_with fail
      go_roundw
      case rel=>exact ⟨k+1,_,Nat.succ_le_of_lt HLT.out,by go_num,HE1.out.put x HX6.out HLT.out (OrI.done HV.out HLT.out (by rw [HX.out];exact HKK.out) HE1.out.si (by rw [HX.out];exact HI.out))⟩
      case measure=>have:=HLT.out;simp [intOf];omega
  ·obtain rfl:k=N.l.length:=by omega
   have hc0:decide ((N.l.length:Int)<(N.l.length:Int))=false:=decide_eq_false (by omega);have HE:=zc hE;clear hE hk hlt;go_wp2_with fail
   go_ret;exact ⟨true,f,rfl,fun _=>HE.out.si,HE.out.fv,HE.out.hf,HE.out.gr⟩
end Go.Proofs.YtmhllppjcilllaaGreatDoor
end
section
open Go Go.RowKit Cs
namespace Cs
def yQ (i:Nat):Nat:=[12297829382473034410,14757395258967641292,17361641481138401520,18374966859414961920,18446462603027742720,18446744069414584320].getD i 0
theorem gJ (i:Nat):yQ i<18446744073709551616:=by
 match i with
 | 0 | 1 | 2 | 3 | 4 | 5=>decide
 | n+6=>unfold yQ;simp
theorem patN_bit:∀ i,i<6→∀ b,b<64→(yQ i).testBit b=b.testBit i:=by decide +kernel
def yU (blk p:Nat):Nat:=if p<6 then yQ p else if blk.testBit (p-6) then ones64 else 0
theorem wdN_lt (blk p:Nat):yU blk p<18446744073709551616:=by
 unfold yU;split
 ·exact gJ p
 ·split <;> decide
theorem zi9 (g:Nat→Bool):∀ m,∃ x,x<2^m∧∀ i,i<m→x.testBit i=g i
 | 0=>⟨0,by decide,fun i hi=>absurd hi (Nat.not_lt_zero i)⟩
 | m+1=>by
   obtain ⟨x,hx,hb⟩:=zi9 g m;refine ⟨if g m then 2^m+x else x,?_,fun i hi=>?_⟩
   ·rw [Nat.pow_succ];split <;> omega
   ·rcases Nat.lt_succ_iff_lt_or_eq.1 hi with h | rfl
    ·split
     ·rw [Nat.testBit_two_pow_add_gt h];exact hb i h
     ·exact hb i h
    ·split
     ·rename_i hg;rw [Nat.testBit_two_pow_add_eq,Nat.testBit_lt_two_pow hx,hg];rfl
     ·rename_i hg;rw [Nat.testBit_lt_two_pow hx];exact (by simpa using hg:g i=false).symm
def BlkOk (N:Nt) (L:List Int) (blk:Nat):Prop:=∀ b,b<64→∀ s,(∀ p,p<L.length→s.testBit ((L.getD p 0).toNat-1)=(yU blk p).testBit b)→qQ N s=true
theorem blk_all {N:Nt} {L:List Int} (h:∀ blk,blk<2^(L.length-6)→BlkOk N L blk) (s:Nat):qQ N s=true:=by
 obtain ⟨b,hb,hb2⟩:=zi9 (fun p=>s.testBit ((L.getD p 0).toNat-1)) 6;obtain ⟨blk,hk,hk2⟩:=zi9 (fun p=>s.testBit ((L.getD (p+6) 0).toNat-1)) (L.length-6);refine h blk hk b hb s fun p hp=>?_;unfold yU;by_cases h6:p<6
 ·rw [if_pos h6,patN_bit p h6 b hb,hb2 p h6]
 ·rw [if_neg h6];have h1:=hk2 (p-6) (by omega);rw [show p-6+6=p by omega] at h1;rw [h1];split
  ·rename_i h2;rw [zdW hb,h2]
  ·rename_i h2;rw [Nat.zero_testBit];simpa using h2
def OmI (blk:Nat) (L:List Int) (i:Nat) (om:Nat→Nat):Prop:=∀ p,p<i→om (L.getD p 0).toNat=yU blk p
theorem OmI.zero {blk:Nat} {L:List Int} {om:Nat→Nat}:OmI blk L 0 om:=fun p hp=>absurd hp (Nat.not_lt_zero p)
theorem OmI.next {blk:Nat} {L:List Int} {om:Nat→Nat} {i v:Nat} (h:OmI blk L i om) (hnd:L.Nodup) (hpos:∀ x∈L,1≤x) (hi:i<L.length) (hv:L.getD i 0=(v:Int)):OmI blk L (i+1) (fun u=>if u=v then yU blk i else om u):=fun p hp=>by
 show (if (L.getD p 0).toNat=v then yU blk i else om (L.getD p 0).toNat)=yU blk p;rcases Nat.lt_succ_iff_lt_or_eq.1 hp with h1 | rfl
 ·have hpl:p<L.length:=by omega
  have g:∀ j (hj:j<L.length),L.getD j 0=L[j]:=fun j hj=>by rw [List.getD_eq_getElem?_getD,List.getElem?_eq_getElem hj];rfl
  have hne:L[p]≠L[i]:=List.pairwise_iff_getElem.1 hnd p i hpl hi h1;have p1:=hpos _ (List.getElem_mem hpl);have p2:=hpos _ (List.getElem_mem hi);rw [g i hi] at hv;rw [g p hpl,if_neg (by omega)];have:=h p h1;rwa [g p hpl] at this
 ·rw [hv,Int.toNat_natCast,if_pos rfl]
def OmZ (L:List Int) (i:Nat) (om:Nat→Nat):Prop:=∀ u,(∀ p,p<i→(L.getD p 0).toNat≠u)→om u=0
theorem OmZ.zero {L:List Int}:OmZ L 0 (fun _=>0):=fun _ _=>rfl
theorem OmZ.next {L:List Int} {om:Nat→Nat} {i v x:Nat} (h:OmZ L i om) (hv:L.getD i 0=(v:Int)):OmZ L (i+1) (fun u=>if u=v then x else om u):=fun u hu=>by
 have h1:=hu i (Nat.lt_succ_self i);rw [hv,Int.toNat_natCast] at h1;simp only [if_neg (Ne.symm h1)];exact h u fun p hp=>hu p (Nat.lt_succ_of_lt hp)
theorem OmZ.here {L:List Int} {om:Nat→Nat} {i v:Nat} (h:OmZ L i om) (hnd:L.Nodup) (hpos:∀ x∈L,1≤x) (hi:i<L.length) (hv:L.getD i 0=(v:Int)):om v=0:=h v fun p hp e=>by
 have hpl:p<L.length:=by omega
 have g:∀ j (hj:j<L.length),L.getD j 0=L[j]:=fun j hj=>by rw [List.getD_eq_getElem?_getD,List.getElem?_eq_getElem hj];rfl
 have hne:L[p]≠L[i]:=List.pairwise_iff_getElem.1 hnd p i hpl hi hp;have p1:=hpos _ (List.getElem_mem hpl);rw [g i hi] at hv;rw [g p hpl] at e;exact hne (by omega)
def occ (N:Nt) (k a:Nat):Prop:=(∀ i,i<k→∀ hi:i<N.l.length,N.l[i].kind=2→a.testBit ((zH N.l[i].lit).toNat-1)=true)∧∀ i,a.testBit i=true→(i:Int)<N.n
theorem lane_of {N:Nt} (hv:zE N=true) {a blk b s:Nat} {om:Nat→Nat} (ho:occ N N.l.length a) (hO:OmI blk (vl a) (vl a).length om) (hs:∀ p,p<(vl a).length→s.testBit (((vl a).getD p 0).toNat-1)=(yU blk p).testBit b):Lane om N.l b s:=fun x hx h2=>by
 obtain ⟨i,hi,rfl⟩:=List.mem_iff_getElem.1 hx;have hl:=(zaT (qM hv i hi) h2).1;have hr:zH N.l[i].lit≠0∧zH N.l[i].lit≤N.n:=of_decide_eq_true hl;have hb:=qR hv;have hv0:1≤zH N.l[i].lit:=by
  have:0≤zH N.l[i].lit:=by unfold zH;split <;> (try split) <;> omega
  omega
 have hbit:=ho.1 i hi hi h2;obtain ⟨v,hvv⟩:∃ v:Nat,zH N.l[i].lit=(v:Int)+1:=⟨(zH N.l[i].lit).toNat-1,by omega⟩;have e0:((v:Int)+1).toNat=v+1:=by omega
 rw [hvv,e0,Nat.add_sub_cancel] at hbit;rw [hvv,e0,Nat.add_sub_cancel];have hm:((v:Int)+1)∈vl a:=(jG (by omega)).2 hbit;obtain ⟨p,hp,he⟩:=List.mem_iff_getElem.1 hm;have hg:(vl a).getD p 0=(v:Int)+1:=by rw [List.getD_eq_getElem?_getD,List.getElem?_eq_getElem hp];exact he
 have h3:=hs p hp;have h4:=hO p hp;rw [hg,e0] at h3 h4;rw [Nat.add_sub_cancel] at h3;rw [h3,h4]
end Cs
namespace Cs
theorem vl_small:∀ a,a<256→(vl a).length≤8:=by decide +kernel
theorem occ_len {N:Nt} {k a:Nat} (h:occ N k a) (hn:N.n≤8):(vl a).length≤8:=vl_small a (by
 refine Nat.lt_pow_two_of_testBit (n:=8) a fun i hi=>?_;cases hb:a.testBit i with
 | false=>rfl
 | true=>have:=h.2 i hb;omega)
theorem occ_zero {N:Nt}:occ N 0 0:=⟨fun i hi=>absurd hi (Nat.not_lt_zero i),fun i h=>by rw [Nat.zero_testBit] at h;cases h⟩
theorem wthn (a v:Nat) (h:v<128) (i:Nat):(qA a ((v:Int)+1)).testBit i=(a.testBit i||decide (v=i)):=by
 unfold qA;rw [if_pos (by omega),show ((v:Int)+1).toNat-1=v by omega,Nat.testBit_or,Nat.testBit_two_pow]
theorem occ_lit {N:Nt} (hv:zE N=true) {k a:Nat} (h:occ N k a) (hk:k<N.l.length) (h2:N.l[k].kind=2):occ N (k+1) (qA a (zH N.l[k].lit)):=by
 have hr:zH N.l[k].lit≠0∧zH N.l[k].lit≤N.n:=of_decide_eq_true (zaT (qM hv k hk) h2).1;have hb:=qR hv;have hv0:0≤zH N.l[k].lit:=by unfold zH;split <;> (try split) <;> omega
 obtain ⟨v,hvv⟩:∃ v:Nat,zH N.l[k].lit=(v:Int)+1:=⟨(zH N.l[k].lit).toNat-1,by omega⟩;rw [hvv];refine ⟨fun i hi hl hk2=>?_,fun i hi=>?_⟩
 ·rw [wthn a v (by omega)];rcases Nat.lt_succ_iff_lt_or_eq.1 hi with h1 | rfl
  ·rw [h.1 i h1 hl hk2];rfl
  ·rw [hvv,show ((v:Int)+1).toNat-1=v by omega,decide_eq_true rfl,Bool.or_true]
 ·rw [wthn a v (by omega),Bool.or_eq_true] at hi;rcases hi with h1 | h1
  ·exact h.2 i h1
  ·have:=of_decide_eq_true h1;omega
theorem occ_not {N:Nt} {k a:Nat} (h:occ N k a) (hk:k<N.l.length) (h2:N.l[k].kind≠2):occ N (k+1) a:=⟨fun i hi hl hk2=>by
 rcases Nat.lt_succ_iff_lt_or_eq.1 hi with h1 | rfl
 ·exact h.1 i h1 hl hk2
 ·exact absurd hk2 h2,h.2⟩
end Cs
end
