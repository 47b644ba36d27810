import Derived.Test.YtmhllppjcilllaaGreatDoorRC
import Derived.Test.YtmhllppjcilllaaGreatDoorQ2
import Derived.Test.YtmhllppjcilllaaGreatDoorZa
set_option linter.unusedSimpArgs false
set_option linter.unusedVariables false
set_option maxRecDepth 100000
set_option maxHeartbeats 8000000
section
section
open Go Go.RowKit Cs
namespace Cs
theorem zjt (f:Nat→Int→Nat):∀ (ks:List Int) (s:Nat),(∀ q,(ks.take q).foldl f s<zR)→yp f s ks=true
 | [],s,_=>rfl
 | k::ks,s,h=>by
   unfold yp;rw [if_pos (show f s k<zR from h 1)];exact zjt f ks (f s k) fun q=>h (q+1)
theorem zfI (O:List Nat):∀ (l:List Nd) (acc:List Nat),(∀ k (hk:k<l.length) q,(l[k].ins.take q).foldl (R1.in1 O (scan (R1.step O) acc (l.take k)) l[k]) (R1.start l[k])<zR)→yy O acc l=true
 | [],acc,_=>rfl
 | x::xs,acc,h=>by
   unfold yy;rw [Bool.and_eq_true];exact ⟨zjt _ _ _ fun q=>h 0 (by simp) q,zfI O xs _ fun k hk q=>h (k+1) (by simp;omega) q⟩
theorem R1_st (x:Nd):R1.start x=if x.kind=0∨(x.kind≠1∧x.kind≠2∧x.kind≠3) then 0 else 1:=by
 unfold Rg.start;split
 ·rw [if_neg (by omega)];rfl
 ·split
  ·rw [if_neg (by omega)];rfl
  ·rw [if_pos (by omega)];rfl
def pH (L:List Nat):List Value:=L.map fun v=>.string (zc v)
theorem zcQ (L:List Nat) (v:Nat):pH (L++[v])=pH L++[.string (zc v)]:=by unfold pH;rw [List.map_append];rfl
theorem zg9 (L:List Nat) (j:Nat) (h:j<L.length):(pH L)[j]?=some (.string (zc (L.getD j 0))):=by
 unfold pH;rw [List.getElem?_map,List.getD_eq_getElem?_getD,List.getElem?_eq_getElem h];rfl
theorem zjG (v:Nat) (hv:v<zR):zz v≤10000000:=zfg v (Nat.lt_of_lt_of_le hv (Nat.le_mul_of_pos_right _ (Nat.two_pow_pos _)))
theorem grow (B e a b:Nat) (ha:a<B) (hb:b<B*2^e):a+b<B*2^(e+1):=by
 rw [Nat.pow_succ,← Nat.mul_assoc];have:B≤B*2^e:=Nat.le_mul_of_pos_right _ (Nat.two_pow_pos _);omega
end Cs
namespace Go.Proofs.YtmhllppjcilllaaGreatDoor
theorem oneS {s:ByteArray} (u:Value) (h:u∈[Value.string s]):u.oneCell'=true:=by simp at h;subst h;rfl
theorem zki (w:World) (N:Nt) (A:Option Addr) (c:Nat) (hN:NtAt w w.heap.size A N.l) (hv:zG N=true) :
  Calls Tryz.prog 126 #[qg N A c] w fun e w'=>e = .returned (.bool (qJ N))∧Below w.heap.size w w':=by
 obtain ⟨hn0,hn1,hl0,hl1⟩:=qN hv;have hfm:=fun k hk=>jn hv k hk;have hva:=fun W h=>zhh W N A c h hv;have hdf:∀ k (hk:k<N.l.length) q,¬ (N.l[k].ins.take q).foldl (R1.in1 (own N.l) (scan (R1.step (own N.l)) [] (N.l.take k)) N.l[k]) (R1.start N.l[k])<zR→qJ N=false:=fun k hk q h=>by
  cases hb:qJ N
  ·rfl
  ·exact absurd (zdo hb k hk q) h
 have hdt:(∀ k (hk:k<N.l.length) q,(N.l[k].ins.take q).foldl (R1.in1 (own N.l) (scan (R1.step (own N.l)) [] (N.l.take k)) N.l[k]) (R1.start N.l[k])<zR)→qJ N=true:=fun h=>zfI _ _ _ h;obtain ⟨D,hD⟩:∃ D,qJ N=D:=⟨_,rfl⟩;simp only [hD] at hdt hdf;rw [hD];clear hD;obtain ⟨n,l⟩:=N;simp only at hN hn0 hn1 hl0 hl1 hfm hva hdf hdt;have hsc:∀ k (hk:k<l.length),scan (R1.step (own l)) [] (l.take (k+1))=scan (R1.step (own l)) [] (l.take k)++[R1.step (own l) (scan (R1.step (own l)) [] (l.take k)) l[k]]:=fun k hk=>jT _ l k hk;have hscl:∀ k,k≤l.length→(scan (R1.step (own l)) [] (l.take k)).length=k:=fun k hk=>yA _ l k hk;have hol:=zdt l;obtain ⟨O,hO⟩:∃ O,own l=O:=⟨_,rfl⟩;rw [hO] at hol;simp only [hO] at hva hdf hdt hsc hscl;have HDT:=zb hdt;have HDF:=zb hdf;have HFM:=zb hfm;have HVA:=zb hva;have HOL:=zb hol;have HSC:=zb hsc;have HSCL:=zb hscl;clear hfm hva hol hv hO hdt hdf hsc hscl;obtain ⟨ti,hti,ht0,ht1,ht2⟩:=info_parts info_str;have hbox:=yQ w ⟨n,l⟩ A c 24 _ rfl;have hbl:Below w.heap.size w (w.alloc (.cells #[.int .i64 n,.slice A l.length c] 24)):=(zx _ _).alloc (zu _) _;go_enter Tryz.func126, Tryz.ntmps126;go_wp2_with fail
 refine (HVA.out _ ((hN.below hbl).more hbl.size)).mono ?_;rintro e w5 ⟨g,cg,rfl,hgg,hvr,hb5⟩;replace hbox:=zo hbox hb5;replace hb5:=zw hbl hb5 hbl.size;have hz5:w.heap.size<w5.heap.size:=hbox.lt;have hgv:g<w5.heap.size:=by
  obtain ⟨bz,oz,ez,hz,_⟩:=hvr (by omega);injection ez with ez;injection ez with ez _;omega
 have HB5:=zb hb5;have HBOX:=zb hbox;have HVR:=zb hvr;clear hb5 HVA hbl hvr hgg hbox;go_wp2;go_loopw [4,5] (fun out t wr=>∃ (k:Nat),k≤l.length∧t = .int .i64 k∧wr.ownsRow w5.heap.size 9 1 out k (pH (scan (R1.step O) [] (l.take k)))∧Hid (∀ k' (hk:k'<l.length) q,k'<k→(l[k'].ins.take q).foldl (R1.in1 O (scan (R1.step O) [] (l.take k')) l[k']) (R1.start l[k'])<zR)∧Hid (∀ j,(scan (R1.step O) [] (l.take k)).getD j 0<zR)∧Below w5.heap.size w5 wr) (fun _ t _=>l.length-(intOf t).toNat)
 case atStart=>exact ⟨0,by omega,rfl,World.ownsRow_nil _ _ _ _,zb (fun k' _ q h=>absurd h (by omega)),zb (fun j=>Nat.lt_trans (by simp [scan]) yr),zx _ _⟩
 case round =>
  obtain ⟨k,hk,rfl,hown,HPR,HLB,hE⟩:=hrel;obtain ⟨hn1',hn2'⟩:=qy (zo HBOX.out hE);have hz6:=hE.size;by_cases hlt:k<l.length
  ·obtain ⟨b0,o0,rfl,hbB,hcs⟩:=hN (by omega);have hnd:=hcs k hlt;clear hcs;have hfk:=HFM.out k hlt;have hdf:=HDF.out k hlt;have hsc:=HSC.out k hlt;have hLl:=HSCL.out k hk;have hlb:=HLB.out;obtain ⟨x,hx⟩:∃ x,l[k]=x:=⟨_,rfl⟩;rw [hx] at hnd hfk hsc;simp only [hx] at hdf;obtain ⟨L,hL⟩:∃ L,scan (R1.step O) [] (l.take k)=L:=⟨_,rfl⟩;rw [hL] at hown hsc hLl;simp only [hL] at hdf hlb;have hpp:∀ q,(l[k].ins.take q).foldl (R1.in1 O (scan (R1.step O) [] (l.take k)) l[k]) (R1.start l[k])=(x.ins.take q).foldl (R1.in1 O L x) (R1.start x):=fun q=>by rw [hx,hL]
   obtain ⟨P,hP⟩:∃ P:Nat→Nat,P=fun q=>(x.ins.take q).foldl (R1.in1 O L x) (R1.start x):=⟨_,rfl⟩;have hpq:∀ q,(x.ins.take q).foldl (R1.in1 O L x) (R1.start x)=P q:=fun q=>by rw [hP]
   simp only [hpq] at hdf hpp;have hp0:P 0=R1.start x:=by rw [hP];rfl
   have hps:∀ (q j:Nat),q<x.ins.length→x.ins.getD q 0=(j:Int)→P (q+1)=R1.in1 O L x (P q) (j:Int):=fun q j h1 h2=>by
    rw [← hpq (q+1),List.take_succ_eq_append_getElem h1,List.foldl_append,hpq q];rw [← h2];simp [List.getD,h1]
   have hpl2:P x.ins.length=R1.step O L x:=by rw [hP];simp only [List.take_length];rfl
   have hpge:∀ q,x.ins.length≤q→P q=P x.ins.length:=fun q h=>by rw [hP];simp only [List.take_length,List.take_of_length_le h]
   rw [R1_st] at hp0;have hfkk:=zb4 hfk;have HDF1:=zb hdf;have HPP:=zb hpp;have HSC1:=zb hsc;have HLB1:=zb hlb;have HPS:=zb hps;have HPL2:=zb hpl2;have HPGE:=zb hpge;have HLl:=zb hLl;have HIN:=zb (formed_ins hfk);clear hx hsc hlb hdf hLl hfk hpq hP hps hpl2 hpge hpp HLB;have HL:=zb hL;clear hL;obtain ⟨hk1,hk2,⟨A',c',hk3,hrd⟩,hr1,hr2,hr3,hr4⟩:=hnd;have hb0:Below w.heap.size w wr:=HB5.out.trans (hE.mono (Nat.le_of_lt hz5));replace hk1:=zB hb0 hbB hk1;replace hk2:=zB hb0 hbB hk2;replace hk3:=zB hb0 hbB hk3;have HRD:=zb hrd;clear hrd;have hi0:(0:Int)≤(k:Int):=by omega
   have hi1:(k:Int)<(l.length:Int):=by omega
   obtain ⟨W0,rfl⟩:∃ W0,W0=wr:=⟨wr,rfl⟩;have hks:(x.kind=0∧x.ins.length=0)∨(x.kind=1∧x.ins.length=0)∨(x.kind=2∧x.ins.length=0)∨x.kind=3∨x.kind=4:=by omega
   clear hfkk;rcases hks with ⟨h1,h3⟩ | ⟨h1,h3⟩ | ⟨h1,h3⟩ | h1 | h1
   ·have hxA:=zhu (W:=W0) (x:=x) (A:=A') (c:=c') (t:=66) (a1:=0) (a2:=x.lit) rfl h1.symm rfl;rw [h1] at hk1;have hs1:=hown.alloc (.cells #[.int .i64 0,.int .i64 x.lit,.slice A' x.ins.length c'] 66);have hs2:=hE.alloc hz6 (.cells #[.int .i64 0,.int .i64 x.lit,.slice A' x.ins.length c'] 66);replace hp0:P 0=0:=by rw [hp0,if_pos (by omega)]
    have hsd:(Value.string ⟨#[48]⟩) = .string (zc (P 0)):=by rw [hp0,pU]
    have H3:=zb h3;clear h3;have HSD:=zb hsd;have HP0:=zb hp0;clear hE hown hsd hp0;go_wp2_with fail
    go_loopw [7,8] (fun sv t wq=>∃ (q:Nat),q≤x.ins.length∧t = .int .i64 q∧sv = .string (zc (P q))∧Hid (∀ q',q'≤q→P q'<zR)∧wq.ownsRow w5.heap.size 9 1 u4 k (pH L)∧wq.rowIs W0.heap.size 66 3 (ndF x A' c')∧W0.heap.size<wq.heap.size∧Below w5.heap.size w5 wq) (fun _ t _=>x.ins.length-(intOf t).toNat)
    case atStart=>exact ⟨0,by omega,rfl,HSD.out,zb (fun q' h=>by rw [show q'=0 by omega,HP0.out];exact Nat.lt_trans Nat.zero_lt_one yr),hs1,hxA,by simp,hs2⟩
    case round =>
     clear hxA hs1 hs2;obtain ⟨q,hq,rfl,rfl,HQ,hown,hxN,hzx,hE⟩:=hrel;obtain ⟨hx0,hx1,hx2⟩:=zeX hxN;rw [h1] at hx0;have hzq:=hE.size;by_cases hqlt:q<x.ins.length
     ·exact absurd hqlt (by have:=H3.out;omega)
     ·obtain rfl:q=x.ins.length:=by omega
      have hst:=HPL2.out;have hnx:=HSC1.out;rw [← hst] at hnx;have HNX:=zb hnx;have hown2:=hown.alloc (.cells #[.string (zc (P x.ins.length))] 9);have hlt0:∀ k,u4.ownBlock=some k→w5.heap.size≤k:=fun k hk=>(hown.lt k hk).1;clear hst hnx hown;go_wp2_with (at_builtin;refine wpList_append_own _ rfl _ _ 199 rfl w5.heap.size 9 ti (.string ⟨#[]⟩) 1 16 Tryz.underlying199 hti ht0 ht1 ht2 rfl (by decide) _ _ _ rfl hown2 ⟨wr.heap.size,0,none⟩ 1 1 [.string (zc (P x.ins.length))] rfl rfl pM oneS (by unfold maxLen;omega) (by omega) (by simp;omega) ?_;intro v' w3 hown3 hgr3 _)
      have hE3:=(hE.alloc hzq (.cells #[.string (zc (P x.ins.length))] 9)).grown hgr3 (by simp;omega) (fun b e=>hlt0 b e);rw [← zcQ,← HNX.out] at hown3;go_wp2;go_roundw
      case rel =>
       refine ⟨k+1,by omega,by go_num,hown3,zb (fun k' hk' q hlt'=>?_),zb (fun j=>?_),hE3⟩
       ·rcases Nat.lt_or_ge k' k with h4 | h4
        ·exact HPR.out k' hk' q h4
        ·obtain rfl:k'=k:=by omega
         rw [HPP.out];rcases Nat.lt_or_ge q x.ins.length with h5 | h5
         ·exact HQ.out q (by omega)
         ·rw [HPGE.out q h5];exact HQ.out _ (zu _)
       ·rw [HNX.out];rcases Nat.lt_or_ge j L.length with h4 | h4
        ·rw [List.getD_eq_getElem?_getD,List.getElem?_append_left h4,← List.getD_eq_getElem?_getD];exact HLB1.out j
        ·rcases Nat.eq_zero_or_pos (j-L.length) with h5 | h5
         ·rw [List.getD_eq_getElem?_getD,List.getElem?_append_right h4,h5];exact HQ.out _ (zu _)
         ·rw [List.getD_eq_getElem?_getD,List.getElem?_eq_none (by simp;omega)];exact Nat.lt_trans Nat.zero_lt_one yr
      case measure=>simp [intOf];omega
   ·have hxA:=zhu (W:=W0) (x:=x) (A:=A') (c:=c') (t:=66) (a1:=1) (a2:=x.lit) rfl h1.symm rfl;rw [h1] at hk1;have hs1:=hown.alloc (.cells #[.int .i64 1,.int .i64 x.lit,.slice A' x.ins.length c'] 66);have hs2:=hE.alloc hz6 (.cells #[.int .i64 1,.int .i64 x.lit,.slice A' x.ins.length c'] 66);replace hp0:P 0=1:=by rw [hp0,if_neg (by omega)]
    have hsd:(Value.string ⟨#[49]⟩) = .string (zc (P 0)):=by rw [hp0,zg7]
    have H3:=zb h3;clear h3;have HSD:=zb hsd;have HP0:=zb hp0;clear hE hown hsd hp0;go_wp2_with fail
    go_loopw [7,8] (fun sv t wq=>∃ (q:Nat),q≤x.ins.length∧t = .int .i64 q∧sv = .string (zc (P q))∧Hid (∀ q',q'≤q→P q'<zR)∧wq.ownsRow w5.heap.size 9 1 u4 k (pH L)∧wq.rowIs W0.heap.size 66 3 (ndF x A' c')∧W0.heap.size<wq.heap.size∧Below w5.heap.size w5 wq) (fun _ t _=>x.ins.length-(intOf t).toNat)
    case atStart=>exact ⟨0,by omega,rfl,HSD.out,zb (fun q' h=>by rw [show q'=0 by omega,HP0.out];exact yr),hs1,hxA,by simp,hs2⟩
    case round =>
     clear hxA hs1 hs2;obtain ⟨q,hq,rfl,rfl,HQ,hown,hxN,hzx,hE⟩:=hrel;obtain ⟨hx0,hx1,hx2⟩:=zeX hxN;rw [h1] at hx0;have hzq:=hE.size;by_cases hqlt:q<x.ins.length
     ·exact absurd hqlt (by have:=H3.out;omega)
     ·obtain rfl:q=x.ins.length:=by omega
      have hst:=HPL2.out;have hnx:=HSC1.out;rw [← hst] at hnx;have HNX:=zb hnx;have hown2:=hown.alloc (.cells #[.string (zc (P x.ins.length))] 9);have hlt0:∀ k,u4.ownBlock=some k→w5.heap.size≤k:=fun k hk=>(hown.lt k hk).1;clear hst hnx hown;go_wp2_with (at_builtin;refine wpList_append_own _ rfl _ _ 199 rfl w5.heap.size 9 ti (.string ⟨#[]⟩) 1 16 Tryz.underlying199 hti ht0 ht1 ht2 rfl (by decide) _ _ _ rfl hown2 ⟨wr.heap.size,0,none⟩ 1 1 [.string (zc (P x.ins.length))] rfl rfl pM oneS (by unfold maxLen;omega) (by omega) (by simp;omega) ?_;intro v' w3 hown3 hgr3 _)
      have hE3:=(hE.alloc hzq (.cells #[.string (zc (P x.ins.length))] 9)).grown hgr3 (by simp;omega) (fun b e=>hlt0 b e);rw [← zcQ,← HNX.out] at hown3;go_wp2;go_roundw
      case rel =>
       refine ⟨k+1,by omega,by go_num,hown3,zb (fun k' hk' q hlt'=>?_),zb (fun j=>?_),hE3⟩
       ·rcases Nat.lt_or_ge k' k with h4 | h4
        ·exact HPR.out k' hk' q h4
        ·obtain rfl:k'=k:=by omega
         rw [HPP.out];rcases Nat.lt_or_ge q x.ins.length with h5 | h5
         ·exact HQ.out q (by omega)
         ·rw [HPGE.out q h5];exact HQ.out _ (zu _)
       ·rw [HNX.out];rcases Nat.lt_or_ge j L.length with h4 | h4
        ·rw [List.getD_eq_getElem?_getD,List.getElem?_append_left h4,← List.getD_eq_getElem?_getD];exact HLB1.out j
        ·rcases Nat.eq_zero_or_pos (j-L.length) with h5 | h5
         ·rw [List.getD_eq_getElem?_getD,List.getElem?_append_right h4,h5];exact HQ.out _ (zu _)
         ·rw [List.getD_eq_getElem?_getD,List.getElem?_eq_none (by simp;omega)];exact Nat.lt_trans Nat.zero_lt_one yr
      case measure=>simp [intOf];omega
   ·have hxA:=zhu (W:=W0) (x:=x) (A:=A') (c:=c') (t:=66) (a1:=2) (a2:=x.lit) rfl h1.symm rfl;rw [h1] at hk1;have hs1:=hown.alloc (.cells #[.int .i64 2,.int .i64 x.lit,.slice A' x.ins.length c'] 66);have hs2:=hE.alloc hz6 (.cells #[.int .i64 2,.int .i64 x.lit,.slice A' x.ins.length c'] 66);replace hp0:P 0=1:=by rw [hp0,if_neg (by omega)]
    have hsd:(Value.string ⟨#[49]⟩) = .string (zc (P 0)):=by rw [hp0,zg7]
    have H3:=zb h3;clear h3;have HSD:=zb hsd;have HP0:=zb hp0;clear hE hown hsd hp0;go_wp2_with fail
    go_loopw [7,8] (fun sv t wq=>∃ (q:Nat),q≤x.ins.length∧t = .int .i64 q∧sv = .string (zc (P q))∧Hid (∀ q',q'≤q→P q'<zR)∧wq.ownsRow w5.heap.size 9 1 u4 k (pH L)∧wq.rowIs W0.heap.size 66 3 (ndF x A' c')∧W0.heap.size<wq.heap.size∧Below w5.heap.size w5 wq) (fun _ t _=>x.ins.length-(intOf t).toNat)
    case atStart=>exact ⟨0,by omega,rfl,HSD.out,zb (fun q' h=>by rw [show q'=0 by omega,HP0.out];exact yr),hs1,hxA,by simp,hs2⟩
    case round =>
     clear hxA hs1 hs2;obtain ⟨q,hq,rfl,rfl,HQ,hown,hxN,hzx,hE⟩:=hrel;obtain ⟨hx0,hx1,hx2⟩:=zeX hxN;rw [h1] at hx0;have hzq:=hE.size;by_cases hqlt:q<x.ins.length
     ·exact absurd hqlt (by have:=H3.out;omega)
     ·obtain rfl:q=x.ins.length:=by omega
      have hst:=HPL2.out;have hnx:=HSC1.out;rw [← hst] at hnx;have HNX:=zb hnx;have hown2:=hown.alloc (.cells #[.string (zc (P x.ins.length))] 9);have hlt0:∀ k,u4.ownBlock=some k→w5.heap.size≤k:=fun k hk=>(hown.lt k hk).1;clear hst hnx hown;go_wp2_with (at_builtin;refine wpList_append_own _ rfl _ _ 199 rfl w5.heap.size 9 ti (.string ⟨#[]⟩) 1 16 Tryz.underlying199 hti ht0 ht1 ht2 rfl (by decide) _ _ _ rfl hown2 ⟨wr.heap.size,0,none⟩ 1 1 [.string (zc (P x.ins.length))] rfl rfl pM oneS (by unfold maxLen;omega) (by omega) (by simp;omega) ?_;intro v' w3 hown3 hgr3 _)
      have hE3:=(hE.alloc hzq (.cells #[.string (zc (P x.ins.length))] 9)).grown hgr3 (by simp;omega) (fun b e=>hlt0 b e);rw [← zcQ,← HNX.out] at hown3;go_wp2;go_roundw
      case rel =>
       refine ⟨k+1,by omega,by go_num,hown3,zb (fun k' hk' q hlt'=>?_),zb (fun j=>?_),hE3⟩
       ·rcases Nat.lt_or_ge k' k with h4 | h4
        ·exact HPR.out k' hk' q h4
        ·obtain rfl:k'=k:=by omega
         rw [HPP.out];rcases Nat.lt_or_ge q x.ins.length with h5 | h5
         ·exact HQ.out q (by omega)
         ·rw [HPGE.out q h5];exact HQ.out _ (zu _)
       ·rw [HNX.out];rcases Nat.lt_or_ge j L.length with h4 | h4
        ·rw [List.getD_eq_getElem?_getD,List.getElem?_append_left h4,← List.getD_eq_getElem?_getD];exact HLB1.out j
        ·rcases Nat.eq_zero_or_pos (j-L.length) with h5 | h5
         ·rw [List.getD_eq_getElem?_getD,List.getElem?_append_right h4,h5];exact HQ.out _ (zu _)
         ·rw [List.getD_eq_getElem?_getD,List.getElem?_eq_none (by simp;omega)];exact Nat.lt_trans Nat.zero_lt_one yr
      case measure=>simp [intOf];omega
   ·have hxA:=zhu (W:=W0) (x:=x) (A:=A') (c:=c') (t:=66) (a1:=3) (a2:=x.lit) rfl h1.symm rfl;rw [h1] at hk1;have hs1:=hown.alloc (.cells #[.int .i64 3,.int .i64 x.lit,.slice A' x.ins.length c'] 66);have hs2:=hE.alloc hz6 (.cells #[.int .i64 3,.int .i64 x.lit,.slice A' x.ins.length c'] 66);replace hp0:P 0=1:=by rw [hp0,if_neg (by omega)]
    have hsd:(Value.string ⟨#[49]⟩) = .string (zc (P 0)):=by rw [hp0,zg7]
    have H3:=True;have HSD:=zb hsd;have HP0:=zb hp0;clear hE hown hsd hp0;go_wp2_with fail
    go_loopw [7,8] (fun sv t wq=>∃ (q:Nat),q≤x.ins.length∧t = .int .i64 q∧sv = .string (zc (P q))∧Hid (∀ q',q'≤q→P q'<zR)∧wq.ownsRow w5.heap.size 9 1 u4 k (pH L)∧wq.rowIs W0.heap.size 66 3 (ndF x A' c')∧W0.heap.size<wq.heap.size∧Below w5.heap.size w5 wq) (fun _ t _=>x.ins.length-(intOf t).toNat)
    case atStart=>exact ⟨0,by omega,rfl,HSD.out,zb (fun q' h=>by rw [show q'=0 by omega,HP0.out];exact yr),hs1,hxA,by simp,hs2⟩
    case round =>
     clear hxA hs1 hs2;obtain ⟨q,hq,rfl,rfl,HQ,hown,hxN,hzx,hE⟩:=hrel;obtain ⟨hx0,hx1,hx2⟩:=zeX hxN;rw [h1] at hx0;have hzq:=hE.size;by_cases hqlt:q<x.ins.length
     ·obtain ⟨b',o',rfl,hbB',hcs⟩:=HRD.out (by omega);have hb1:Below w.heap.size w wr:=HB5.out.trans (hE.mono (Nat.le_of_lt hz5));have hc:=zB hb1 hbB' (hcs q hqlt);clear hcs;unfold zO at hc;obtain ⟨j,hj1,hj2⟩:=HIN.out q hqlt;rw [hj1] at hc;have hpn:=HPS.out q j hqlt hj1;have hyb:=HLB1.out j;have hpb:=HQ.out q (zu _);have hdf:=HDF1.out (q+1);obtain ⟨gr,cr,rfl,hgr1,hgr2⟩:=yX hown (by omega);have hol2:wr.cell? ⟨gr,j,none⟩=some (.string (zc (L.getD j 0))):=by rw [hown.cellAt j (by omega)];exact zg9 L j (by rw [HLl.out];exact hj2)
      obtain ⟨y,hy⟩:∃ y,L.getD j 0=y:=⟨_,rfl⟩;rw [hy] at hol2 hyb;have j0:(0:Int)≤(j:Int):=by omega
      have j1:(j:Int)<(k:Int):=by omega
      have j2:(j:Int)<(l.length:Int):=by omega
      have q0:(0:Int)≤(q:Int):=by omega
      have q1:(q:Int)<(x.ins.length:Int):=by omega
      have hpn2:P (q+1)=P q*y:=by
       rw [hpn];unfold Rg.in1;rw [if_pos (.inr h1)];show P q*(L.getD (j:Int).toNat 0)=_;rw [Int.toNat_natCast,hy]
      have hmu:=zbJ wr (P q) y (zjG _ hpb) (zjG _ hyb);rw [← hpn2] at hmu;have hmd:zz (P (q+1))≤10000000:=by
       have h5:P (q+1)<zR*zR:=by rw [hpn2];exact Nat.mul_lt_mul'' hpb hyb
       refine zgA _ (jq+jq) 10000000 (by rw [Nat.pow_add,← zdO];exact h5) (by rw [zcr];decide) (by decide)
      have hsh:=fun W=>zdp W (P (q+1)) hmd;have HMU:=zb hmu;have HDF2:=zb hdf;obtain ⟨B,hB⟩:∃ B,decide (P (q+1)<zR)=B:=⟨_,rfl⟩;simp only [hB] at hsh;have HSH:=zb hsh;clear hpn hpn2 hmu hmd hsh hdf hpb hyb hj1 hy;go_wp2_with fail
      refine HMU.out.mono ?_;rintro e w9 ⟨rfl,hb9⟩;have hE9:=zw hE hb9 hzq;have hx9:=zo hxN hb9;have ho9:=yB hown hb9;have hz9:=hb9.size;clear hx0 hx1 hx2;cases B
      ·have hnb:=of_decide_eq_false hB;have hD:=HDF2.out hnb;subst hD;go_wp2_with fail
       refine (HSH.out _).mono ?_;rintro e w10 ⟨rfl,hb10⟩;have hE10:=zw hE9 hb10 hE9.size;have hbw:Below w.heap.size w w10:=HB5.out.trans (hE10.mono (Nat.le_of_lt hz5));go_wp2;go_ret;exact ⟨rfl,hbw⟩
      ·have hnb:=of_decide_eq_true hB;go_wp2_with fail
       refine (HSH.out _).mono ?_;rintro e w10 ⟨rfl,hb10⟩;have hE10:=zw hE9 hb10 hE9.size;go_wp2;go_roundw
       case rel =>
        refine ⟨q+1,by omega,by go_num,rfl,zb (fun q' h=>?_),yB ho9 hb10,zo hx9 hb10,Nat.lt_of_lt_of_le hzx (Nat.le_trans hz9 hb10.size),hE10⟩;rcases Nat.lt_or_ge q' (q+1) with h5 | h5
        ·exact HQ.out q' (by omega)
        ·rw [show q'=q+1 by omega];exact hnb
       case measure=>simp [intOf];omega
     ·obtain rfl:q=x.ins.length:=by omega
      have hst:=HPL2.out;have hnx:=HSC1.out;rw [← hst] at hnx;have HNX:=zb hnx;have hown2:=hown.alloc (.cells #[.string (zc (P x.ins.length))] 9);have hlt0:∀ k,u4.ownBlock=some k→w5.heap.size≤k:=fun k hk=>(hown.lt k hk).1;clear hst hnx hown;go_wp2_with (at_builtin;refine wpList_append_own _ rfl _ _ 199 rfl w5.heap.size 9 ti (.string ⟨#[]⟩) 1 16 Tryz.underlying199 hti ht0 ht1 ht2 rfl (by decide) _ _ _ rfl hown2 ⟨wr.heap.size,0,none⟩ 1 1 [.string (zc (P x.ins.length))] rfl rfl pM oneS (by unfold maxLen;omega) (by omega) (by simp;omega) ?_;intro v' w3 hown3 hgr3 _)
      have hE3:=(hE.alloc hzq (.cells #[.string (zc (P x.ins.length))] 9)).grown hgr3 (by simp;omega) (fun b e=>hlt0 b e);rw [← zcQ,← HNX.out] at hown3;go_wp2;go_roundw
      case rel =>
       refine ⟨k+1,by omega,by go_num,hown3,zb (fun k' hk' q hlt'=>?_),zb (fun j=>?_),hE3⟩
       ·rcases Nat.lt_or_ge k' k with h4 | h4
        ·exact HPR.out k' hk' q h4
        ·obtain rfl:k'=k:=by omega
         rw [HPP.out];rcases Nat.lt_or_ge q x.ins.length with h5 | h5
         ·exact HQ.out q (by omega)
         ·rw [HPGE.out q h5];exact HQ.out _ (zu _)
       ·rw [HNX.out];rcases Nat.lt_or_ge j L.length with h4 | h4
        ·rw [List.getD_eq_getElem?_getD,List.getElem?_append_left h4,← List.getD_eq_getElem?_getD];exact HLB1.out j
        ·rcases Nat.eq_zero_or_pos (j-L.length) with h5 | h5
         ·rw [List.getD_eq_getElem?_getD,List.getElem?_append_right h4,h5];exact HQ.out _ (zu _)
         ·rw [List.getD_eq_getElem?_getD,List.getElem?_eq_none (by simp;omega)];exact Nat.lt_trans Nat.zero_lt_one yr
      case measure=>simp [intOf];omega
   ·have hxA:=zhu (W:=W0) (x:=x) (A:=A') (c:=c') (t:=66) (a1:=4) (a2:=x.lit) rfl h1.symm rfl;rw [h1] at hk1;have hs1:=hown.alloc (.cells #[.int .i64 4,.int .i64 x.lit,.slice A' x.ins.length c'] 66);have hs2:=hE.alloc hz6 (.cells #[.int .i64 4,.int .i64 x.lit,.slice A' x.ins.length c'] 66);replace hp0:P 0=0:=by rw [hp0,if_pos (by omega)]
    have hsd:(Value.string ⟨#[48]⟩) = .string (zc (P 0)):=by rw [hp0,pU]
    have H3:=True;have HSD:=zb hsd;have HP0:=zb hp0;clear hE hown hsd hp0;go_wp2_with fail
    go_loopw [7,8] (fun sv t wq=>∃ (q:Nat),q≤x.ins.length∧t = .int .i64 q∧sv = .string (zc (P q))∧Hid (∀ q',q'≤q→P q'<zR)∧wq.ownsRow w5.heap.size 9 1 u4 k (pH L)∧wq.rowIs W0.heap.size 66 3 (ndF x A' c')∧W0.heap.size<wq.heap.size∧Below w5.heap.size w5 wq) (fun _ t _=>x.ins.length-(intOf t).toNat)
    case atStart=>exact ⟨0,by omega,rfl,HSD.out,zb (fun q' h=>by rw [show q'=0 by omega,HP0.out];exact Nat.lt_trans Nat.zero_lt_one yr),hs1,hxA,by simp,hs2⟩
    case round =>
     clear hxA hs1 hs2;obtain ⟨q,hq,rfl,rfl,HQ,hown,hxN,hzx,hE⟩:=hrel;obtain ⟨hx0,hx1,hx2⟩:=zeX hxN;rw [h1] at hx0;have hzq:=hE.size;by_cases hqlt:q<x.ins.length
     ·obtain ⟨b',o',rfl,hbB',hcs⟩:=HRD.out (by omega);have hb1:Below w.heap.size w wr:=HB5.out.trans (hE.mono (Nat.le_of_lt hz5));have hc:=zB hb1 hbB' (hcs q hqlt);clear hcs;unfold zO at hc;obtain ⟨j,hj1,hj2⟩:=HIN.out q hqlt;rw [hj1] at hc;have hpn:=HPS.out q j hqlt hj1;have hyb:=HLB1.out j;have hpb:=HQ.out q (zu _);have hdf:=HDF1.out (q+1);obtain ⟨gr,cr,rfl,hgr1,hgr2⟩:=yX hown (by omega);have hol2:wr.cell? ⟨gr,j,none⟩=some (.string (zc (L.getD j 0))):=by rw [hown.cellAt j (by omega)];exact zg9 L j (by rw [HLl.out];exact hj2)
      obtain ⟨y,hy⟩:∃ y,L.getD j 0=y:=⟨_,rfl⟩;rw [hy] at hol2 hyb;have j0:(0:Int)≤(j:Int):=by omega
      have j1:(j:Int)<(k:Int):=by omega
      have j2:(j:Int)<(l.length:Int):=by omega
      have q0:(0:Int)≤(q:Int):=by omega
      have q1:(q:Int)<(x.ins.length:Int):=by omega
      have hin:P (q+1)=P q+R1.wide y (vl (zP (O.getD k 0) (O.getD j 0))):=by
       rw [hpn];unfold Rg.in1;rw [if_neg (by omega)];show P q+R1.wide (L.getD (j:Int).toNat 0) (vl (zP (O.getD L.length 0) (O.getD (j:Int).toNat 0)))=_;rw [Int.toNat_natCast,hy,HLl.out]
      rw [zi8,← vlk_vl] at hin;have hvr1:=HVR.out.below hE;obtain ⟨sk,hsk⟩:∃ z,O.getD k 0=z:=⟨_,rfl⟩;obtain ⟨sj,hsj⟩:∃ z,O.getD j 0=z:=⟨_,rfl⟩;have hvc:∀ W,Below w5.heap.size w5 W→(W.cell? ⟨g,k*2,none⟩=some (.int .u64 (lo sk:Int))∧W.cell? ⟨g,k*2+1,none⟩=some (.int .u64 (hi sk:Int)))∧(W.cell? ⟨g,j*2,none⟩=some (.int .u64 (lo sj:Int))∧W.cell? ⟨g,j*2+1,none⟩=some (.int .u64 (hi sj:Int))):=fun W hW=>by
       have h5:=HVR.out.below hW;rw [← hsk,← hsj];exact ⟨zjc h5 k hlt,zjc h5 j (by omega)⟩
      rw [hsk,hsj] at hin;obtain ⟨F,hF⟩:∃ F:Nat→List Int,F=fun v=>vlk (zP sk sj) v:=⟨_,rfl⟩;have hfv:∀ v,vlk (zP sk sj) v=F v:=fun v=>by rw [hF]
      have hf0:(F 0).length=0:=by rw [hF];rfl
      have hfs:∀ v,(F (v+1)).length=if sk.testBit v && !sj.testBit v then (F v).length+1 else (F v).length:=fun v=>by
       rw [← hfv (v+1),p9,p8,hfv];split <;> simp
      have hfl:∀ v,(F v).length≤v:=fun v=>by rw [hF];exact vlk_len _ _
      rw [hfv] at hin;have HIN1:=zb hin;have HFS:=zb hfs;have HFL:=zb hfl;have HF0:=zb hf0;have HVC:=zb hvc;have HDF2:=zb hdf;have HPB:=zb hpb;have HYB:=zb hyb;have HHC:=zb hc;have HBJ:=zb hbB';have HY:=zb hy;clear hpn hin hvr1 hsk hsj hF hfv hfs hfl hf0 hvc hdf hpb hyb hj1 hy;go_wp2_with fail
      clear hx0 hx1 hx2 hc hol2 hb1;obtain ⟨W1,rfl⟩:∃ W1,W1=wr:=⟨wr,rfl⟩;go_loopw [10,11] (fun mo t wq=>∃ (v:Nat),v≤128∧t = .int .i64 ((v:Int)+1)∧mo = .int .i64 ((F v).length:Int)∧wq.ownsRow w5.heap.size 9 1 (.slice (some ⟨gr,0,none⟩) k cr) k (pH L)∧wq.rowIs W0.heap.size 66 3 (ndF x (some ⟨b',o',none⟩) c')∧W0.heap.size<wq.heap.size∧Below w5.heap.size w5 wq) (fun _ t _=>129-(intOf t).toNat)
      case atStart=>exact ⟨0,by omega,rfl,by rw [HF0.out];rfl,hown,hxN,hzx,hE⟩
      case round =>
       clear hown hxN hzx hE hzq hgr2;obtain ⟨v,hv,rfl,rfl,hown,hxN,hzx,hE⟩:=hrel;have hzq:=hE.size;by_cases hvlt:v<128
       ·have hia:=fun W=>gj W sk (v+1) (by omega) (by omega);have hio:=fun W=>gj W sj (v+1) (by omega) (by omega);simp only [Nat.add_sub_cancel,Int.natCast_succ] at hia hio;have hfs:=HFS.out v;obtain ⟨⟨s1,s2⟩,s3,s4⟩:=HVC.out wr hE;cases hba:sk.testBit v
        ·rw [hba] at hfs;simp only [hba] at hia;have hfs2:(F (v+1)).length=(F v).length:=hfs;have HIA:=zb hia;have HFS2:=zb hfs2;clear hia hio hfs hfs2 hba;go_wp2_with (go_at_call 162;(with_reducible refine (HIA.out _).mono ?_);rintro e w6 ⟨rfl,hb6⟩)
         go_roundw
         case rel=>exact ⟨v+1,by omega,by go_num,by rw [HFS2.out],yB hown hb6,zo hxN hb6,Nat.lt_of_lt_of_le hzx hb6.size,zw hE hb6 hzq⟩
         case measure=>simp [intOf];omega
        ·cases hbo:sj.testBit v
         ·rw [hba,hbo] at hfs;simp only [hba] at hia;simp only [hbo] at hio;have hfs2:(F (v+1)).length=(F v).length+1:=hfs;have HIA:=zb hia;have HIO:=zb hio;have HFS2:=zb hfs2;have hfle:=HFL.out v;clear hia hio hfs hfs2 hba hbo;go_wp2_with fail
          refine (HIA.out _).mono ?_;rintro e w6 ⟨rfl,hb6⟩;have hE6:=zw hE hb6 hzq;obtain ⟨⟨s1,s2⟩,s3,s4⟩:=HVC.out w6 hE6;go_wp2_with fail
          refine (HIO.out _).mono ?_;rintro e w7 ⟨rfl,hb7⟩;go_wp2;go_roundw
          case rel=>exact ⟨v+1,by omega,by go_num,by rw [HFS2.out];go_num,yB (yB hown hb6) hb7,zo (zo hxN hb6) hb7,Nat.lt_of_lt_of_le hzx (Nat.le_trans hb6.size hb7.size),zw hE6 hb7 hE6.size⟩
          case measure=>simp [intOf];omega
         ·rw [hba,hbo] at hfs;simp only [hba] at hia;simp only [hbo] at hio;have hfs2:(F (v+1)).length=(F v).length:=hfs;have HIA:=zb hia;have HIO:=zb hio;have HFS2:=zb hfs2;clear hia hio hfs hfs2 hba hbo;go_wp2_with fail
          refine (HIA.out _).mono ?_;rintro e w6 ⟨rfl,hb6⟩;have hE6:=zw hE hb6 hzq;obtain ⟨⟨s1,s2⟩,s3,s4⟩:=HVC.out w6 hE6;go_wp2_with fail
          refine (HIO.out _).mono ?_;rintro e w7 ⟨rfl,hb7⟩;go_wp2;go_roundw
          case rel=>exact ⟨v+1,by omega,by go_num,by rw [HFS2.out],yB (yB hown hb6) hb7,zo (zo hxN hb6) hb7,Nat.lt_of_lt_of_le hzx (Nat.le_trans hb6.size hb7.size),zw hE6 hb7 hE6.size⟩
          case measure=>simp [intOf];omega
       ·obtain rfl:v=128:=by omega
        have hml:=HFL.out 128;have hin:=HIN1.out;obtain ⟨m,hm⟩:∃ m,(F 128).length=m:=⟨_,rfl⟩;simp only [hm] at hml hin ⊢;have hol2:wr.cell? ⟨gr,j,none⟩=some (.string (zc y)):=by rw [hown.cellAt j (by omega),← HY.out];exact zg9 L j (by rw [HLl.out];exact hj2)
        obtain ⟨Y,hY⟩:∃ Y,y*2^m=Y:=⟨_,rfl⟩;have hpw:=fun W=>zhj W m (by omega);have hmu:=fun W=>zbJ W y (2^m) (zjG _ HYB.out) (zgA _ (m+1) 10000000 (Nat.pow_lt_pow_right (by decide) (by omega)) (by omega) (by decide));simp only [hY] at hmu;rw [hY] at hin;have hYd:zz Y≤10000000:=by
         refine zfg _ ?_;rw [← hY]
         calc y*2^m≤y*2^200:=Nat.mul_le_mul_left _ (Nat.pow_le_pow_right (by decide) (by omega))
          _<zR*2^200:=Nat.mul_lt_mul_of_pos_right HYB.out (Nat.two_pow_pos _)
        have had:=fun W=>zeu W (P q) Y (zjG _ HPB.out) hYd;simp only [← hin] at had;have hSd:zz (P (q+1))≤10000000:=by
         refine zfg _ ?_;rw [hin,← hY];have h5:y*2^m<zR*2^199:=by
          calc y*2^m≤y*2^199:=Nat.mul_le_mul_left _ (Nat.pow_le_pow_right (by decide) (by omega))
           _<zR*2^199:=Nat.mul_lt_mul_of_pos_right HYB.out (Nat.two_pow_pos _)
         exact grow zR 199 _ _ HPB.out h5
        have hs1:=fun W=>zdp W Y hYd;have hs2:=fun W=>zdp W (P (q+1)) hSd;obtain ⟨B1,hB1⟩:∃ B,decide (Y<zR)=B:=⟨_,rfl⟩;obtain ⟨B2,hB2⟩:∃ B,decide (P (q+1)<zR)=B:=⟨_,rfl⟩;simp only [hB1] at hs1;simp only [hB2] at hs2;have HPW:=zb hpw;have HMU:=zb hmu;have HAD:=zb had;have HS1:=zb hs1;have HS2:=zb hs2;have HSI:=zb hin;have HB1:=zb hB1;have HB2:=zb hB2;have hgl:gr<wr.heap.size:=hown.lt gr rfl |>.2
        have c1:wr.drew.cell? ⟨gr,j,none⟩=some (.string (zc y)):=hol2;have l1:gr<wr.drew.heap.size:=hgl;have HOD:=zb hown.drew;have HXD:=zb hxN.drew;have HED:=zb (qV hE 1);have hzD:W0.heap.size<wr.drew.heap.size:=hzx;clear hpw hmu had hs1 hs2 hin hB1 hB2 hY hYd hSd hm hol2 hgl hown hxN hE;go_wp2_with fail
        go_region_held3 (fun w'=>w'.cell? ⟨gr,j,none⟩=some (.string (zc y))) (first | exact c1 | go_keep)
         (first
           | (go_simp
              go_at_call 163;(with_reducible refine (HPW.out _).mono ?_);rintro e' w9 ⟨rfl,hb9⟩;have c1:=zB hb9 l1 c1;have hz9:=hb9.size;have HO9:=zb (yB HOD.out hb9);have HX9:=zb (zo HXD.out hb9);have HE9:=zb (zw HED.out hb9 HED.out.size))
           | (go_simp
              go_at_call 115;(with_reducible refine (HMU.out _).mono ?_);rintro e' w10 ⟨rfl,hb10⟩;have c1:=zB hb10 (Nat.lt_of_lt_of_le l1 hz9) c1;have hz10:=hb10.size;have HO10:=zb (yB HO9.out hb10);have HX10:=zb (zo HX9.out hb10);have HE10:=zb (zw HE9.out hb10 HE9.out.size)))
        all_goals
         clear c1;go_wp2_with fail
         refine (HAD.out _).mono ?_;rintro e w11 ⟨rfl,hb11⟩;have HO11:=zb (yB HO10.out hb11);have HX11:=zb (zo HX10.out hb11);have HE11:=zb (zw HE10.out hb11 HE10.out.size);have hz11:=hb11.size;cases B1
         ·have hnb:=of_decide_eq_false HB1.out;have hD:=HDF2.out (by have:=HSI.out;omega);subst hD;go_wp2_with fail
          refine (HS1.out _).mono ?_;rintro e w12 ⟨rfl,hb12⟩;have hE12:=zw HE11.out hb12 HE11.out.size;have hbw:Below w.heap.size w w12:=HB5.out.trans (hE12.mono (Nat.le_of_lt hz5));go_wp2;go_ret;exact ⟨rfl,hbw⟩
         ·go_wp2_with fail
          refine (HS1.out _).mono ?_;rintro e w12 ⟨rfl,hb12⟩;have hE12:=zw HE11.out hb12 HE11.out.size;have hz12:=hb12.size;cases B2
          ·have hnb:=of_decide_eq_false HB2.out;have hD:=HDF2.out hnb;subst hD;go_wp2_with fail
           refine (HS2.out _).mono ?_;rintro e w13 ⟨rfl,hb13⟩;have hE13:=zw hE12 hb13 hE12.size;have hbw:Below w.heap.size w w13:=HB5.out.trans (hE13.mono (Nat.le_of_lt hz5));go_wp2;go_ret;exact ⟨rfl,hbw⟩
          ·have hnb:=of_decide_eq_true HB2.out;go_wp2_with fail
           refine (HS2.out _).mono ?_;rintro e w13 ⟨rfl,hb13⟩;have hE13:=zw hE12 hb13 hE12.size;have hz13:=hb13.size;go_wp2;go_roundw
           case rel =>
            refine ⟨q+1,by omega,by go_num,rfl,zb (fun q' h=>?_),yB (yB HO11.out hb12) hb13,zo (zo HX11.out hb12) hb13,by omega,hE13⟩;rcases Nat.lt_or_ge q' (q+1) with h5 | h5
            ·exact HQ.out q' (by omega)
            ·rw [show q'=q+1 by omega];exact hnb
           case measure=>simp [intOf];omega
     ·obtain rfl:q=x.ins.length:=by omega
      have hst:=HPL2.out;have hnx:=HSC1.out;rw [← hst] at hnx;have HNX:=zb hnx;have hown2:=hown.alloc (.cells #[.string (zc (P x.ins.length))] 9);have hlt0:∀ k,u4.ownBlock=some k→w5.heap.size≤k:=fun k hk=>(hown.lt k hk).1;clear hst hnx hown;go_wp2_with (at_builtin;refine wpList_append_own _ rfl _ _ 199 rfl w5.heap.size 9 ti (.string ⟨#[]⟩) 1 16 Tryz.underlying199 hti ht0 ht1 ht2 rfl (by decide) _ _ _ rfl hown2 ⟨wr.heap.size,0,none⟩ 1 1 [.string (zc (P x.ins.length))] rfl rfl pM oneS (by unfold maxLen;omega) (by omega) (by simp;omega) ?_;intro v' w3 hown3 hgr3 _)
      have hE3:=(hE.alloc hzq (.cells #[.string (zc (P x.ins.length))] 9)).grown hgr3 (by simp;omega) (fun b e=>hlt0 b e);rw [← zcQ,← HNX.out] at hown3;go_wp2;go_roundw
      case rel =>
       refine ⟨k+1,by omega,by go_num,hown3,zb (fun k' hk' q hlt'=>?_),zb (fun j=>?_),hE3⟩
       ·rcases Nat.lt_or_ge k' k with h4 | h4
        ·exact HPR.out k' hk' q h4
        ·obtain rfl:k'=k:=by omega
         rw [HPP.out];rcases Nat.lt_or_ge q x.ins.length with h5 | h5
         ·exact HQ.out q (by omega)
         ·rw [HPGE.out q h5];exact HQ.out _ (zu _)
       ·rw [HNX.out];rcases Nat.lt_or_ge j L.length with h4 | h4
        ·rw [List.getD_eq_getElem?_getD,List.getElem?_append_left h4,← List.getD_eq_getElem?_getD];exact HLB1.out j
        ·rcases Nat.eq_zero_or_pos (j-L.length) with h5 | h5
         ·rw [List.getD_eq_getElem?_getD,List.getElem?_append_right h4,h5];exact HQ.out _ (zu _)
         ·rw [List.getD_eq_getElem?_getD,List.getElem?_eq_none (by simp;omega)];exact Nat.lt_trans Nat.zero_lt_one yr
      case measure=>simp [intOf];omega
  ·obtain rfl:k=l.length:=by omega
   have hD:=HDT.out (fun k' hk' q=>HPR.out k' hk' q hk');subst hD;have hbw:Below w.heap.size w wr:=HB5.out.trans (hE.mono (Nat.le_of_lt hz5));clear hlt hE hown;go_wp2;go_ret;exact ⟨rfl,hbw⟩
end Go.Proofs.YtmhllppjcilllaaGreatDoor
end
section
open Go Go.RowKit Cs
namespace Go.Proofs.YtmhllppjcilllaaGreatDoor
theorem zkf (w:World) (N:Nt) (A:Option Addr) (c:Nat) (hlen:N.l.length≤140737488355328) (hN:NtAt w w.heap.size A N.l) :
  Calls Tryz.prog 82 #[qg N A c] w fun e w'=>e = .returned (.int .i64 (qu N))∧Below w.heap.size w w':=by
 have h1:=fun W h=>zeM W N A c hlen h;have hv:zG N=true→(∀ W,NtAt W W.heap.size A N.l→Calls Tryz.prog 125 #[qg N A c] W fun e w'=>e = .returned (.bool (qt N))∧Below W.heap.size W w')∧(∀ W,NtAt W W.heap.size A N.l→Calls Tryz.prog 126 #[qg N A c] W fun e w'=>e = .returned (.bool (qJ N))∧Below W.heap.size W w'):=fun h=>⟨fun W hW=>zkh W N A c hW h,fun W hW=>zki W N A c hW h⟩;obtain ⟨C,hC⟩:∃ C,qu N=C:=⟨_,rfl⟩;rw [hC];unfold qu at hC;obtain ⟨V,hV⟩:∃ V,zG N=V:=⟨_,rfl⟩;obtain ⟨D,hD⟩:∃ V,qt N=V:=⟨_,rfl⟩;obtain ⟨S,hS⟩:∃ V,qJ N=V:=⟨_,rfl⟩;rw [hV,hD,hS] at hC;simp only [hV] at h1;simp only [hV,hD,hS] at hv;clear hV hD hS;obtain ⟨n,l⟩:=N;simp only at hN hlen;have hbox:=yQ w ⟨n,l⟩ A c 24 _ rfl;have hbl:Below w.heap.size w (w.alloc (.cells #[.int .i64 n,.slice A l.length c] 24)):=(zx _ _).alloc (zu _) _;have H1:=zb h1;have HV:=zb hv;clear h1 hv;cases V
 ·obtain rfl:(1:Int)=C:=hC;go_enter Tryz.func82, Tryz.ntmps82;go_wp2_with fail
  refine (H1.out _ ((hN.below hbl).more hbl.size)).mono ?_;rintro e w5 ⟨rfl,hb5⟩;have hb:=zw hbl hb5 hbl.size;go_wp2;go_ret;exact ⟨rfl,hb⟩
 ·have hap:=(HV.out rfl).1;have hsh:=(HV.out rfl).2;have HAP:=zb hap;have HSH:=zb hsh;clear HV hap hsh;cases D
  ·obtain rfl:(210:Int)=C:=hC;go_enter Tryz.func82, Tryz.ntmps82;go_wp2_with fail
   refine (H1.out _ ((hN.below hbl).more hbl.size)).mono ?_;rintro e w5 ⟨rfl,hb5⟩;have hb:=zw hbl hb5 hbl.size;obtain ⟨p1,p2⟩:=qy (zo hbox hb5);go_wp2_with fail
   refine (HAP.out _ ((hN.below hb).more hb.size)).mono ?_;rintro e w6 ⟨rfl,hb6⟩;have hb':=zw hb hb6 hb.size;go_wp2;go_ret;exact ⟨rfl,hb'⟩
  ·have hC2:(if S=true then (0:Int) else 2)=C:=hC;clear hC;go_enter Tryz.func82, Tryz.ntmps82;go_wp2_with fail
   refine (H1.out _ ((hN.below hbl).more hbl.size)).mono ?_;rintro e w5 ⟨rfl,hb5⟩;have hb:=zw hbl hb5 hbl.size;have hbox5:=zo hbox hb5;obtain ⟨p1,p2⟩:=qy hbox5;go_wp2_with fail
   refine (HAP.out _ ((hN.below hb).more hb.size)).mono ?_;rintro e w6 ⟨rfl,hb6⟩;have hb':=zw hb hb6 hb.size;obtain ⟨p3,p4⟩:=qy (zo hbox5 hb6);go_wp2_with fail
   refine (HSH.out _ ((hN.below hb').more hb'.size)).mono ?_;rintro e w7 ⟨rfl,hb7⟩;have hb'':=zw hb' hb7 hb'.size;cases S
   ·obtain rfl:(2:Int)=C:=hC2;go_wp2;go_ret;exact ⟨rfl,hb''⟩
   ·obtain rfl:(0:Int)=C:=hC2;go_wp2;go_ret;exact ⟨rfl,hb''⟩
end Go.Proofs.YtmhllppjcilllaaGreatDoor
end
end
