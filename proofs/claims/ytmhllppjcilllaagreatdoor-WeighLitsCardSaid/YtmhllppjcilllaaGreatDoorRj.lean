import Derived.Test.YtmhllppjcilllaaGreatDoorRi
set_option linter.unusedSimpArgs false
set_option linter.unusedVariables false
set_option maxRecDepth 100000
set_option maxHeartbeats 4000000
open Go Go.RowKit Cs
namespace Cs
def xS (W:Int→Rat) (O:List Nat) (L:List Rat) (x:Nd) (q:Nat):Rat:=(x.ins.take q).foldl ((RW W).in1 O L x) ((RW W).start x)
section
variable {W:Int→Rat} {O:List Nat} {L:List Rat} {x:Nd}
theorem zjh:xS W O L x 0=(RW W).start x:=by unfold xS;rw [List.take_zero];rfl
theorem gE:xS W O L x x.ins.length=(RW W).step O L x:=by unfold xS Rg.step;rw [List.take_length]
theorem zji {q j:Nat} (hq:q<x.ins.length) (hj:x.ins.getD q 0=(j:Int)):xS W O L x (q+1)=(RW W).in1 O L x (xS W O L x q) (j:Int):=by
 unfold xS;rw [List.take_succ_eq_append_getElem hq,List.foldl_append];have e:x.ins[q]=(j:Int):=by rw [← hj];simp [List.getD,hq]
 rw [e];rfl
theorem psN_and {q j:Nat} (h3:x.kind=3) (hq:q<x.ins.length) (hj:x.ins.getD q 0=(j:Int)):xS W O L x (q+1)=xS W O L x q*L.getD j 0:=by
 rw [zji hq hj];unfold Rg.in1;rw [if_pos (.inr h3)];rfl
theorem psN_or {q j k:Nat} (h4:x.kind=4) (hL:L.length=k) (hq:q<x.ins.length) (hj:x.ins.getD q 0=(j:Int)):xS W O L x (q+1)=xS W O L x q+(RW W).wide (L.getD j 0) (vl (zP (O.getD k 0) (O.getD j 0))):=by
 rw [zji hq hj];unfold Rg.in1;rw [if_neg (by omega),hL];rfl
theorem jx (Wt:Int→Rat) (lo hi:List Rat) (n:Nat) (hwl:∀ v:Nat,1≤v→v≤n→Wt (-(v:Int))=lo.getD v 0) (hwh:∀ v:Nat,1≤v→v≤n→Wt (v:Int)=hi.getD v 0):∀ (vs:List Int) (q:Rat),(∀ v∈vs,∃ i:Nat,v=(i:Int)∧1≤i∧i≤n)→(RW Wt).wide q vs=(RW (Wr lo hi)).wide q vs
 | [],_,_=>rfl
 | v::vs,q,h=>by
   obtain ⟨i,rfl,h1,h2⟩:=h v (List.mem_cons_self ..);have e:(RW Wt).both (i:Int)=(RW (Wr lo hi)).both (i:Int):=by
    show Wt (i:Int)+Wt (-(i:Int))=Wr lo hi (i:Int)+Wr lo hi (-(i:Int));rw [hwl i h1 h2,hwh i h1 h2];unfold Wr;rw [if_neg (by omega),if_pos (by omega),Int.natAbs_natCast,Int.natAbs_neg,Int.natAbs_natCast]
   show (RW Wt).wide ((RW Wt).mul q ((RW Wt).both (i:Int))) vs=(RW (Wr lo hi)).wide ((RW (Wr lo hi)).mul q ((RW (Wr lo hi)).both (i:Int))) vs;rw [e];exact jx Wt lo hi n hwl hwh vs _ fun v hv=>h v (List.mem_cons_of_mem _ hv)
theorem zg4 (L:List Rat) (s:Rat) (k:Nat) (h:L.length=k):(L++[s]).getD k 0=s:=by
 rw [List.getD_eq_getElem?_getD,List.getElem?_append_right (by omega),h];simp
theorem gd_old (L:List Rat) (s:Rat) (k j:Nat) (h:L.length=k) (hj:j<k):(L++[s]).getD j 0=L.getD j 0:=by
 rw [List.getD_eq_getElem?_getD,List.getD_eq_getElem?_getD,List.getElem?_append_left (by omega)]
end
end Cs
namespace Go.Proofs.YtmhllppjcilllaaGreatDoor
theorem rfill_w (w:World) (q:Rat) (a s n cl ch:Nat) (lo hi:List Rat) (Al Ah:Option Addr) (hn:n≤128) (hlo:Rd w w.heap.size Al ((n+1)*2) (zL lo)) (hhi:Rd w w.heap.size Ah ((n+1)*2) (zL hi)) (hc1:n+1≤cl) (hc2:n+1≤ch)
  (hdl:∀ k,Dg (lo.getD k 0)) (hdh:∀ k,Dg (hi.getD k 0)) (hds:∀ k,Dg (lo.getD k 0+hi.getD k 0)) (Wt:Int→Rat) (hwl:∀ v:Nat,1≤v→v≤n→Wt (-(v:Int))=lo.getD v 0) (hwh:∀ v:Nat,1≤v→v≤n→Wt (v:Int)=hi.getD v 0)
  (ha:∀ i,n≤i→a.testBit i=false) (hdw:∀ m,Dg ((RW Wt).wide q ((vl (zP a s)).take m))) :
  Calls Tryz.prog 106 #[zS q,qm a,qm s,.agg #[.slice Al (n+1) cl,.slice Ah (n+1) ch]] w fun e w'=>e = .returned (zS ((RW Wt).wide q (vl (zP a s))))∧Below w.heap.size w w':=by
 have hm:∀ v∈vl (zP a s),∃ i:Nat,v=(i:Int)∧1≤i∧i≤n:=fun v hv=>by
  obtain ⟨i,hi,rfl⟩:=zf1 hv;refine ⟨i+1,rfl,by omega,?_⟩;rcases Nat.lt_or_ge i n with h | h
  ·exact h
  ·rw [p8,ha i h,Bool.false_and] at hi;exact absurd hi (by decide)
 have hw:=fun m=>jx Wt lo hi n hwl hwh ((vl (zP a s)).take m) q (fun v hv=>hm v (List.mem_of_mem_take hv));have h0:=rfill_vl w q a s n cl ch lo hi Al Ah hn hlo hhi hc1 hc2 hdl hdh hds ha (fun m=>by rw [← hw m];exact hdw m);rw [← jx Wt lo hi n hwl hwh (vl (zP a s)) q hm] at h0;exact h0
theorem zkb (w:World) (N:Nt) (A:Option Addr) (c n cl ch:Nat) (lo hi:List Rat) (Al Ah:Option Addr) (hN:NtAt w w.heap.size A N.l) (hv:zG N=true) (hn:N.n=(n:Int))
  (hlo:Rd w w.heap.size Al ((n+1)*2) (zL lo)) (hhi:Rd w w.heap.size Ah ((n+1)*2) (zL hi)) (hc1:n+1≤cl) (hc2:n+1≤ch) (hdl:∀ k,Dg (lo.getD k 0)) (hdh:∀ k,Dg (hi.getD k 0)) (hds:∀ k,Dg (lo.getD k 0+hi.getD k 0))
  (Wt:Int→Rat) (hwl:∀ v:Nat,1≤v→v≤n→Wt (-(v:Int))=lo.getD v 0) (hwh:∀ v:Nat,1≤v→v≤n→Wt (v:Int)=hi.getD v 0)
  (hpt:∀ k (hk:k<N.l.length) m,Dg ((N.l[k].ins.take m).foldl ((RW (Wt)).in1 (own N.l) (scan ((RW (Wt)).step (own N.l)) [] (N.l.take k)) N.l[k]) ((RW (Wt)).start N.l[k])))
  (hwd:∀ k,k≤N.l.length→∀ j,j<k→∀ all,(∀ i,((own N.l).getD j 0).testBit i=true→all.testBit i=true)→∀ m,Dg ((RW (Wt)).wide ((scan ((RW (Wt)).step (own N.l)) [] (N.l.take k)).getD j 0) ((vl (zP all ((own N.l).getD j 0))).take m))) :
  Calls Tryz.prog 56 #[qg N A c,.agg #[.slice Al (n+1) cl,.slice Ah (n+1) ch]] w fun e w'=>e = .returned (zS ((RW (Wt)).sum N))∧Below w.heap.size w w':=by
 obtain ⟨S,hS⟩:∃ S,(RW (Wt)).sum N=S:=⟨_,rfl⟩;rw [hS];have HS:=zb hS;clear hS;obtain ⟨hn0,hn1,hl0,hl1⟩:=qN hv;have hn128:n≤128:=by omega
 have hva:∀ W,Below w.heap.size w W→_:=fun W h=>zjM W N A c ((hN.below h).more h.size) hv;have p0:=(Kp.nil w).new #[.int .i64 N.n,.slice A N.l.length c] 24 w.heap.size 2 rfl rfl;have p1:=p0.new #[.slice Al (n+1) cl,.slice Ah (n+1) ch] 47 (w.heap.size+1) 2 (by simp) rfl;have p2:=p1.new #[.string ⟨#[]⟩,.string ⟨#[]⟩] 42 (w.heap.size+1+1) 2 (by simp) rfl;have b0:=p2.bl;have r0:=p2.row 2 rfl;have r1:=p2.row 1 rfl;have r2:=p2.row 0 rfl;have c1:World.cell? _ ⟨w.heap.size,0,none⟩=some (.int .i64 N.n):=r0.cell (i:=0) (by decide);have c2:World.cell? _ ⟨w.heap.size,1,none⟩=some (.slice A N.l.length c):=r0.cell (i:=1) (by decide);have HVA:=zb hva;have HFM:=zb (fun k hk=>jn hv k hk);have HPT:=zb hpt;have HWD:=zb hwd;have HN0:=zb hn;have HV:=zb hv;have hmk:=mk_rfat N.l.length (by omega);have BB:=zb b0;have R0:=zb r0;have R1:=zb r1;have R2:=zb r2;have HLO:=zb hlo;have HHI:=zb hhi;have HFI:=zb (fun W hW q a s ha hdw=>rfill_w W q a s n cl ch lo hi Al Ah hn128 ((hlo.below hW).more hW.size) ((hhi.below hW).more hW.size) hc1 hc2 hdl hdh hds Wt hwl hwh ha hdw);have HWL:=zb hwl;have HWH:=zb hwh;clear hva hwl hwh hpt hwd hn hv b0 r0 r1 r2 hlo hhi hdl hdh hds p0 p1 p2;go_enter Tryz.func56, Tryz.ntmps56;go_wp2_with ((go_at_call 103;(with_reducible refine (HVA.out _ BB.out).mono ?_);rintro e w5 ⟨g,rfl,hgg,hvr,hb5⟩;have c2':=zB hb5 (World.block_lt_of_cell? _ _ c2) c2;clear c1 c2;have c2:=c2';clear c2';have hmk2:=hmk w5;have hgx:w.heap.size+1+1<g:=Nat.lt_of_succ_le (by simpa using hgg);have hbw:=zw BB.out hb5 BB.out.size;have hgl:=hvr.lt;have hE0:SuS w N A c n cl ch Al Ah g w5.heap.size [] (w5.alloc (.cells (madeCells #[.string ⟨#[]⟩,.string ⟨#[]⟩] (N.l.length*2)) 42)):=⟨(zo R0.out hb5).alloc _,(zo R1.out hb5).alloc _,(zo R2.out hb5).alloc _,hvr.alloc _,rzMade _ _ _ _ rfl,hgx,hgl,hbw.alloc hbw.size _⟩;clear hgg hb5 hvr hbw hgx hgl hmk;have HE0:=zb hE0;clear hE0))
 clear hmk2 c2;obtain ⟨Q,hQ⟩:∃ Q,w5.heap.size=Q:=⟨_,rfl⟩;rw [hQ] at HE0 ⊢;obtain ⟨O,hO⟩:∃ O,own N.l=O:=⟨_,rfl⟩;have HOS:=zb (fun k (hk:k<N.l.length) i h=>zds HV.out (k+1) k (Nat.lt_succ_self k) hk i h);have HOI:=zb (fun k hk j hj i h=>zeT HV.out k hk j hj i h);have hsum:(RW (Wt)).sum N=(RW (Wt)).gap O (scan ((RW (Wt)).step O) [] N.l) (qo N.n) (N.l.length-1):=by unfold Rg.sum Rg.all;rw [hO]
 rw [HS.out] at hsum;have HSUM:=zb hsum;have hOl:O.length=N.l.length:=by rw [← hO];exact zdt N.l
 simp only [hO] at HPT HWD HOS HOI;have HO:=zb hO;have HOL:=zb hOl;clear hsum hO hOl;go_loopw [7] (fun t wr=>∃ k:Nat,k≤N.l.length∧t = .int .i64 k∧SuS w N A c n cl ch Al Ah g Q (scan ((RW (Wt)).step O) [] (N.l.take k)) wr) (fun t _=>N.l.length-(intOf t).toNat)
 case atStart=>exact ⟨0,by omega,rfl,HE0.out⟩
 case round =>
  clear HE0;obtain ⟨k,hk,rfl,hE⟩:=hrel;obtain ⟨c1,c2,c3,c4⟩:=hE.cells;by_cases hlt:k<N.l.length
  ·obtain ⟨b,o,rfl,hbB,hcs⟩:=hN (by omega);have hnd:=hcs k hlt;clear hcs;have hfk:=HFM.out k hlt;have hnext:=jT ((RW (Wt)).step O) N.l k hlt;have hLl:=yA ((RW (Wt)).step O) N.l k hk;have hpt:=fun m=>HPT.out k hlt m;have hwd:=fun j hj all hall m=>HWD.out k hk j hj all hall m;have hoi:=fun j hj i h=>HOI.out k hlt j hj i h;have hos:=fun i h=>HOS.out k hlt i h;obtain ⟨⟨xk,xl,xi⟩,hx⟩:∃ x,N.l[k]=x:=⟨_,rfl⟩;obtain ⟨L,hL⟩:∃ L,scan ((RW (Wt)).step O) [] (N.l.take k)=L:=⟨_,rfl⟩;rw [hx] at hnd hfk;simp only [hx,hL] at hpt hwd hoi;rw [hx,hL] at hnext;rw [hL] at hLl hE;have HPT2:=zb hpt;have HWD2:=zb hwd;have HOI2:=zb hoi;have HOS2:=zb hos;have HNX:=zb hnext;have HFK:=zb hfk;have HLL:=zb hLl;clear hpt hwd hoi hos hnext hx hL hfk hLl;obtain ⟨hk1,hk2,⟨A',c',hk3,hrd⟩,hr1,hr2,hr3,hr4⟩:=hnd;replace hk1:=zB hE.bl hbB hk1;replace hk2:=zB hE.bl hbB hk2;replace hk3:=zB hE.bl hbB hk3;have HRD:=zb hrd;have HE:=zb hE;clear hrd hE;have hi3:(0:Int)≤(k:Int):=by omega
   have hi4:(k:Int)<(N.l.length:Int):=by omega
   obtain ⟨W0,rfl⟩:∃ W0,W0=wr:=⟨wr,rfl⟩;have hzQ:=HE.out.fl.lt;have hxN:=zF W0 #[.int .i64 xk,.int .i64 xl,.slice A' xi.length c'] 66 W0.heap.size 3 rfl rfl;have HEN:=zb (HE.out.alloc (.cells #[.int .i64 xk,.int .i64 xl,.slice A' xi.length c'] 66));have hkd:((xk=0∨xk=1∨xk=2)∧xi.length=0)∨xk=3∨xk=4:=zb4 HFK.out;rcases hkd with ⟨hkk,hil⟩ | h3 | h4
   ·have hins:xi=[]:=List.length_eq_zero_iff.1 hil;rcases hkk with h0 | h1 | h2
    ·have b1:(xk==1)=false:=beq_eq_false_iff_ne.2 (by omega);have b2:(xk==2)=false:=beq_eq_false_iff_ne.2 (by omega);have b3:(xk==3)=false:=beq_eq_false_iff_ne.2 (by omega);have hst:(RW (Wt)).step O L ⟨xk,xl,xi⟩=0:=by
      unfold Rg.step Rg.start;dsimp only;rw [hins,if_neg (by omega),if_neg (by omega)];rfl
     have hnx:=HNX.out;rw [hst] at hnx;have HN2:=zb hnx;have HIL:=zb hil;have HXN:=zb hxN;clear hst hnx h0 hins hil hxN;go_wp2_with (go_at_call 37;(with_reducible refine (jt _).mono ?_);rintro e w3 ⟨rfl,hb3⟩;have hE3:=HEN.out.below hb3;have hx3:=zo HXN.out hb3;have hf1:=hE3.fl.frozen (k*2);have hf2:=hE3.fl.frozen (k*2+1);obtain ⟨hq1,hq2⟩:=hE3.raw k HLL.out.symm hlt;have x0:World.cell? _ ⟨W0.heap.size,0,none⟩=some (.int .i64 xk):=hx3.cell (i:=0) (by decide);have x1:World.cell? _ ⟨W0.heap.size,1,none⟩=some (.int .i64 xl):=hx3.cell (i:=1) (by decide);have x2:World.cell? _ ⟨W0.heap.size,2,none⟩=some (.slice A' xi.length c'):=hx3.cell (i:=2) (by decide);have hz3:=hx3.lt;have HE3:=zb hE3;have HX3:=zb hx3;clear hE3 hx3 c1 c2 c3 c4 hk1 hk2 hk3)
     clear hq1 hq2 hf1 hf2 x0 x1 x2;go_loopw [9] (fun t wq=>∃ q:Nat,q=xi.length∧t = .int .i64 (q:Int)∧SuS w N (some ⟨b,o,none⟩) c n cl ch Al Ah g Q (L++[0]) wq∧wq.rowIs W0.heap.size 66 3 (zy #[.int .i64 xk,.int .i64 xl,.slice A' xi.length c'])) (fun t _=>0)
     case atStart=>exact ⟨0,HIL.out.symm,rfl,HE3.out.nextz k HLL.out.symm,(HX3.out.setOther (by have:=hzQ;simp;omega) _).setOther (by have:=hzQ;simp;omega) _⟩
     case round =>
      obtain ⟨q,hq,rfl,hE4,hx4⟩:=hrel;have x2:World.cell? _ ⟨W0.heap.size,2,none⟩=some (.slice A' xi.length c'):=hx4.cell (i:=2) (by decide);have hil0:decide ((q:Int)<(xi.length:Int))=false:=decide_eq_false (by omega);have hil1:¬ q<xi.length:=by omega
      have hil2:¬ (q:Int)<(xi.length:Int):=by omega
      clear hq;have HE4:=zb hE4;clear hE4 hx4;go_wp2;go_roundw
      case rel=>exact ⟨k+1,Nat.succ_le_of_lt hlt,by go_num,by rw [HN2.out];exact HE4.out⟩
      case measure=>simp [intOf];omega
    ·have b1:(xk==1)=true:=beq_iff_eq.2 (by omega);have b2:(xk==2)=false:=beq_eq_false_iff_ne.2 (by omega);have b3:(xk==3)=false:=beq_eq_false_iff_ne.2 (by omega);have hst:(RW (Wt)).step O L ⟨xk,xl,xi⟩=1:=by
      unfold Rg.step Rg.start;dsimp only;rw [hins,if_neg (by omega),if_pos (by omega)];rfl
     have hnx:=HNX.out;rw [hst] at hnx;have HN2:=zb hnx;have HIL:=zb hil;have HXN:=zb hxN;have hon:=fun W=>rone33 W;unfold zS at hon;have HON:=zb hon;clear hon hst hnx h1 hins hil hxN;go_wp2_with (first | (go_at_call 37;(with_reducible refine (jt _).mono ?_);rintro e w3 ⟨rfl,hb3⟩;have hE3:=HEN.out.below hb3;have hx3:=zo HXN.out hb3;have hf1:=hE3.fl.frozen (k*2);have hf2:=hE3.fl.frozen (k*2+1);obtain ⟨hq1,hq2⟩:=hE3.raw k HLL.out.symm hlt;have x0:World.cell? _ ⟨W0.heap.size,0,none⟩=some (.int .i64 xk):=hx3.cell (i:=0) (by decide);have x1:World.cell? _ ⟨W0.heap.size,1,none⟩=some (.int .i64 xl):=hx3.cell (i:=1) (by decide);have x2:World.cell? _ ⟨W0.heap.size,2,none⟩=some (.slice A' xi.length c'):=hx3.cell (i:=2) (by decide);have hz3:=hx3.lt;have HE3:=zb hE3;have HX3:=zb hx3;clear hE3 hx3 c1 c2 c3 c4 hk1 hk2 hk3) | (go_at_call 85;(with_reducible refine (HON.out _).mono ?_);rintro e w4 ⟨rfl,hb4⟩;have hE4:=(HE3.out.nextz k HLL.out.symm).below hb4;have hx4:=zo ((HX3.out.setOther (by have:=hzQ;simp;omega) _).setOther (by have:=hzQ;simp;omega) _) hb4;clear hq1 hq2 hf1 hf2 x0 x1 x2;have hf1:=hE4.fl.frozen (k*2);have hf2:=hE4.fl.frozen (k*2+1);obtain ⟨hq1,hq2⟩:=hE4.at k (by have:=HLL.out;simp;omega) hlt;have x0:World.cell? _ ⟨W0.heap.size,0,none⟩=some (.int .i64 xk):=hx4.cell (i:=0) (by decide);have x1:World.cell? _ ⟨W0.heap.size,1,none⟩=some (.int .i64 xl):=hx4.cell (i:=1) (by decide);have x2:World.cell? _ ⟨W0.heap.size,2,none⟩=some (.slice A' xi.length c'):=hx4.cell (i:=2) (by decide);have hz4:=hx4.lt;have HE4:=zb hE4;have HX4:=zb hx4;clear hE4 hx4))
     clear hq1 hq2 hf1 hf2 x0 x1 x2;go_loopw [9] (fun t wq=>∃ q:Nat,q=xi.length∧t = .int .i64 (q:Int)∧SuS w N (some ⟨b,o,none⟩) c n cl ch Al Ah g Q (L++[1]) wq∧wq.rowIs W0.heap.size 66 3 (zy #[.int .i64 xk,.int .i64 xl,.slice A' xi.length c'])) (fun t _=>0)
     case atStart=>exact ⟨0,HIL.out.symm,rfl,HE4.out.last 1 k HLL.out.symm,(HX4.out.setOther (by have:=hzQ;simp;omega) _).setOther (by have:=hzQ;simp;omega) _⟩
     case round =>
      obtain ⟨q,hq,rfl,hE4,hx4⟩:=hrel;have x2:World.cell? _ ⟨W0.heap.size,2,none⟩=some (.slice A' xi.length c'):=hx4.cell (i:=2) (by decide);have hil0:decide ((q:Int)<(xi.length:Int))=false:=decide_eq_false (by omega);have hil1:¬ q<xi.length:=by omega
      have hil2:¬ (q:Int)<(xi.length:Int):=by omega
      clear hq;have HE5:=zb hE4;clear hE4 hx4;go_wp2;go_roundw
      case rel=>exact ⟨k+1,Nat.succ_le_of_lt hlt,by go_num,by rw [HN2.out];exact HE5.out⟩
      case measure=>simp [intOf];omega
    ·have b1:(xk==1)=false:=beq_eq_false_iff_ne.2 (by omega);have b2:(xk==2)=true:=beq_iff_eq.2 (by omega);have b3:(xk==3)=false:=beq_eq_false_iff_ne.2 (by omega);have hlk:qh xl N.n=true:=(zbP HFK.out h2).1;have hrg:=zbZ hlk;have hst:(RW (Wt)).step O L ⟨xk,xl,xi⟩=Wt xl:=by
      unfold Rg.step Rg.start;dsimp only;rw [hins,if_pos (by omega)];rfl
     have hnx:=HNX.out;rw [hst] at hnx;rw [HN0.out] at hrg;rcases hrg with ⟨r1,r2,r3⟩ | ⟨r1,r2,r3⟩
     ·obtain ⟨v,rfl⟩:∃ v:Nat,xl=(v:Int):=⟨xl.toNat,by omega⟩;have hpv:Wt ((v:Int))=hi.getD v 0:=HWH.out v (by omega) (by omega);rw [hpv] at hnx;obtain ⟨h,oh,rfl,hbh,hch⟩:=HHI.out (by omega);have H1:=hch (v*2) (by omega);have H2:w.cell? ⟨h,oh+v*2+1,none⟩=some (zL hi (v*2+1)):=hch (v*2+1) (by omega);rw [oP] at H1;rw [oQ] at H2;obtain ⟨p,hp⟩:∃ p,hi.getD v 0=p:=⟨_,rfl⟩;rw [hp] at H1 H2 hnx;have HN2:=zb hnx;have HIL:=zb hil;have HXN:=zb hxN;have HH1:=zb H1;have HH2:=zb H2;have HBB:=zb hbh;have i5:((v:Int)<(0:Int))=False:=eq_false (by omega);have i6:((0:Int)<(v:Int))=True:=eq_true (by omega);have i7:(0:Int)≤(v:Int):=by omega
      have i8:(v:Int)<(n:Int)+1:=by omega
      have i9:IntKind.i64.wrap (-(-(v:Int)))=(v:Int):=by rw [IntKind.wrap_i64];omega
      have i10:0<v:=by omega
      clear hst hnx h2 hins hil hxN H1 H2 hp hpv hlk r1 r2 r3 hch;go_wp2_with (go_at_call 37;(with_reducible refine (jt _).mono ?_);rintro e w3 ⟨rfl,hb3⟩;have hE3:=HEN.out.below hb3;have hx3:=zo HXN.out hb3;have hf1:=hE3.fl.frozen (k*2);have hf2:=hE3.fl.frozen (k*2+1);obtain ⟨hq1,hq2⟩:=hE3.raw k HLL.out.symm hlt;have x0:World.cell? _ ⟨W0.heap.size,0,none⟩=some (.int .i64 xk):=hx3.cell (i:=0) (by decide);have x1:World.cell? _ ⟨W0.heap.size,1,none⟩=some (.int .i64 ((v:Int))):=hx3.cell (i:=1) (by decide);have x2:World.cell? _ ⟨W0.heap.size,2,none⟩=some (.slice A' xi.length c'):=hx3.cell (i:=2) (by decide);have hz3:=hx3.lt;have HE3:=zb hE3;have HX3:=zb hx3 ;have hqg:=hE3.hQ;have hgg2:=hE3.hg;have w1:World.cell? _ ⟨w.heap.size+1,1,none⟩=some (.slice (some ⟨h,oh,none⟩) (n+1) ch):=hE3.fw.cell (i:=1) (by decide);have h1:=zB hE3.bl HBB.out HH1.out;have h2:=zB hE3.bl HBB.out HH2.out;have hbq:=HBB.out;clear hE3 hx3 c1 c2 c3 c4 hk1 hk2 hk3)
      clear hq1 hq2 hf1 hf2 x0 x1 x2 w1 h1 h2;go_loopw [9] (fun t wq=>∃ q:Nat,q=xi.length∧t = .int .i64 (q:Int)∧SuS w N (some ⟨b,o,none⟩) c n cl ch Al (some ⟨h,oh,none⟩) g Q (L++[p]) wq∧wq.rowIs W0.heap.size 66 3 (zy #[.int .i64 xk,.int .i64 ((v:Int)),.slice A' xi.length c'])) (fun t _=>0)
      case atStart=>exact ⟨0,HIL.out.symm,rfl,(HE3.out.nextz k HLL.out.symm).last p k HLL.out.symm,(((HX3.out.setOther (by have:=hzQ;simp;omega) _).setOther (by have:=hzQ;simp;omega) _).setOther (by have:=hzQ;simp;omega) _).setOther (by have:=hzQ;simp;omega) _⟩
      case round =>
       obtain ⟨q,hq,rfl,hE4,hx4⟩:=hrel;have x2:World.cell? _ ⟨W0.heap.size,2,none⟩=some (.slice A' xi.length c'):=hx4.cell (i:=2) (by decide);have hil0:decide ((q:Int)<(xi.length:Int))=false:=decide_eq_false (by omega);have hil1:¬ q<xi.length:=by omega
       have hil2:¬ (q:Int)<(xi.length:Int):=by omega
       clear hq;have HE4:=zb hE4;clear hE4 hx4;go_wp2;go_roundw
       case rel=>exact ⟨k+1,Nat.succ_le_of_lt hlt,by go_num,by rw [HN2.out];exact HE4.out⟩
       case measure=>simp [intOf];omega
     ·obtain ⟨v,rfl⟩:∃ v:Nat,xl = -(v:Int):=⟨(-xl).toNat,by omega⟩;have hpv:Wt (-(v:Int))=lo.getD v 0:=HWL.out v (by omega) (by omega);rw [hpv] at hnx;obtain ⟨l,ol,rfl,hbl,hcl⟩:=HLO.out (by omega);have H1:=hcl (v*2) (by omega);have H2:w.cell? ⟨l,ol+v*2+1,none⟩=some (zL lo (v*2+1)):=hcl (v*2+1) (by omega);rw [oP] at H1;rw [oQ] at H2;obtain ⟨p,hp⟩:∃ p,lo.getD v 0=p:=⟨_,rfl⟩;rw [hp] at H1 H2 hnx;have HN2:=zb hnx;have HIL:=zb hil;have HXN:=zb hxN;have HH1:=zb H1;have HH2:=zb H2;have HBB:=zb hbl;have i5:(-(v:Int)<(0:Int))=True:=eq_true (by omega);have i6:((0:Int) < -(v:Int))=False:=eq_false (by omega);have i7:(0:Int)≤(v:Int):=by omega
      have i8:(v:Int)<(n:Int)+1:=by omega
      have i9:IntKind.i64.wrap (-(-(v:Int)))=(v:Int):=by rw [IntKind.wrap_i64];omega
      have i10:0<v:=by omega
      clear hst hnx h2 hins hil hxN H1 H2 hp hpv hlk r1 r2 r3 hcl;go_wp2_with (go_at_call 37;(with_reducible refine (jt _).mono ?_);rintro e w3 ⟨rfl,hb3⟩;have hE3:=HEN.out.below hb3;have hx3:=zo HXN.out hb3;have hf1:=hE3.fl.frozen (k*2);have hf2:=hE3.fl.frozen (k*2+1);obtain ⟨hq1,hq2⟩:=hE3.raw k HLL.out.symm hlt;have x0:World.cell? _ ⟨W0.heap.size,0,none⟩=some (.int .i64 xk):=hx3.cell (i:=0) (by decide);have x1:World.cell? _ ⟨W0.heap.size,1,none⟩=some (.int .i64 (-(v:Int))):=hx3.cell (i:=1) (by decide);have x2:World.cell? _ ⟨W0.heap.size,2,none⟩=some (.slice A' xi.length c'):=hx3.cell (i:=2) (by decide);have hz3:=hx3.lt;have HE3:=zb hE3;have HX3:=zb hx3 ;have hqg:=hE3.hQ;have hgg2:=hE3.hg;have w1:World.cell? _ ⟨w.heap.size+1,0,none⟩=some (.slice (some ⟨l,ol,none⟩) (n+1) cl):=hE3.fw.cell (i:=0) (by decide);have h1:=zB hE3.bl HBB.out HH1.out;have h2:=zB hE3.bl HBB.out HH2.out;have hbq:=HBB.out;clear hE3 hx3 c1 c2 c3 c4 hk1 hk2 hk3)
      clear hq1 hq2 hf1 hf2 x0 x1 x2 w1 h1 h2;go_loopw [9] (fun t wq=>∃ q:Nat,q=xi.length∧t = .int .i64 (q:Int)∧SuS w N (some ⟨b,o,none⟩) c n cl ch (some ⟨l,ol,none⟩) Ah g Q (L++[p]) wq∧wq.rowIs W0.heap.size 66 3 (zy #[.int .i64 xk,.int .i64 (-(v:Int)),.slice A' xi.length c'])) (fun t _=>0)
      case atStart=>exact ⟨0,HIL.out.symm,rfl,(HE3.out.nextz k HLL.out.symm).last p k HLL.out.symm,(((HX3.out.setOther (by have:=hzQ;simp;omega) _).setOther (by have:=hzQ;simp;omega) _).setOther (by have:=hzQ;simp;omega) _).setOther (by have:=hzQ;simp;omega) _⟩
      case round =>
       obtain ⟨q,hq,rfl,hE4,hx4⟩:=hrel;have x2:World.cell? _ ⟨W0.heap.size,2,none⟩=some (.slice A' xi.length c'):=hx4.cell (i:=2) (by decide);have hil0:decide ((q:Int)<(xi.length:Int))=false:=decide_eq_false (by omega);have hil1:¬ q<xi.length:=by omega
       have hil2:¬ (q:Int)<(xi.length:Int):=by omega
       clear hq;have HE4:=zb hE4;clear hE4 hx4;go_wp2;go_roundw
       case rel=>exact ⟨k+1,Nat.succ_le_of_lt hlt,by go_num,by rw [HN2.out];exact HE4.out⟩
       case measure=>simp [intOf];omega
   ·have b1:(xk==1)=false:=beq_eq_false_iff_ne.2 (by omega);have b2:(xk==2)=false:=beq_eq_false_iff_ne.2 (by omega);have b3:(xk==3)=true:=beq_iff_eq.2 (by omega);obtain ⟨P,hP⟩:∃ P,xS Wt O L ⟨xk,xl,xi⟩=P:=⟨_,rfl⟩;have hP0:P 0=1:=by
     rw [← hP,zjh];unfold Rg.start;dsimp only;rw [if_neg (by omega),if_pos (by omega)];rfl
    have hPS:∀ q j:Nat,q<xi.length→xi.getD q 0=(j:Int)→P (q+1)=P q*L.getD j 0:=fun q j h1 h2=>by rw [← hP];exact psN_and (x:=⟨xk,xl,xi⟩) h3 h1 h2
    have hPD:∀ q,Dg (P q):=fun q=>by rw [← hP];exact HPT2.out q
    have hnx:=HNX.out;rw [← gE (x:=⟨xk,xl,xi⟩),hP] at hnx;have hin:∀ i,i<xi.length→∃ m:Nat,xi.getD i 0=(m:Int)∧m<k:=formed_ins HFK.out;have jp:∀ j,j<k→Dg (L.getD j 0):=fun j hj=>HWD2.out j hj (O.getD j 0) (fun i h=>h) 0;have HP0:=zb hP0;have HPS:=zb hPS;have HPD:=zb hPD;have HIN:=zb hin;have HLD:=zb jp;have HN2:=zb hnx;have HXN:=zb hxN;have hon:=fun W=>rone33 W;unfold zS at hon;have HON:=zb hon;clear hon;clear hnx hP0 hPS hPD hin jp hP h3 hxN;go_wp2_with (first | (go_at_call 37;(with_reducible refine (jt _).mono ?_);rintro e w3 ⟨rfl,hb3⟩;have hE3:=HEN.out.below hb3;have hx3:=zo HXN.out hb3;have hf1:=hE3.fl.frozen (k*2);have hf2:=hE3.fl.frozen (k*2+1);obtain ⟨hq1,hq2⟩:=hE3.raw k HLL.out.symm hlt;have x0:World.cell? _ ⟨W0.heap.size,0,none⟩=some (.int .i64 xk):=hx3.cell (i:=0) (by decide);have x1:World.cell? _ ⟨W0.heap.size,1,none⟩=some (.int .i64 xl):=hx3.cell (i:=1) (by decide);have x2:World.cell? _ ⟨W0.heap.size,2,none⟩=some (.slice A' xi.length c'):=hx3.cell (i:=2) (by decide);have hz3:=hx3.lt;have HE3:=zb hE3;have HX3:=zb hx3;clear hE3 hx3 c1 c2 c3 c4 hk1 hk2 hk3) | (go_at_call 85;(with_reducible refine (HON.out _).mono ?_);rintro e w4 ⟨rfl,hb4⟩;have hE4:=(HE3.out.nextz k HLL.out.symm).below hb4;have hx4:=zo ((HX3.out.setOther (by have:=hzQ;simp;omega) _).setOther (by have:=hzQ;simp;omega) _) hb4;clear hq1 hq2 hf1 hf2 x0 x1 x2;have hf1:=hE4.fl.frozen (k*2);have hf2:=hE4.fl.frozen (k*2+1);obtain ⟨hq1,hq2⟩:=hE4.at k (by have:=HLL.out;simp;omega) hlt;have x0:World.cell? _ ⟨W0.heap.size,0,none⟩=some (.int .i64 xk):=hx4.cell (i:=0) (by decide);have x1:World.cell? _ ⟨W0.heap.size,1,none⟩=some (.int .i64 xl):=hx4.cell (i:=1) (by decide);have x2:World.cell? _ ⟨W0.heap.size,2,none⟩=some (.slice A' xi.length c'):=hx4.cell (i:=2) (by decide);have hz4:=hx4.lt;have HE4:=zb hE4;have HX4:=zb hx4;clear hE4 hx4))
    clear hq1 hq2 hf1 hf2 x0 x1 x2;go_loopw [9] (fun t wq=>∃ q:Nat,q≤xi.length∧t = .int .i64 (q:Int)∧SuS w N (some ⟨b,o,none⟩) c n cl ch Al Ah g Q (L++[P q]) wq∧wq.rowIs W0.heap.size 66 3 (zy #[.int .i64 xk,.int .i64 xl,.slice A' xi.length c'])) (fun t _=>xi.length-(intOf t).toNat)
    case atStart=>exact ⟨0,Nat.zero_le _,rfl,by rw [HP0.out];exact HE4.out.last 1 k HLL.out.symm,(HX4.out.setOther (by have:=hzQ;simp;omega) _).setOther (by have:=hzQ;simp;omega) _⟩
    case round =>
     clear HE3 HX3 HE4 HX4;obtain ⟨q,hq,rfl,hE5,hx5⟩:=hrel;have x0:World.cell? _ ⟨W0.heap.size,0,none⟩=some (.int .i64 xk):=hx5.cell (i:=0) (by decide);have x2:World.cell? _ ⟨W0.heap.size,2,none⟩=some (.slice A' xi.length c'):=hx5.cell (i:=2) (by decide);by_cases hlt2:q<xi.length
     ·have hil0:decide ((q:Int)<(xi.length:Int))=true:=decide_eq_true (by omega);have hil1:(q:Int)<(xi.length:Int):=by omega
      have hil2:(0:Int)≤(q:Int):=by omega
      obtain ⟨b',o',rfl,hbB',hcs'⟩:=HRD.out (by omega);have hc:wr.cell? ⟨b',o'+q,none⟩=some (.int .i64 (xi.getD q 0)):=zB hE5.bl hbB' (hcs' q hlt2);obtain ⟨j,hj1,hj2⟩:=HIN.out q hlt2;have hps:=HPS.out q j hlt2 hj1;rw [hj1] at hc;have hjl:j<N.l.length:=by omega
      have hi7:(0:Int)≤(j:Int):=by omega
      have hi8:(j:Int)<(N.l.length:Int):=by omega
      obtain ⟨s1,s2⟩:=hE5.at k (by have:=HLL.out;simp;omega) hlt;obtain ⟨s3,s4⟩:=hE5.at j (by have:=HLL.out;simp;omega) hjl;rw [zg4 _ _ _ HLL.out] at s1 s2;rw [gd_old _ _ _ _ HLL.out hj2] at s3 s4;have hdp:=HPD.out q;have hdp2:=HPD.out (q+1);have hdy:=HLD.out j hj2;obtain ⟨p,hp⟩:∃ p,P q=p:=⟨_,rfl⟩;obtain ⟨y,hy⟩:∃ y,L.getD j 0=y:=⟨_,rfl⟩;rw [hp] at s1 s2 hps hdp hE5;rw [hy] at s3 s4 hdy;rw [hy] at hps;have hmu:=fun W=>rmul02 W p y hdp.1 hdy.1 hdp.2.1 hdp.2.2 hdy.2.1 hdy.2.2;unfold zS at hmu;have HMU:=zb hmu;clear hmu;obtain ⟨r,hr⟩:∃ r,P (q+1)=r:=⟨_,rfl⟩;rw [hr] at hps hdp2;rw [← hps] at HMU;have HR:=zb hr;have HE6:=zb hE5;have HX6:=zb hx5;have gq:=hE5.fl.lt;have gn:=hx5.lt;have gv:=hE5.fv.lt;have g9:=hE5.fw.lt;have gb:=World.block_lt_of_cell? _ _ hc;have HBW:=zb hE5.bl;have HLT2:=zb hlt2;clear hcs' hdp hdp2 hdy hp hy hr hps hE5 hx5 hj1 hq hlt2;go_upto_region 18 with (fail)
      have s5:=x2;have s6:=hc;clear x0 x2 hc;have HS:Hid (∀ W,Below wr.heap.size wr W→W.cell? ⟨Q,k*2,none⟩=some (.string (zc (qn p)))∧W.cell? ⟨Q,k*2+1,none⟩=some (.string (zc p.den))∧W.cell? ⟨Q,j*2,none⟩=some (.string (zc (qn y)))∧W.cell? ⟨Q,j*2+1,none⟩=some (.string (zc y.den))∧W.cell? ⟨W0.heap.size,2,none⟩=some (.slice (some ⟨b',o',none⟩) xi.length c')∧W.cell? ⟨b',o'+q,none⟩=some (.int .i64 (j:Int))):=zb fun W hb=>⟨zC hb s1 gq,zC hb s2 gq,zC hb s3 gq,zC hb s4 gq,zC hb s5 gn,zC hb s6 gb⟩;refine yx (n:=_) (PX:=[zl (.slice (some ⟨Q,0,none⟩) N.l.length N.l.length),
         zl (.int .i64 (k:Int)),
         zl (.slice (some ⟨Q,0,none⟩) N.l.length N.l.length),
         zl (.int .i64 (k:Int)),
         zl (.pointer (some ⟨Q,k*2,none⟩)),
         zl (.agg #[.string (zc (qn p)),.string (zc p.den)]),
         zl (.slice (some ⟨Q,0,none⟩) N.l.length N.l.length),
         zl (.pointer (some ⟨W0.heap.size,2,none⟩)),
         zl (.slice (some ⟨b',o',none⟩) xi.length c'),
         zl (.int .i64 (q:Int)),
         zl (.pointer (some ⟨b',o'+q,none⟩)),
         zl (.int .i64 (j:Int)),
         zl (.pointer (some ⟨Q,j*2,none⟩)),
         zl (.agg #[.string (zc (qn y)),.string (zc y.den)]),
         zl (.agg #[.string (zc (qn r)),.string (zc r.den)]),
         zl (.pointer (some ⟨Q,k*2,none⟩))])
        (AL:=[]) (DP:=[[],[],[],[],[2,3],[4],[],[],[7],[],[8,9],[10],[6,11],[12],[5,13],[0,1]]) (L1:=[0,1,2,3,4,5,6,7,8,9,10,11,12,13,14,15]) (ex:=[]) (by kernel_rfl) rfl (by kernel_rfl) ?_ ?_ (yH ?_)
      ·repeat' first|exact zW|refine zk ?_ ?_|exact fun _ _ _ _ h _=>h
      ·refine zk (zv rfl [] ?_) (zk (zv rfl [] ?_) (zk (zv rfl [] ?_) (zk (zv rfl [] ?_) (zk (zv rfl [(2,some 93),(3,some 94)] ?_) (zk (zv rfl [(4,some 95)] ?_) (zk (zv rfl [] ?_) (zk (zv rfl [] ?_) (zk (zv rfl [(7,some 98)] ?_) (zk (zv rfl [] ?_) (zk (zv rfl [(8,some 99),(9,some 100)] ?_) (zk (zv rfl [(10,some 101)] ?_) (zk (zv rfl [(6,some 97),(11,some 102)] ?_) (zk (zv rfl [(12,some 103)] ?_) (zk ?_ (zk (zv rfl [(0,some 91),(1,some 92)] ?_) zW)))))))))))))));all_goals try (intro vs W hW hd K hK;(try simp only [qa,zl,and_true,List.getD_cons_succ,List.getD_cons_zero] at hd);(first | simp only [hd,zm,Act.put,zj,zi,zh,zg,zf,ze] at hK ⊢ | simp only [zm,Act.put,zj,zi,zh,zg,zf,ze] at hK ⊢ | skip);obtain ⟨m1,m2,m3,m4,m5,m6⟩:=HS.out W hW;go_simp;exact hK.out _ _ rfl (zx _ _) (qU rfl))
       ·refine zJ rfl [(5,some 96),(13,some 104)] ?_;intro vs W hW hd K hK;have d5:vs 5 = .agg #[.string (zc (qn p)),.string (zc p.den)]:=hd 5 (by decide);have d13:vs 13 = .agg #[.string (zc (qn y)),.string (zc y.den)]:=hd 13 (by decide);clear hd;try simp only [d5,d13,zm,Act.put,zj,zi,zh,zg,zf,ze] at hK ⊢
        go_simp;go_at_call 104;(with_reducible first | refine (HMU.out _).mono ?_);rintro e w9 ⟨rfl,hb9⟩;exact hK.out _ _ (rfl) hb9 (fun h=>absurd h (by decide))
      refine qQ [(0,some 91),(1,some 92),(2,some 93),(3,some 94),(4,some 95),(5,some 96),(6,some 97),(7,some 98),(8,some 99),(9,some 100),(10,some 101),(11,some 102),(12,some 103),(13,some 104),(14,some 105),(15,some 106)] #[true,true,true,true,true,true,true,true,true,true,true,true,true,true,true,true,false] 1 ?_;intro vs Wf hW hd hbk hdis kf;simp only [qa,zl,and_true,List.getD_cons_succ,List.getD_cons_zero] at hd;obtain ⟨d0,d1,d2,d3,d4,d5,d6,d7,d8,d9,d10,d11,d12,d13,d14,d15⟩:=hd;clear hbk hdis;try simp only [d0,d1,d2,d3,d4,d5,d6,d7,d8,d9,d10,d11,d12,d13,d14,d15,zm,Act.put,zj,zi,zh,zg,zf,ze]
      clear d0 d1 d2 d3 d4 d5 d6 d7 d8 d9 d10 d11 d12 d13 d14 d15 vs;clear HS;have qf:=HE6.out.below hW;obtain ⟨z1,z2⟩:=qf.at k (by have:=HLL.out;simp;omega) hlt;rw [zg4 _ _ _ HLL.out] at z1 z2;have y1:=qf.fl.frozen (k*2);have y2:=qf.fl.frozen (k*2+1);clear qf;refine zE 16 (by kernel_rfl) rfl (fun K hK=>?_);go_simp;refine hK.out _ _ ?_;clear hK K;try simp only [zm,Act.put,zj,zi,zh,zg,zf,ze]
      refine qc (by kernel_rfl) ?_ _;go_wp2;go_roundw
      case rel=>exact ⟨q+1,Nat.succ_le_of_lt HLT2.out,by go_num,by rw [HR.out];exact (HE6.out.below hW).last r k HLL.out.symm,((zo HX6.out hW).setOther (by have:=hzQ;simp;omega) _).setOther (by have:=hzQ;simp;omega) _⟩
      case measure=>have:=HLT2.out;simp [intOf];omega
     ·have hil0:decide ((q:Int)<(xi.length:Int))=false:=decide_eq_false (by omega);have hil1:¬ q<xi.length:=hlt2;have hil2:¬ (q:Int)<(xi.length:Int):=by omega
      obtain rfl:q=xi.length:=by omega
      have HE5:=zb hE5;clear hE5 hx5 hq hlt2;go_wp2;go_roundw
      case rel=>exact ⟨k+1,Nat.succ_le_of_lt hlt,by go_num,by rw [HN2.out];exact HE5.out⟩
      case measure=>simp [intOf];omega
   ·have b1:(xk==1)=false:=beq_eq_false_iff_ne.2 (by omega);have b2:(xk==2)=false:=beq_eq_false_iff_ne.2 (by omega);have b3:(xk==3)=false:=beq_eq_false_iff_ne.2 (by omega);obtain ⟨P,hP⟩:∃ P,xS Wt O L ⟨xk,xl,xi⟩=P:=⟨_,rfl⟩;have hP0:P 0=0:=by
     rw [← hP,zjh];unfold Rg.start;dsimp only;rw [if_neg (by omega),if_neg (by omega)];rfl
    have hPS:∀ q j:Nat,q<xi.length→xi.getD q 0=(j:Int)→P (q+1)=P q+(RW Wt).wide (L.getD j 0) (vl (zP (O.getD k 0) (O.getD j 0))):=fun q j h1 h2=>by rw [← hP];exact psN_or (x:=⟨xk,xl,xi⟩) h4 HLL.out h1 h2
    have hPD:∀ q,Dg (P q):=fun q=>by rw [← hP];exact HPT2.out q
    have hnx:=HNX.out;rw [← gE (x:=⟨xk,xl,xi⟩),hP] at hnx;have hin:∀ i,i<xi.length→∃ m:Nat,xi.getD i 0=(m:Int)∧m<k:=formed_ins HFK.out;have jp:∀ j,j<k→Dg (L.getD j 0):=fun j hj=>HWD2.out j hj (O.getD j 0) (fun i h=>h) 0;have HP0:=zb hP0;have HPS:=zb hPS;have HPD:=zb hPD;have HIN:=zb hin;have HLD:=zb jp;have HN2:=zb hnx;have HXN:=zb hxN;have hjo:=fun j (hj:j∈xi) i h=>HOI2.out j hj i h;have HJO:=zb hjo;clear hjo;clear hnx hP0 hPS hPD hin jp hP h4 hxN;go_wp2_with ((go_at_call 37;(with_reducible refine (jt _).mono ?_);rintro e w3 ⟨rfl,hb3⟩;have hE3:=HEN.out.below hb3;have hx3:=zo HXN.out hb3;have hf1:=hE3.fl.frozen (k*2);have hf2:=hE3.fl.frozen (k*2+1);obtain ⟨hq1,hq2⟩:=hE3.raw k HLL.out.symm hlt;have x0:World.cell? _ ⟨W0.heap.size,0,none⟩=some (.int .i64 xk):=hx3.cell (i:=0) (by decide);have x1:World.cell? _ ⟨W0.heap.size,1,none⟩=some (.int .i64 xl):=hx3.cell (i:=1) (by decide);have x2:World.cell? _ ⟨W0.heap.size,2,none⟩=some (.slice A' xi.length c'):=hx3.cell (i:=2) (by decide);have hz3:=hx3.lt;have HE3:=zb hE3;have HX3:=zb hx3;clear hE3 hx3 c1 c2 c3 c4 hk1 hk2 hk3))
    clear hq1 hq2 hf1 hf2 x0 x1 x2;go_loopw [9] (fun t wq=>∃ q:Nat,q≤xi.length∧t = .int .i64 (q:Int)∧SuS w N (some ⟨b,o,none⟩) c n cl ch Al Ah g Q (L++[P q]) wq∧wq.rowIs W0.heap.size 66 3 (zy #[.int .i64 xk,.int .i64 xl,.slice A' xi.length c'])) (fun t _=>xi.length-(intOf t).toNat)
    case atStart=>exact ⟨0,Nat.zero_le _,rfl,by rw [HP0.out];exact HE3.out.nextz k HLL.out.symm,(HX3.out.setOther (by have:=hzQ;simp;omega) _).setOther (by have:=hzQ;simp;omega) _⟩
    case round =>
     clear HE3 HX3;obtain ⟨q,hq,rfl,hE5,hx5⟩:=hrel;have x0:World.cell? _ ⟨W0.heap.size,0,none⟩=some (.int .i64 xk):=hx5.cell (i:=0) (by decide);have x2:World.cell? _ ⟨W0.heap.size,2,none⟩=some (.slice A' xi.length c'):=hx5.cell (i:=2) (by decide);by_cases hlt2:q<xi.length
     ·have hil0:decide ((q:Int)<(xi.length:Int))=true:=decide_eq_true (by omega);have hil1:(q:Int)<(xi.length:Int):=by omega
      have hil2:(0:Int)≤(q:Int):=by omega
      obtain ⟨b',o',rfl,hbB',hcs'⟩:=HRD.out (by omega);have hc:wr.cell? ⟨b',o'+q,none⟩=some (.int .i64 (xi.getD q 0)):=zB hE5.bl hbB' (hcs' q hlt2);obtain ⟨j,hj1,hj2⟩:=HIN.out q hlt2;have hps:=HPS.out q j hlt2 hj1;rw [hj1] at hc;have hjl:j<N.l.length:=by omega
      have hi7:(0:Int)≤(j:Int):=by omega
      have hi8:(j:Int)<(N.l.length:Int):=by omega
      obtain ⟨s1,s2⟩:=hE5.at k (by have:=HLL.out;simp;omega) hlt;obtain ⟨s3,s4⟩:=hE5.at j (by have:=HLL.out;simp;omega) hjl;rw [zg4 _ _ _ HLL.out] at s1 s2;rw [gd_old _ _ _ _ HLL.out hj2] at s3 s4;have hdp:=HPD.out q;have hdp2:=HPD.out (q+1);have hdy:=HLD.out j hj2;have hmem:(j:Int)∈xi:=by
       rw [← hj1,List.getD_eq_getElem?_getD,List.getElem?_eq_getElem hlt2];exact List.getElem_mem _
      have hfi:=fun W hW=>HFI.out W hW (L.getD j 0) (O.getD k 0) (O.getD j 0) (fun i hi=>by
       cases h:(O.getD k 0).testBit i with
       | false=>rfl
       | true=>have h1:=HOS2.out i h;have h2:=HN0.out;omega) (fun m=>HWD2.out j hj2 (O.getD k 0) (fun i h=>HJO.out (j:Int) hmem i h) m)
      have hdf:=HWD2.out j hj2 (O.getD k 0) (fun i h=>HJO.out (j:Int) hmem i h) 128;rw [List.take_of_length_le (zct _)] at hdf;obtain ⟨f,hf⟩:∃ f,(RW Wt).wide (L.getD j 0) (vl (zP (O.getD k 0) (O.getD j 0)))=f:=⟨_,rfl⟩;simp only [hf] at hfi;rw [hf] at hps hdf;obtain ⟨s5,s6,_,_⟩:=qE hE5.fv k (by omega);obtain ⟨s7,s8,_,_⟩:=qE hE5.fv j (by omega);have s9:wr.cell? ⟨w.heap.size+1,0,none⟩=some (.slice Al (n+1) cl):=hE5.fw.cell (i:=0) (by decide);have s10:wr.cell? ⟨w.heap.size+1,1,none⟩=some (.slice Ah (n+1) ch):=hE5.fw.cell (i:=1) (by decide);rw [HO.out] at s5 s6 s7 s8;obtain ⟨sk,hsk⟩:∃ s,O.getD k 0=s:=⟨_,rfl⟩;obtain ⟨sj,hsj⟩:∃ s,O.getD j 0=s:=⟨_,rfl⟩;rw [hsk] at s5 s6;rw [hsj] at s7 s8;simp only [hsk,hsj] at hfi;unfold qm at hfi;obtain ⟨p,hp⟩:∃ p,P q=p:=⟨_,rfl⟩;obtain ⟨y,hy⟩:∃ y,L.getD j 0=y:=⟨_,rfl⟩;rw [hp] at s1 s2 hps hdp hE5;rw [hy] at s3 s4 hdy;rw [hy] at hfi;have had:=fun W=>radd02 W p f hdp.1 hdf.1 hdp.2.1 hdp.2.2 hdf.2.1 hdf.2.2;unfold zS at had hfi;have HAD:=zb had;have HFL:=zb hfi;clear had hfi hdf hmem hf hsk hsj;obtain ⟨r,hr⟩:∃ r,P (q+1)=r:=⟨_,rfl⟩;rw [hr] at hps hdp2;rw [← hps] at HAD;have HR:=zb hr;have HE6:=zb hE5;have HX6:=zb hx5;have gq:=hE5.fl.lt;have gn:=hx5.lt;have gv:=hE5.fv.lt;have g9:=hE5.fw.lt;have gb:=World.block_lt_of_cell? _ _ hc;have HBW:=zb hE5.bl;have HLT2:=zb hlt2;clear hcs' hdp hdp2 hdy hp hy hr hps hE5 hx5 hj1 hq hlt2;go_upto_region 19 with (fail)
      have s11:=x2;have s12:=hc;clear x0 x2 hc;have HS:Hid (∀ W,Below wr.heap.size wr W→W.cell? ⟨Q,k*2,none⟩=some (.string (zc (qn p)))∧W.cell? ⟨Q,k*2+1,none⟩=some (.string (zc p.den))∧W.cell? ⟨Q,j*2,none⟩=some (.string (zc (qn y)))∧W.cell? ⟨Q,j*2+1,none⟩=some (.string (zc y.den))∧W.cell? ⟨g,k*2,none⟩=some (.int .u64 (Cs.lo sk:Int))∧W.cell? ⟨g,k*2+1,none⟩=some (.int .u64 (Cs.hi sk:Int))∧W.cell? ⟨g,j*2,none⟩=some (.int .u64 (Cs.lo sj:Int))∧W.cell? ⟨g,j*2+1,none⟩=some (.int .u64 (Cs.hi sj:Int))∧W.cell? ⟨w.heap.size+1,0,none⟩=some (.slice Al (n+1) cl)∧W.cell? ⟨w.heap.size+1,1,none⟩=some (.slice Ah (n+1) ch)∧W.cell? ⟨W0.heap.size,2,none⟩=some (.slice (some ⟨b',o',none⟩) xi.length c')∧W.cell? ⟨b',o'+q,none⟩=some (.int .i64 (j:Int))):=zb fun W hb=>⟨zC hb s1 gq,zC hb s2 gq,zC hb s3 gq,zC hb s4 gq,zC hb s5 gv,zC hb s6 gv,zC hb s7 gv,zC hb s8 gv,zC hb s9 g9,zC hb s10 g9,zC hb s11 gn,zC hb s12 gb⟩;refine yx (n:=_) (PX:=[zl (.slice (some ⟨Q,0,none⟩) N.l.length N.l.length),
         zl (.int .i64 (k:Int)),
         zl (.slice (some ⟨Q,0,none⟩) N.l.length N.l.length),
         zl (.int .i64 (k:Int)),
         zl (.pointer (some ⟨Q,k*2,none⟩)),
         zl (.agg #[.string (zc (qn p)),.string (zc p.den)]),
         zl (.slice (some ⟨Q,0,none⟩) N.l.length N.l.length),
         zl (.pointer (some ⟨W0.heap.size,2,none⟩)),
         zl (.slice (some ⟨b',o',none⟩) xi.length c'),
         zl (.int .i64 (q:Int)),
         zl (.pointer (some ⟨b',o'+q,none⟩)),
         zl (.int .i64 (j:Int)),
         zl (.pointer (some ⟨Q,j*2,none⟩)),
         zl (.agg #[.string (zc (qn y)),.string (zc y.den)]),
         zl (.slice (some ⟨g,0,none⟩) N.l.length N.l.length),
         zl (.int .i64 (k:Int)),
         zl (.pointer (some ⟨g,k*2,none⟩)),
         zl (.agg #[.int .u64 (Cs.lo sk:Int),.int .u64 (Cs.hi sk:Int)]),
         zl (.slice (some ⟨g,0,none⟩) N.l.length N.l.length),
         zl (.pointer (some ⟨W0.heap.size,2,none⟩)),
         zl (.slice (some ⟨b',o',none⟩) xi.length c'),
         zl (.int .i64 (q:Int)),
         zl (.pointer (some ⟨b',o'+q,none⟩)),
         zl (.int .i64 (j:Int)),
         zl (.pointer (some ⟨g,j*2,none⟩)),
         zl (.agg #[.int .u64 (Cs.lo sj:Int),.int .u64 (Cs.hi sj:Int)]),
         zl (.agg #[.slice Al (n+1) cl,.slice Ah (n+1) ch]),
         zl (.agg #[.string (zc (qn f)),.string (zc f.den)]),
         zl (.agg #[.string (zc (qn r)),.string (zc r.den)]),
         zl (.pointer (some ⟨Q,k*2,none⟩))])
        (AL:=[]) (DP:=[[],[],[],[],[2,3],[4],[],[],[7],[],[8,9],[10],[6,11],[12],[],[],[14,15],[16],[],[],[19],[],[20,21],[22],[18,23],[24],[],[13,17,25,26],[5,27],[0,1]]) (L1:=[0,1,2,3,4,5,6,7,8,9,10,11,12,13,14,15,16,17,18,19,20,21,22,23,24,25,26,27,28,29]) (ex:=[]) (by kernel_rfl) rfl (by kernel_rfl) ?_ ?_ (yH ?_)
      ·repeat' first|exact zW|refine zk ?_ ?_|exact fun _ _ _ _ h _=>h
      ·refine zk (zv rfl [] ?_) (zk (zv rfl [] ?_) (zk (zv rfl [] ?_) (zk (zv rfl [] ?_) (zk (zv rfl [(2,some 109),(3,some 110)] ?_) (zk (zv rfl [(4,some 111)] ?_) (zk (zv rfl [] ?_) (zk (zv rfl [] ?_) (zk (zv rfl [(7,some 114)] ?_) (zk (zv rfl [] ?_) (zk (zv rfl [(8,some 115),(9,some 116)] ?_) (zk (zv rfl [(10,some 117)] ?_) (zk (zv rfl [(6,some 113),(11,some 118)] ?_) (zk (zv rfl [(12,some 119)] ?_) (zk (zv rfl [] ?_) (zk (zv rfl [] ?_) (zk (zv rfl [(14,some 121),(15,some 122)] ?_) (zk (zv rfl [(16,some 123)] ?_) (zk (zv rfl [] ?_) (zk (zv rfl [] ?_) (zk (zv rfl [(19,some 126)] ?_) (zk (zv rfl [] ?_) (zk (zv rfl [(20,some 127),(21,some 128)] ?_) (zk (zv rfl [(22,some 129)] ?_) (zk (zv rfl [(18,some 125),(23,some 130)] ?_) (zk (zv rfl [(24,some 131)] ?_) (zk (zv rfl [] ?_) (zk ?_ (zk ?_ (zk (zv rfl [(0,some 107),(1,some 108)] ?_) zW)))))))))))))))))))))))))))));all_goals try (intro vs W hW hd K hK;(try simp only [qa,zl,and_true,List.getD_cons_succ,List.getD_cons_zero] at hd);(first | simp only [hd,zm,Act.put,zj,zi,zh,zg,zf,ze] at hK ⊢ | simp only [zm,Act.put,zj,zi,zh,zg,zf,ze] at hK ⊢ | skip);obtain ⟨m1,m2,m3,m4,m5,m6,m7,m8,m9,m10,m11,m12⟩:=HS.out W hW;go_simp;exact hK.out _ _ rfl (zx _ _) (qU rfl))
       ·refine zJ rfl [(13,some 120),(17,some 124),(25,some 132),(26,some 133)] ?_;intro vs W hW hd K hK;have d13:vs 13 = .agg #[.string (zc (qn y)),.string (zc y.den)]:=hd 13 (by decide);have d17:vs 17 = .agg #[.int .u64 (Cs.lo sk:Int),.int .u64 (Cs.hi sk:Int)]:=hd 17 (by decide);have d25:vs 25 = .agg #[.int .u64 (Cs.lo sj:Int),.int .u64 (Cs.hi sj:Int)]:=hd 25 (by decide);have d26:vs 26 = .agg #[.slice Al (n+1) cl,.slice Ah (n+1) ch]:=hd 26 (by decide);clear hd;try simp only [d13,d17,d25,d26,zm,Act.put,zj,zi,zh,zg,zf,ze] at hK ⊢
        go_simp;go_at_call 106;(with_reducible first | refine (HFL.out _ (zw HBW.out hW HBW.out.size)).mono ?_);rintro e w9 ⟨rfl,hb9⟩;exact hK.out _ _ (rfl) hb9 (fun h=>absurd h (by decide))
       ·refine zJ rfl [(5,some 112),(27,some 134)] ?_;intro vs W hW hd K hK;have d5:vs 5 = .agg #[.string (zc (qn p)),.string (zc p.den)]:=hd 5 (by decide);have d27:vs 27 = .agg #[.string (zc (qn f)),.string (zc f.den)]:=hd 27 (by decide);clear hd;try simp only [d5,d27,zm,Act.put,zj,zi,zh,zg,zf,ze] at hK ⊢
        go_simp;go_at_call 105;(with_reducible first | refine (HAD.out _).mono ?_);rintro e w9 ⟨rfl,hb9⟩;exact hK.out _ _ (rfl) hb9 (fun h=>absurd h (by decide))
      refine qQ [(0,some 107),(1,some 108),(2,some 109),(3,some 110),(4,some 111),(5,some 112),(6,some 113),(7,some 114),(8,some 115),(9,some 116),(10,some 117),(11,some 118),(12,some 119),(13,some 120),(14,some 121),(15,some 122),(16,some 123),(17,some 124),(18,some 125),(19,some 126),(20,some 127),(21,some 128),(22,some 129),(23,some 130),(24,some 131),(25,some 132),(26,some 133),(27,some 134),(28,some 135),(29,some 136)] #[true,true,true,true,true,true,true,true,true,true,true,true,true,true,true,true,true,true,true,true,true,true,true,true,true,true,true,true,true,true,false] 1 ?_;intro vs Wf hW hd hbk hdis kf;simp only [qa,zl,and_true,List.getD_cons_succ,List.getD_cons_zero] at hd;obtain ⟨d0,d1,d2,d3,d4,d5,d6,d7,d8,d9,d10,d11,d12,d13,d14,d15,d16,d17,d18,d19,d20,d21,d22,d23,d24,d25,d26,d27,d28,d29⟩:=hd;clear hbk hdis;try simp only [d0,d1,d2,d3,d4,d5,d6,d7,d8,d9,d10,d11,d12,d13,d14,d15,d16,d17,d18,d19,d20,d21,d22,d23,d24,d25,d26,d27,d28,d29,zm,Act.put,zj,zi,zh,zg,zf,ze]
      clear d0 d1 d2 d3 d4 d5 d6 d7 d8 d9 d10 d11 d12 d13 d14 d15 d16 d17 d18 d19 d20 d21 d22 d23 d24 d25 d26 d27 d28 d29 vs;clear HS;have qf:=HE6.out.below hW;obtain ⟨z1,z2⟩:=qf.at k (by have:=HLL.out;simp;omega) hlt;rw [zg4 _ _ _ HLL.out] at z1 z2;have y1:=qf.fl.frozen (k*2);have y2:=qf.fl.frozen (k*2+1);clear qf;refine zE 30 (by kernel_rfl) rfl (fun K hK=>?_);go_simp;refine hK.out _ _ ?_;clear hK K;try simp only [zm,Act.put,zj,zi,zh,zg,zf,ze]
      refine qc (by kernel_rfl) ?_ _;go_wp2;go_roundw
      case rel=>exact ⟨q+1,Nat.succ_le_of_lt HLT2.out,by go_num,by rw [HR.out];exact (HE6.out.below hW).last r k HLL.out.symm,((zo HX6.out hW).setOther (by have:=hzQ;simp;omega) _).setOther (by have:=hzQ;simp;omega) _⟩
      case measure=>have:=HLT2.out;simp [intOf];omega
     ·have hil0:decide ((q:Int)<(xi.length:Int))=false:=decide_eq_false (by omega);have hil1:¬ q<xi.length:=hlt2;have hil2:¬ (q:Int)<(xi.length:Int):=by omega
      obtain rfl:q=xi.length:=by omega
      have HE5:=zb hE5;clear hE5 hx5 hq hlt2;go_wp2;go_roundw
      case rel=>exact ⟨k+1,Nat.succ_le_of_lt hlt,by go_num,by rw [HN2.out];exact HE5.out⟩
      case measure=>simp [intOf];omega
  ·obtain rfl:k=N.l.length:=by omega
   rw [List.take_length] at hE;obtain ⟨M,hM⟩:∃ M,scan ((RW Wt).step O) [] N.l=M:=⟨_,rfl⟩;have hwd:=fun j (hj:j<N.l.length)=>HWD.out N.l.length (zu _) j hj;have hsm:=HSUM.out.symm;have hML:M.length=N.l.length:=by rw [← hM,zce];simp
   simp only [List.take_length,hM] at hwd;rw [hM] at hE hsm;obtain ⟨z,hz⟩:∃ z,N.l.length=z+1:=⟨N.l.length-1,by omega⟩;have hzl:z<N.l.length:=by omega
   rw [show N.l.length-1=z by omega] at hsm;have hnn:=HN0.out;have hfi:=fun W hW=>HFI.out W hW (M.getD z 0) (qo (n:Int)) (O.getD z 0) (fun i hi=>by
    rw [p6];exact decide_eq_false (by omega)) (fun m=>hwd z hzl (qo (n:Int)) (fun i h=>by
    have:=HOS.out z hzl i h;rw [p6];exact decide_eq_true (by omega)) m)
   rw [hnn] at hsm;unfold Rg.gap at hsm
   change (RW Wt).wide (M.getD z 0) (vl (zP (qo (n:Int)) (O.getD z 0)))=S at hsm
   simp only [hsm] at hfi;unfold zS qm at hfi;have HFF:=zb hfi;have HML:=zb hML;have HE:=zb hE;have hw5:IntKind.i64.wrap ((N.l.length:Int)-1)=(z:Int):=by rw [IntKind.wrap_i64];omega
   have HW5:=zb hw5;have HZL:=zb hzl;have hz0:qo ((0:Nat):Int)=0:=by decide
   have hl0:Cs.lo 0=0:=by decide
   have hh0:Cs.hi 0=0:=by decide
   obtain ⟨W0,rfl⟩:∃ W0,W0=wr:=⟨wr,rfl⟩;have hX0:=zF W0 #[.int .u64 0,.int .u64 0] 96 W0.heap.size 2 rfl rfl;have hX1:(W0.alloc (.cells #[.int .u64 0,.int .u64 0] 96)).rowIs W0.heap.size 96 2 (zy #[.int .u64 (Cs.lo (qo ((0:Nat):Int)):Int),.int .u64 (Cs.hi (qo ((0:Nat):Int)):Int)]):=by
    rw [hz0,hl0,hh0];exact hX0
   have HX1:=zb hX1;have hQ0:=hE.fl.lt;clear hM hwd hsm hML hz hzl hfi hE hw5 hz0 hl0 hh0 hX0 hX1 hnn;go_wp2;go_loopw [11] (fun t wq=>∃ m:Nat,m≤n∧t = .int .i64 ((m:Int)+1)∧SuS w N A c n cl ch Al Ah g Q M wq∧wq.rowIs W0.heap.size 96 2 (zy #[.int .u64 (Cs.lo (qo (m:Int)):Int),.int .u64 (Cs.hi (qo (m:Int)):Int)])) (fun t _=>n+1-(intOf t).toNat)
   case atStart=>exact ⟨0,Nat.zero_le _,rfl,HE.out.alloc _,HX1.out⟩
   case round =>
    clear HE HX1 c1 c2 c3 c4;obtain ⟨m,hm,rfl,hE2,hx2⟩:=hrel;obtain ⟨c1,c2,c3,c4⟩:=hE2.cells;by_cases hlt2:m<n
    ·have hc:decide ((m:Int)+1≤N.n)=true:=decide_eq_true (by have:=HN0.out;omega);have hts:=zgb m (by omega);unfold zZ at hts;rw [if_pos (by omega),show ((m:Int)+1).toNat-1=m by omega] at hts;have hwi:=fun W=>zdP W (qo (m:Int)) m (by omega);simp only [hts] at hwi;unfold qm at hwi;have x0:World.cell? _ ⟨W0.heap.size,0,none⟩=some (.int .u64 (Cs.lo (qo (m:Int)):Int)):=hx2.cell (i:=0) (by decide);have x1:World.cell? _ ⟨W0.heap.size,1,none⟩=some (.int .u64 (Cs.hi (qo (m:Int)):Int)):=hx2.cell (i:=1) (by decide);have e0:IntKind.i64.wrap ((m:Int)+1+1)=(m:Int)+1+1:=by rw [IntKind.wrap_i64];omega
     obtain ⟨s,hs⟩:∃ s,qo (m:Int)=s:=⟨_,rfl⟩;obtain ⟨s2,hs2⟩:∃ s,qo ((m:Int)+1)=s:=⟨_,rfl⟩;rw [hs] at x0 x1 hx2;simp only [hs,hs2] at hwi;have HS2:=zb (show qo ((m+1:Nat):Int)=s2 from hs2);have HWI:=zb hwi;have HE2:=zb hE2;have HX2:=zb hx2;have HLT2:=zb hlt2;clear hts hwi hs hs2 hE2 hx2 hm hlt2;go_wp2_with (go_at_call 107;(with_reducible refine (HWI.out _).mono ?_);rintro e w3 ⟨rfl,hb3⟩;have HE3:=zb (HE2.out.below hb3);have hx3:=zo HX2.out hb3;clear x0 x1;have x0:World.cell? _ ⟨W0.heap.size,0,none⟩=some (.int .u64 (Cs.lo s:Int)):=hx3.cell (i:=0) (by decide);have x1:World.cell? _ ⟨W0.heap.size,1,none⟩=some (.int .u64 (Cs.hi s:Int)):=hx3.cell (i:=1) (by decide);have f0:=hx3.frozen 0;have f1:=hx3.frozen 1;have HX3:=zb hx3;clear hx3 c1 c2 c3 c4)
     go_roundw
     case rel=>exact ⟨m+1,Nat.succ_le_of_lt HLT2.out,by go_num,(HE3.out.far hQ0 _ _).far hQ0 _ _,by rw [HS2.out];exact qx HX3.out _ _⟩
     case measure=>have:=HLT2.out;simp [intOf];omega
    ·obtain rfl:m=n:=by omega
     have hc:decide ((m:Int)+1≤N.n)=false:=decide_eq_false (by have:=HN0.out;omega);have hw5:=HW5.out;have hzl:=HZL.out;have hi3:(0:Int)≤(z:Int):=by omega
     have hi4:(z:Int)<(N.l.length:Int):=by omega
     have s1:=c2;obtain ⟨s2,s3⟩:=hE2.at z (by have:=HML.out;omega) hzl;have s4:World.cell? _ ⟨W0.heap.size,0,none⟩=some (.int .u64 (Cs.lo (qo (m:Int)):Int)):=hx2.cell (i:=0) (by decide);have s5:World.cell? _ ⟨W0.heap.size,1,none⟩=some (.int .u64 (Cs.hi (qo (m:Int)):Int)):=hx2.cell (i:=1) (by decide);obtain ⟨s6,s7,_,_⟩:=qE hE2.fv z (by omega);have s8:=c3;have s9:=c4;rw [HO.out] at s6 s7;have hff:=HFF.out;obtain ⟨y,hy⟩:∃ y,M.getD z 0=y:=⟨_,rfl⟩;obtain ⟨al,hal⟩:∃ y,qo (m:Int)=y:=⟨_,rfl⟩;obtain ⟨sz,hsz⟩:∃ y,O.getD z 0=y:=⟨_,rfl⟩;rw [hy] at s2 s3;rw [hal] at s4 s5;rw [hsz] at s6 s7;simp only [hy,hal,hsz] at hff;have HFF2:=zb hff;have HE6:=zb hE2;have gq:=hE2.fl.lt;have gx:=hx2.lt;have gv:=hE2.fv.lt;have g9:=hE2.fw.lt;have g8:=hE2.fn.lt;have HBW:=zb hE2.bl;clear hff hy hal hsz hE2 hx2 hm hlt2;go_upto_region 25 with (fail)
     clear c1 c2 c3 c4;have HS:Hid (∀ W,Below wr.heap.size wr W→W.cell? ⟨w.heap.size,1,none⟩=some (.slice A N.l.length c)∧W.cell? ⟨Q,z*2,none⟩=some (.string (zc (qn y)))∧W.cell? ⟨Q,z*2+1,none⟩=some (.string (zc y.den))∧W.cell? ⟨W0.heap.size,0,none⟩=some (.int .u64 (Cs.lo al:Int))∧W.cell? ⟨W0.heap.size,1,none⟩=some (.int .u64 (Cs.hi al:Int))∧W.cell? ⟨g,z*2,none⟩=some (.int .u64 (Cs.lo sz:Int))∧W.cell? ⟨g,z*2+1,none⟩=some (.int .u64 (Cs.hi sz:Int))∧W.cell? ⟨w.heap.size+1,0,none⟩=some (.slice Al (m+1) cl)∧W.cell? ⟨w.heap.size+1,1,none⟩=some (.slice Ah (m+1) ch)):=zb fun W hb=>⟨zC hb s1 g8,zC hb s2 gq,zC hb s3 gq,zC hb s4 gx,zC hb s5 gx,zC hb s6 gv,zC hb s7 gv,zC hb s8 g9,zC hb s9 g9⟩;refine yx (n:=_) (PX:=[zl (.slice (some ⟨Q,0,none⟩) N.l.length N.l.length),
        zl (.pointer (some ⟨w.heap.size,1,none⟩)),
        zl (.slice A N.l.length c),
        zl (.int .i64 (N.l.length:Int)),
        zl (.int .i64 (z:Int)),
        zl (.pointer (some ⟨Q,z*2,none⟩)),
        zl (.agg #[.string (zc (qn y)),.string (zc y.den)]),
        zl (.agg #[.int .u64 (Cs.lo al:Int),.int .u64 (Cs.hi al:Int)]),
        zl (.slice (some ⟨g,0,none⟩) N.l.length N.l.length),
        zl (.pointer (some ⟨w.heap.size,1,none⟩)),
        zl (.slice A N.l.length c),
        zl (.int .i64 (N.l.length:Int)),
        zl (.int .i64 (z:Int)),
        zl (.pointer (some ⟨g,z*2,none⟩)),
        zl (.agg #[.int .u64 (Cs.lo sz:Int),.int .u64 (Cs.hi sz:Int)]),
        zl (.agg #[.slice Al (m+1) cl,.slice Ah (m+1) ch]),
        zl (.agg #[.string (zc (qn S)),.string (zc S.den)])])
       (AL:=[]) (DP:=[[],[],[1],[2],[3],[0,4],[5],[],[],[],[9],[10],[11],[8,12],[13],[],[6,7,14,15]]) (L1:=[0,1,2,3,4,5,6,7,8,9,10,11,12,13,14,15,16]) (ex:=[]) (by kernel_rfl) rfl (by kernel_rfl) ?_ ?_ (yH ?_)
     ·repeat' first|exact zW|refine zk ?_ ?_|exact fun _ _ _ _ h _=>h
     ·refine zk (zv rfl [] ?_) (zk (zv rfl [] ?_) (zk (zv rfl [(1,some 147)] ?_) (zk (zv rfl [(2,some 148)] ?_) (zk (zv rfl [(3,some 149)] ?_) (zk (zv rfl [(0,some 146),(4,some 150)] ?_) (zk (zv rfl [(5,some 151)] ?_) (zk (zv rfl [] ?_) (zk (zv rfl [] ?_) (zk (zv rfl [] ?_) (zk (zv rfl [(9,some 155)] ?_) (zk (zv rfl [(10,some 156)] ?_) (zk (zv rfl [(11,some 157)] ?_) (zk (zv rfl [(8,some 154),(12,some 158)] ?_) (zk (zv rfl [(13,some 159)] ?_) (zk (zv rfl [] ?_) (zk ?_ zW))))))))))))))));all_goals try (intro vs W hW hd K hK;(try simp only [qa,zl,and_true,List.getD_cons_succ,List.getD_cons_zero] at hd);(first | simp only [hd,zm,Act.put,zj,zi,zh,zg,zf,ze] at hK ⊢ | simp only [zm,Act.put,zj,zi,zh,zg,zf,ze] at hK ⊢ | skip);obtain ⟨m1,m2,m3,m4,m5,m6,m7,m8,m9⟩:=HS.out W hW;go_simp;exact hK.out _ _ rfl (zx _ _) (qU rfl))
      ·refine zJ rfl [(6,some 152),(7,some 153),(14,some 160),(15,some 161)] ?_;intro vs W hW hd K hK;have d6:vs 6 = .agg #[.string (zc (qn y)),.string (zc y.den)]:=hd 6 (by decide);have d7:vs 7 = .agg #[.int .u64 (Cs.lo al:Int),.int .u64 (Cs.hi al:Int)]:=hd 7 (by decide);have d14:vs 14 = .agg #[.int .u64 (Cs.lo sz:Int),.int .u64 (Cs.hi sz:Int)]:=hd 14 (by decide);have d15:vs 15 = .agg #[.slice Al (m+1) cl,.slice Ah (m+1) ch]:=hd 15 (by decide);clear hd;try simp only [d6,d7,d14,d15,zm,Act.put,zj,zi,zh,zg,zf,ze] at hK ⊢
       go_simp;go_at_call 106;(with_reducible first | refine (HFF2.out _ (zw HBW.out hW HBW.out.size)).mono ?_);rintro e w9 ⟨rfl,hb9⟩;exact hK.out _ _ (rfl) hb9 (fun h=>absurd h (by decide))
     refine qQ [(0,some 146),(1,some 147),(2,some 148),(3,some 149),(4,some 150),(5,some 151),(6,some 152),(7,some 153),(8,some 154),(9,some 155),(10,some 156),(11,some 157),(12,some 158),(13,some 159),(14,some 160),(15,some 161),(16,some 162)] #[true,true,true,true,true,true,true,true,true,true,true,true,true,true,true,true,true,false] 1 ?_;intro vs Wf hW hd hbk hdis kf;simp only [qa,zl,and_true,List.getD_cons_succ,List.getD_cons_zero] at hd;obtain ⟨d0,d1,d2,d3,d4,d5,d6,d7,d8,d9,d10,d11,d12,d13,d14,d15,d16⟩:=hd;clear hbk hdis;try simp only [d0,d1,d2,d3,d4,d5,d6,d7,d8,d9,d10,d11,d12,d13,d14,d15,d16,zm,Act.put,zj,zi,zh,zg,zf,ze]
     clear d0 d1 d2 d3 d4 d5 d6 d7 d8 d9 d10 d11 d12 d13 d14 d15 d16 vs;clear HS;have qf:=HE6.out.below hW;have z1:Wf.cell? ⟨w.heap.size+1+1,0,none⟩=some (.string ⟨#[]⟩):=qf.fr.cell (i:=0) (by decide);have z2:Wf.cell? ⟨w.heap.size+1+1,1,none⟩=some (.string ⟨#[]⟩):=qf.fr.cell (i:=1) (by decide);have y1:=qf.fr.frozen 0;have y2:=qf.fr.frozen 1;have HQF:=zb qf;clear qf;refine zE 17 (by kernel_rfl) rfl (fun K hK=>?_);go_simp;refine hK.out _ _ ?_;clear hK K;try simp only [zm,Act.put,zj,zi,zh,zg,zf,ze]
     refine qc (by kernel_rfl) ?_ _;go_wp2;refine zfC rfl rfl (qx HQF.out.fr _ _) rfl ⟨rfl,?_⟩;exact (HQF.out.bl.setCell (by simp;omega) _).setCell (by simp;omega) _
end Go.Proofs.YtmhllppjcilllaaGreatDoor
