import Derived.Test.YtmhllppjcilllaaGreatDoorRi
set_option linter.unusedSimpArgs false
set_option linter.unusedVariables false
set_option maxRecDepth 100000
set_option maxHeartbeats 4000000
open Go Go.RowKit Cs
namespace Cs
def psN (W:Int→Rat) (O:List Nat) (L:List Rat) (x:Nd) (q:Nat):Rat:=(x.ins.take q).foldl ((RW W).in1 O L x) ((RW W).start x)
section
variable {W:Int→Rat} {O:List Nat} {L:List Rat} {x:Nd}
theorem psN_zero:psN W O L x 0=(RW W).start x:=by unfold psN;rw [List.take_zero];rfl
theorem psN_end:psN W O L x x.ins.length=(RW W).step O L x:=by unfold psN Rg.step;rw [List.take_length]
theorem psN_succ {q j:Nat} (hq:q<x.ins.length) (hj:x.ins.getD q 0=(j:Int)):psN W O L x (q+1)=(RW W).in1 O L x (psN W O L x q) (j:Int):=by
 unfold psN;rw [List.take_succ_eq_append_getElem hq,List.foldl_append]
 have e:x.ins[q]=(j:Int):=by rw [← hj];simp [List.getD,hq]
 rw [e];rfl
theorem psN_and {q j:Nat} (h3:x.kind=3) (hq:q<x.ins.length) (hj:x.ins.getD q 0=(j:Int)):psN W O L x (q+1)=psN W O L x q*L.getD j 0:=by
 rw [psN_succ hq hj];unfold Rg.in1;rw [if_pos (.inr h3)];rfl
theorem psN_or {q j k:Nat} (h4:x.kind=4) (hL:L.length=k) (hq:q<x.ins.length) (hj:x.ins.getD q 0=(j:Int)):psN W O L x (q+1)=psN W O L x q+(RW W).wide (L.getD j 0) (vl (minus (O.getD k 0) (O.getD j 0))):=by
 rw [psN_succ hq hj];unfold Rg.in1;rw [if_neg (by omega),hL];rfl
theorem wide_w (Wt:Int→Rat) (lo hi:List Rat) (n:Nat) (hwl:∀ v:Nat,1≤v→v≤n→Wt (-(v:Int))=lo.getD v 0) (hwh:∀ v:Nat,1≤v→v≤n→Wt (v:Int)=hi.getD v 0):∀ (vs:List Int) (q:Rat),(∀ v∈vs,∃ i:Nat,v=(i:Int)∧1≤i∧i≤n)→(RW Wt).wide q vs=(RW (Wr lo hi)).wide q vs
 | [],_,_=>rfl
 | v::vs,q,h=>by
   obtain ⟨i,rfl,h1,h2⟩:=h v (List.mem_cons_self ..)
   have e:(RW Wt).both (i:Int)=(RW (Wr lo hi)).both (i:Int):=by
    show Wt (i:Int)+Wt (-(i:Int))=Wr lo hi (i:Int)+Wr lo hi (-(i:Int));rw [hwl i h1 h2,hwh i h1 h2];unfold Wr;rw [if_neg (by omega),if_pos (by omega),Int.natAbs_natCast,Int.natAbs_neg,Int.natAbs_natCast]
   show (RW Wt).wide ((RW Wt).mul q ((RW Wt).both (i:Int))) vs=(RW (Wr lo hi)).wide ((RW (Wr lo hi)).mul q ((RW (Wr lo hi)).both (i:Int))) vs;rw [e];exact wide_w Wt lo hi n hwl hwh vs _ fun v hv=>h v (List.mem_cons_of_mem _ hv)
theorem gd_here (L:List Rat) (s:Rat) (k:Nat) (h:L.length=k):(L++[s]).getD k 0=s:=by
 rw [List.getD_eq_getElem?_getD,List.getElem?_append_right (by omega),h];simp
theorem gd_old (L:List Rat) (s:Rat) (k j:Nat) (h:L.length=k) (hj:j<k):(L++[s]).getD j 0=L.getD j 0:=by
 rw [List.getD_eq_getElem?_getD,List.getD_eq_getElem?_getD,List.getElem?_append_left (by omega)]
end
end Cs
namespace Go.Proofs.YtmhllppjcilllaaGreatDoor
theorem rfill_w (w:World) (q:Rat) (a s n cl ch:Nat) (lo hi:List Rat) (Al Ah:Option Addr) (hn:n≤128) (hlo:Rd w w.heap.size Al ((n+1)*2) (rfF lo)) (hhi:Rd w w.heap.size Ah ((n+1)*2) (rfF hi)) (hc1:n+1≤cl) (hc2:n+1≤ch)
  (hdl:∀ k,Dg (lo.getD k 0)) (hdh:∀ k,Dg (hi.getD k 0)) (hds:∀ k,Dg (lo.getD k 0+hi.getD k 0)) (Wt:Int→Rat) (hwl:∀ v:Nat,1≤v→v≤n→Wt (-(v:Int))=lo.getD v 0) (hwh:∀ v:Nat,1≤v→v≤n→Wt (v:Int)=hi.getD v 0)
  (ha:∀ i,n≤i→a.testBit i=false) (hdw:∀ m,Dg ((RW Wt).wide q ((vl (minus a s)).take m))) :
  Calls Tryz.prog 106 #[rfV q,setV a,setV s,.agg #[.slice Al (n+1) cl,.slice Ah (n+1) ch]] w fun e w'=>e = .returned (rfV ((RW Wt).wide q (vl (minus a s))))∧Below w.heap.size w w':=by
 have hm:∀ v∈vl (minus a s),∃ i:Nat,v=(i:Int)∧1≤i∧i≤n:=fun v hv=>by
  obtain ⟨i,hi,rfl⟩:=vl_mem hv;refine ⟨i+1,rfl,by omega,?_⟩;rcases Nat.lt_or_ge i n with h | h
  ·exact h
  ·rw [minus_bit,ha i h,Bool.false_and] at hi;exact absurd hi (by decide)
 have hw:=fun m=>wide_w Wt lo hi n hwl hwh ((vl (minus a s)).take m) q (fun v hv=>hm v (List.mem_of_mem_take hv));have h0:=rfill_vl w q a s n cl ch lo hi Al Ah hn hlo hhi hc1 hc2 hdl hdh hds ha (fun m=>by rw [← hw m];exact hdw m);rw [← wide_w Wt lo hi n hwl hwh (vl (minus a s)) q hm] at h0;exact h0
theorem rsum33_any (w:World) (N:Nt) (A:Option Addr) (c n cl ch:Nat) (lo hi:List Rat) (Al Ah:Option Addr) (hN:NtAt w w.heap.size A N.l) (hv:vld N=true) (hn:N.n=(n:Int))
  (hlo:Rd w w.heap.size Al ((n+1)*2) (rfF lo)) (hhi:Rd w w.heap.size Ah ((n+1)*2) (rfF hi)) (hc1:n+1≤cl) (hc2:n+1≤ch) (hdl:∀ k,Dg (lo.getD k 0)) (hdh:∀ k,Dg (hi.getD k 0)) (hds:∀ k,Dg (lo.getD k 0+hi.getD k 0))
  (Wt:Int→Rat) (hwl:∀ v:Nat,1≤v→v≤n→Wt (-(v:Int))=lo.getD v 0) (hwh:∀ v:Nat,1≤v→v≤n→Wt (v:Int)=hi.getD v 0)
  (hpt:∀ k (hk:k<N.l.length) m,Dg ((N.l[k].ins.take m).foldl ((RW (Wt)).in1 (own N.l) (scan ((RW (Wt)).step (own N.l)) [] (N.l.take k)) N.l[k]) ((RW (Wt)).start N.l[k])))
  (hwd:∀ k,k≤N.l.length→∀ j,j<k→∀ all,(∀ i,((own N.l).getD j 0).testBit i=true→all.testBit i=true)→∀ m,Dg ((RW (Wt)).wide ((scan ((RW (Wt)).step (own N.l)) [] (N.l.take k)).getD j 0) ((vl (minus all ((own N.l).getD j 0))).take m))) :
  Calls Tryz.prog 56 #[ntV N A c,.agg #[.slice Al (n+1) cl,.slice Ah (n+1) ch]] w fun e w'=>e = .returned (rfV ((RW (Wt)).sum N))∧Below w.heap.size w w':=by
 obtain ⟨S,hS⟩:∃ S,(RW (Wt)).sum N=S:=⟨_,rfl⟩;rw [hS];have HS:=zqh hS;clear hS;obtain ⟨hn0,hn1,hl0,hl1⟩:=vld_bounds hv
 have hn128:n≤128:=by omega
 have hva:∀ W,Below w.heap.size w W→_:=fun W h=>vars21_any W N A c ((hN.below h).more h.size) hv;have p0:=(Kp.nil w).new #[.int .i64 N.n,.slice A N.l.length c] 24 w.heap.size 2 rfl rfl;have p1:=p0.new #[.slice Al (n+1) cl,.slice Ah (n+1) ch] 47 (w.heap.size+1) 2 (by simp) rfl;have p2:=p1.new #[.string ⟨#[]⟩,.string ⟨#[]⟩] 42 (w.heap.size+1+1) 2 (by simp) rfl;have b0:=p2.bl;have r0:=p2.row 2 rfl;have r1:=p2.row 1 rfl;have r2:=p2.row 0 rfl;have c1:World.cell? _ ⟨w.heap.size,0,none⟩=some (.int .i64 N.n):=r0.cell (i:=0) (by decide);have c2:World.cell? _ ⟨w.heap.size,1,none⟩=some (.slice A N.l.length c):=r0.cell (i:=1) (by decide);have HVA:=zqh hva;have HFM:=zqh (fun k hk=>vld_formed hv k hk);have HPT:=zqh hpt;have HWD:=zqh hwd;have HN0:=zqh hn;have HV:=zqh hv;have hmk:=mk_rfat N.l.length (by omega);have BB:=zqh b0;have R0:=zqh r0;have R1:=zqh r1;have R2:=zqh r2;have HLO:=zqh hlo;have HHI:=zqh hhi;have HFI:=zqh (fun W hW q a s ha hdw=>rfill_w W q a s n cl ch lo hi Al Ah hn128 ((hlo.below hW).more hW.size) ((hhi.below hW).more hW.size) hc1 hc2 hdl hdh hds Wt hwl hwh ha hdw);have HWL:=zqh hwl;have HWH:=zqh hwh;clear hva hwl hwh hpt hwd hn hv b0 r0 r1 r2 hlo hhi hdl hdh hds p0 p1 p2
 go_enter Tryz.func56, Tryz.ntmps56
 go_wp2_with ((go_at_call 103;(with_reducible refine (HVA.out _ BB.out).mono ?_);rintro e w5 ⟨g,rfl,hgg,hvr,hb5⟩;have c2':=below_cell hb5 (World.block_lt_of_cell? _ _ c2) c2;clear c1 c2;have c2:=c2';clear c2';have hmk2:=hmk w5;have hgx:w.heap.size+1+1<g:=Nat.lt_of_succ_le (by simpa using hgg);have hbw:=zqx BB.out hb5 BB.out.size;have hgl:=hvr.lt;have hE0:SuS w N A c n cl ch Al Ah g w5.heap.size [] (w5.alloc (.cells (madeCells #[.string ⟨#[]⟩,.string ⟨#[]⟩] (N.l.length*2)) 42)):=⟨(rowBelow R0.out hb5).alloc _,(rowBelow R1.out hb5).alloc _,(rowBelow R2.out hb5).alloc _,hvr.alloc _,rzMade _ _ _ _ rfl,hgx,hgl,hbw.alloc hbw.size _⟩;clear hgg hb5 hvr hbw hgx hgl hmk;have HE0:=zqh hE0;clear hE0))
 clear hmk2 c2;obtain ⟨Q,hQ⟩:∃ Q,w5.heap.size=Q:=⟨_,rfl⟩;rw [hQ] at HE0 ⊢;obtain ⟨O,hO⟩:∃ O,own N.l=O:=⟨_,rfl⟩;have HOS:=zqh (fun k (hk:k<N.l.length) i h=>own_sub HV.out (k+1) k (Nat.lt_succ_self k) hk i h);have HOI:=zqh (fun k hk j hj i h=>own_ins HV.out k hk j hj i h)
 have hsum:(RW (Wt)).sum N=(RW (Wt)).gap O (scan ((RW (Wt)).step O) [] N.l) (allTo N.n) (N.l.length-1):=by unfold Rg.sum Rg.all;rw [hO]
 rw [HS.out] at hsum;have HSUM:=zqh hsum
 have hOl:O.length=N.l.length:=by rw [← hO];exact own_len N.l
 simp only [hO] at HPT HWD HOS HOI;have HO:=zqh hO;have HOL:=zqh hOl;clear hsum hO hOl
 go_loopw [7] (fun t wr=>∃ k:Nat,k≤N.l.length∧t = .int .i64 k∧SuS w N A c n cl ch Al Ah g Q (scan ((RW (Wt)).step O) [] (N.l.take k)) wr) (fun t _=>N.l.length-(intOf t).toNat)
 case atStart=>exact ⟨0,by omega,rfl,HE0.out⟩
 case round =>
  clear HE0;obtain ⟨k,hk,rfl,hE⟩:=hrel;obtain ⟨c1,c2,c3,c4⟩:=hE.cells;by_cases hlt:k<N.l.length
  ·obtain ⟨b,o,rfl,hbB,hcs⟩:=hN (by omega);have hnd:=hcs k hlt;clear hcs;have hfk:=HFM.out k hlt;have hnext:=scan_take ((RW (Wt)).step O) N.l k hlt;have hLl:=scan_len ((RW (Wt)).step O) N.l k hk;have hpt:=fun m=>HPT.out k hlt m;have hwd:=fun j hj all hall m=>HWD.out k hk j hj all hall m;have hoi:=fun j hj i h=>HOI.out k hlt j hj i h;have hos:=fun i h=>HOS.out k hlt i h;obtain ⟨⟨xk,xl,xi⟩,hx⟩:∃ x,N.l[k]=x:=⟨_,rfl⟩;obtain ⟨L,hL⟩:∃ L,scan ((RW (Wt)).step O) [] (N.l.take k)=L:=⟨_,rfl⟩;rw [hx] at hnd hfk;simp only [hx,hL] at hpt hwd hoi;rw [hx,hL] at hnext;rw [hL] at hLl hE;have HPT2:=zqh hpt;have HWD2:=zqh hwd;have HOI2:=zqh hoi;have HOS2:=zqh hos;have HNX:=zqh hnext;have HFK:=zqh hfk;have HLL:=zqh hLl;clear hpt hwd hoi hos hnext hx hL hfk hLl;obtain ⟨hk1,hk2,⟨A',c',hk3,hrd⟩,hr1,hr2,hr3,hr4⟩:=hnd;replace hk1:=below_cell hE.bl hbB hk1;replace hk2:=below_cell hE.bl hbB hk2;replace hk3:=below_cell hE.bl hbB hk3;have HRD:=zqh hrd;have HE:=zqh hE;clear hrd hE
   have hi3:(0:Int)≤(k:Int):=by omega
   have hi4:(k:Int)<(N.l.length:Int):=by omega
   obtain ⟨W0,rfl⟩:∃ W0,W0=wr:=⟨wr,rfl⟩;have hzQ:=HE.out.fl.lt;have hxN:=arrNew W0 #[.int .i64 xk,.int .i64 xl,.slice A' xi.length c'] 66 W0.heap.size 3 rfl rfl;have HEN:=zqh (HE.out.alloc (.cells #[.int .i64 xk,.int .i64 xl,.slice A' xi.length c'] 66));have hkd:((xk=0∨xk=1∨xk=2)∧xi.length=0)∨xk=3∨xk=4:=formed_kind HFK.out;rcases hkd with ⟨hkk,hil⟩ | h3 | h4
   ·have hins:xi=[]:=List.length_eq_zero_iff.1 hil;rcases hkk with h0 | h1 | h2
    ·have b1:(xk==1)=false:=beq_eq_false_iff_ne.2 (by omega);have b2:(xk==2)=false:=beq_eq_false_iff_ne.2 (by omega);have b3:(xk==3)=false:=beq_eq_false_iff_ne.2 (by omega)
     have hst:(RW (Wt)).step O L ⟨xk,xl,xi⟩=0:=by
      unfold Rg.step Rg.start;dsimp only
      rw [hins,if_neg (by omega),if_neg (by omega)];rfl
     have hnx:=HNX.out;rw [hst] at hnx;have HN2:=zqh hnx;have HIL:=zqh hil;have HXN:=zqh hxN;clear hst hnx h0 hins hil hxN
     go_wp2_with (go_at_call 37;(with_reducible refine (rzero02 _).mono ?_);rintro e w3 ⟨rfl,hb3⟩;have hE3:=HEN.out.below hb3;have hx3:=rowBelow HXN.out hb3;have hf1:=hE3.fl.frozen (k*2);have hf2:=hE3.fl.frozen (k*2+1);obtain ⟨hq1,hq2⟩:=hE3.raw k HLL.out.symm hlt;have x0:World.cell? _ ⟨W0.heap.size,0,none⟩=some (.int .i64 xk):=hx3.cell (i:=0) (by decide);have x1:World.cell? _ ⟨W0.heap.size,1,none⟩=some (.int .i64 xl):=hx3.cell (i:=1) (by decide);have x2:World.cell? _ ⟨W0.heap.size,2,none⟩=some (.slice A' xi.length c'):=hx3.cell (i:=2) (by decide);have hz3:=hx3.lt;have HE3:=zqh hE3;have HX3:=zqh hx3;clear hE3 hx3 c1 c2 c3 c4 hk1 hk2 hk3)
     clear hq1 hq2 hf1 hf2 x0 x1 x2
     go_loopw [9] (fun t wq=>∃ q:Nat,q=xi.length∧t = .int .i64 (q:Int)∧SuS w N (some ⟨b,o,none⟩) c n cl ch Al Ah g Q (L++[0]) wq∧wq.rowIs W0.heap.size 66 3 (arrF #[.int .i64 xk,.int .i64 xl,.slice A' xi.length c'])) (fun t _=>0)
     case atStart=>exact ⟨0,HIL.out.symm,rfl,HE3.out.nextz k HLL.out.symm,(HX3.out.setOther (by have:=hzQ;simp;omega) _).setOther (by have:=hzQ;simp;omega) _⟩
     case round =>
      obtain ⟨q,hq,rfl,hE4,hx4⟩:=hrel;have x2:World.cell? _ ⟨W0.heap.size,2,none⟩=some (.slice A' xi.length c'):=hx4.cell (i:=2) (by decide);have hil0:decide ((q:Int)<(xi.length:Int))=false:=decide_eq_false (by omega)
      have hil1:¬ q<xi.length:=by omega
      have hil2:¬ (q:Int)<(xi.length:Int):=by omega
      clear hq;have HE4:=zqh hE4;clear hE4 hx4
      go_wp2
      go_roundw
      case rel=>exact ⟨k+1,Nat.succ_le_of_lt hlt,by go_num,by rw [HN2.out];exact HE4.out⟩
      case measure=>simp [intOf];omega
    ·have b1:(xk==1)=true:=beq_iff_eq.2 (by omega);have b2:(xk==2)=false:=beq_eq_false_iff_ne.2 (by omega);have b3:(xk==3)=false:=beq_eq_false_iff_ne.2 (by omega)
     have hst:(RW (Wt)).step O L ⟨xk,xl,xi⟩=1:=by
      unfold Rg.step Rg.start;dsimp only
      rw [hins,if_neg (by omega),if_pos (by omega)];rfl
     have hnx:=HNX.out;rw [hst] at hnx;have HN2:=zqh hnx;have HIL:=zqh hil;have HXN:=zqh hxN;have hon:=fun W=>rone33 W;unfold rfV at hon;have HON:=zqh hon;clear hon hst hnx h1 hins hil hxN
     go_wp2_with (first | (go_at_call 37;(with_reducible refine (rzero02 _).mono ?_);rintro e w3 ⟨rfl,hb3⟩;have hE3:=HEN.out.below hb3;have hx3:=rowBelow HXN.out hb3;have hf1:=hE3.fl.frozen (k*2);have hf2:=hE3.fl.frozen (k*2+1);obtain ⟨hq1,hq2⟩:=hE3.raw k HLL.out.symm hlt;have x0:World.cell? _ ⟨W0.heap.size,0,none⟩=some (.int .i64 xk):=hx3.cell (i:=0) (by decide);have x1:World.cell? _ ⟨W0.heap.size,1,none⟩=some (.int .i64 xl):=hx3.cell (i:=1) (by decide);have x2:World.cell? _ ⟨W0.heap.size,2,none⟩=some (.slice A' xi.length c'):=hx3.cell (i:=2) (by decide);have hz3:=hx3.lt;have HE3:=zqh hE3;have HX3:=zqh hx3;clear hE3 hx3 c1 c2 c3 c4 hk1 hk2 hk3) | (go_at_call 85;(with_reducible refine (HON.out _).mono ?_);rintro e w4 ⟨rfl,hb4⟩;have hE4:=(HE3.out.nextz k HLL.out.symm).below hb4;have hx4:=rowBelow ((HX3.out.setOther (by have:=hzQ;simp;omega) _).setOther (by have:=hzQ;simp;omega) _) hb4;clear hq1 hq2 hf1 hf2 x0 x1 x2;have hf1:=hE4.fl.frozen (k*2);have hf2:=hE4.fl.frozen (k*2+1);obtain ⟨hq1,hq2⟩:=hE4.at k (by have:=HLL.out;simp;omega) hlt;have x0:World.cell? _ ⟨W0.heap.size,0,none⟩=some (.int .i64 xk):=hx4.cell (i:=0) (by decide);have x1:World.cell? _ ⟨W0.heap.size,1,none⟩=some (.int .i64 xl):=hx4.cell (i:=1) (by decide);have x2:World.cell? _ ⟨W0.heap.size,2,none⟩=some (.slice A' xi.length c'):=hx4.cell (i:=2) (by decide);have hz4:=hx4.lt;have HE4:=zqh hE4;have HX4:=zqh hx4;clear hE4 hx4))
     clear hq1 hq2 hf1 hf2 x0 x1 x2
     go_loopw [9] (fun t wq=>∃ q:Nat,q=xi.length∧t = .int .i64 (q:Int)∧SuS w N (some ⟨b,o,none⟩) c n cl ch Al Ah g Q (L++[1]) wq∧wq.rowIs W0.heap.size 66 3 (arrF #[.int .i64 xk,.int .i64 xl,.slice A' xi.length c'])) (fun t _=>0)
     case atStart=>exact ⟨0,HIL.out.symm,rfl,HE4.out.last 1 k HLL.out.symm,(HX4.out.setOther (by have:=hzQ;simp;omega) _).setOther (by have:=hzQ;simp;omega) _⟩
     case round =>
      obtain ⟨q,hq,rfl,hE4,hx4⟩:=hrel;have x2:World.cell? _ ⟨W0.heap.size,2,none⟩=some (.slice A' xi.length c'):=hx4.cell (i:=2) (by decide);have hil0:decide ((q:Int)<(xi.length:Int))=false:=decide_eq_false (by omega)
      have hil1:¬ q<xi.length:=by omega
      have hil2:¬ (q:Int)<(xi.length:Int):=by omega
      clear hq;have HE5:=zqh hE4;clear hE4 hx4
      go_wp2
      go_roundw
      case rel=>exact ⟨k+1,Nat.succ_le_of_lt hlt,by go_num,by rw [HN2.out];exact HE5.out⟩
      case measure=>simp [intOf];omega
    ·have b1:(xk==1)=false:=beq_eq_false_iff_ne.2 (by omega);have b2:(xk==2)=true:=beq_iff_eq.2 (by omega);have b3:(xk==3)=false:=beq_eq_false_iff_ne.2 (by omega);have hlk:litOk xl N.n=true:=(formed_litOk HFK.out h2).1;have hrg:=litOk_rng' hlk
     have hst:(RW (Wt)).step O L ⟨xk,xl,xi⟩=Wt xl:=by
      unfold Rg.step Rg.start;dsimp only
      rw [hins,if_pos (by omega)];rfl
     have hnx:=HNX.out;rw [hst] at hnx;rw [HN0.out] at hrg;rcases hrg with ⟨r1,r2,r3⟩ | ⟨r1,r2,r3⟩
     ·obtain ⟨v,rfl⟩:∃ v:Nat,xl=(v:Int):=⟨xl.toNat,by omega⟩;have hpv:Wt ((v:Int))=hi.getD v 0:=HWH.out v (by omega) (by omega);rw [hpv] at hnx;obtain ⟨h,oh,rfl,hbh,hch⟩:=HHI.out (by omega);have H1:=hch (v*2) (by omega);have H2:w.cell? ⟨h,oh+v*2+1,none⟩=some (rfF hi (v*2+1)):=hch (v*2+1) (by omega);rw [rfF_0] at H1;rw [rfF_1] at H2;obtain ⟨p,hp⟩:∃ p,hi.getD v 0=p:=⟨_,rfl⟩;rw [hp] at H1 H2 hnx;have HN2:=zqh hnx;have HIL:=zqh hil;have HXN:=zqh hxN;have HH1:=zqh H1;have HH2:=zqh H2;have HBB:=zqh hbh;have i5:((v:Int)<(0:Int))=False:=eq_false (by omega);have i6:((0:Int)<(v:Int))=True:=eq_true (by omega)
      have i7:(0:Int)≤(v:Int):=by omega
      have i8:(v:Int)<(n:Int)+1:=by omega
      have i9:IntKind.i64.wrap (-(-(v:Int)))=(v:Int):=by rw [IntKind.wrap_i64];omega
      have i10:0<v:=by omega
      clear hst hnx h2 hins hil hxN H1 H2 hp hpv hlk r1 r2 r3 hch
      go_wp2_with (go_at_call 37;(with_reducible refine (rzero02 _).mono ?_);rintro e w3 ⟨rfl,hb3⟩;have hE3:=HEN.out.below hb3;have hx3:=rowBelow HXN.out hb3;have hf1:=hE3.fl.frozen (k*2);have hf2:=hE3.fl.frozen (k*2+1);obtain ⟨hq1,hq2⟩:=hE3.raw k HLL.out.symm hlt;have x0:World.cell? _ ⟨W0.heap.size,0,none⟩=some (.int .i64 xk):=hx3.cell (i:=0) (by decide);have x1:World.cell? _ ⟨W0.heap.size,1,none⟩=some (.int .i64 ((v:Int))):=hx3.cell (i:=1) (by decide);have x2:World.cell? _ ⟨W0.heap.size,2,none⟩=some (.slice A' xi.length c'):=hx3.cell (i:=2) (by decide);have hz3:=hx3.lt;have HE3:=zqh hE3;have HX3:=zqh hx3 ;have hqg:=hE3.hQ;have hgg2:=hE3.hg;have w1:World.cell? _ ⟨w.heap.size+1,1,none⟩=some (.slice (some ⟨h,oh,none⟩) (n+1) ch):=hE3.fw.cell (i:=1) (by decide);have h1:=below_cell hE3.bl HBB.out HH1.out;have h2:=below_cell hE3.bl HBB.out HH2.out;have hbq:=HBB.out;clear hE3 hx3 c1 c2 c3 c4 hk1 hk2 hk3)
      clear hq1 hq2 hf1 hf2 x0 x1 x2 w1 h1 h2
      go_loopw [9] (fun t wq=>∃ q:Nat,q=xi.length∧t = .int .i64 (q:Int)∧SuS w N (some ⟨b,o,none⟩) c n cl ch Al (some ⟨h,oh,none⟩) g Q (L++[p]) wq∧wq.rowIs W0.heap.size 66 3 (arrF #[.int .i64 xk,.int .i64 ((v:Int)),.slice A' xi.length c'])) (fun t _=>0)
      case atStart=>exact ⟨0,HIL.out.symm,rfl,(HE3.out.nextz k HLL.out.symm).last p k HLL.out.symm,(((HX3.out.setOther (by have:=hzQ;simp;omega) _).setOther (by have:=hzQ;simp;omega) _).setOther (by have:=hzQ;simp;omega) _).setOther (by have:=hzQ;simp;omega) _⟩
      case round =>
       obtain ⟨q,hq,rfl,hE4,hx4⟩:=hrel;have x2:World.cell? _ ⟨W0.heap.size,2,none⟩=some (.slice A' xi.length c'):=hx4.cell (i:=2) (by decide);have hil0:decide ((q:Int)<(xi.length:Int))=false:=decide_eq_false (by omega)
       have hil1:¬ q<xi.length:=by omega
       have hil2:¬ (q:Int)<(xi.length:Int):=by omega
       clear hq;have HE4:=zqh hE4;clear hE4 hx4
       go_wp2
       go_roundw
       case rel=>exact ⟨k+1,Nat.succ_le_of_lt hlt,by go_num,by rw [HN2.out];exact HE4.out⟩
       case measure=>simp [intOf];omega
     ·obtain ⟨v,rfl⟩:∃ v:Nat,xl = -(v:Int):=⟨(-xl).toNat,by omega⟩;have hpv:Wt (-(v:Int))=lo.getD v 0:=HWL.out v (by omega) (by omega);rw [hpv] at hnx;obtain ⟨l,ol,rfl,hbl,hcl⟩:=HLO.out (by omega);have H1:=hcl (v*2) (by omega);have H2:w.cell? ⟨l,ol+v*2+1,none⟩=some (rfF lo (v*2+1)):=hcl (v*2+1) (by omega);rw [rfF_0] at H1;rw [rfF_1] at H2;obtain ⟨p,hp⟩:∃ p,lo.getD v 0=p:=⟨_,rfl⟩;rw [hp] at H1 H2 hnx;have HN2:=zqh hnx;have HIL:=zqh hil;have HXN:=zqh hxN;have HH1:=zqh H1;have HH2:=zqh H2;have HBB:=zqh hbl;have i5:(-(v:Int)<(0:Int))=True:=eq_true (by omega);have i6:((0:Int) < -(v:Int))=False:=eq_false (by omega)
      have i7:(0:Int)≤(v:Int):=by omega
      have i8:(v:Int)<(n:Int)+1:=by omega
      have i9:IntKind.i64.wrap (-(-(v:Int)))=(v:Int):=by rw [IntKind.wrap_i64];omega
      have i10:0<v:=by omega
      clear hst hnx h2 hins hil hxN H1 H2 hp hpv hlk r1 r2 r3 hcl
      go_wp2_with (go_at_call 37;(with_reducible refine (rzero02 _).mono ?_);rintro e w3 ⟨rfl,hb3⟩;have hE3:=HEN.out.below hb3;have hx3:=rowBelow HXN.out hb3;have hf1:=hE3.fl.frozen (k*2);have hf2:=hE3.fl.frozen (k*2+1);obtain ⟨hq1,hq2⟩:=hE3.raw k HLL.out.symm hlt;have x0:World.cell? _ ⟨W0.heap.size,0,none⟩=some (.int .i64 xk):=hx3.cell (i:=0) (by decide);have x1:World.cell? _ ⟨W0.heap.size,1,none⟩=some (.int .i64 (-(v:Int))):=hx3.cell (i:=1) (by decide);have x2:World.cell? _ ⟨W0.heap.size,2,none⟩=some (.slice A' xi.length c'):=hx3.cell (i:=2) (by decide);have hz3:=hx3.lt;have HE3:=zqh hE3;have HX3:=zqh hx3 ;have hqg:=hE3.hQ;have hgg2:=hE3.hg;have w1:World.cell? _ ⟨w.heap.size+1,0,none⟩=some (.slice (some ⟨l,ol,none⟩) (n+1) cl):=hE3.fw.cell (i:=0) (by decide);have h1:=below_cell hE3.bl HBB.out HH1.out;have h2:=below_cell hE3.bl HBB.out HH2.out;have hbq:=HBB.out;clear hE3 hx3 c1 c2 c3 c4 hk1 hk2 hk3)
      clear hq1 hq2 hf1 hf2 x0 x1 x2 w1 h1 h2
      go_loopw [9] (fun t wq=>∃ q:Nat,q=xi.length∧t = .int .i64 (q:Int)∧SuS w N (some ⟨b,o,none⟩) c n cl ch (some ⟨l,ol,none⟩) Ah g Q (L++[p]) wq∧wq.rowIs W0.heap.size 66 3 (arrF #[.int .i64 xk,.int .i64 (-(v:Int)),.slice A' xi.length c'])) (fun t _=>0)
      case atStart=>exact ⟨0,HIL.out.symm,rfl,(HE3.out.nextz k HLL.out.symm).last p k HLL.out.symm,(((HX3.out.setOther (by have:=hzQ;simp;omega) _).setOther (by have:=hzQ;simp;omega) _).setOther (by have:=hzQ;simp;omega) _).setOther (by have:=hzQ;simp;omega) _⟩
      case round =>
       obtain ⟨q,hq,rfl,hE4,hx4⟩:=hrel;have x2:World.cell? _ ⟨W0.heap.size,2,none⟩=some (.slice A' xi.length c'):=hx4.cell (i:=2) (by decide);have hil0:decide ((q:Int)<(xi.length:Int))=false:=decide_eq_false (by omega)
       have hil1:¬ q<xi.length:=by omega
       have hil2:¬ (q:Int)<(xi.length:Int):=by omega
       clear hq;have HE4:=zqh hE4;clear hE4 hx4
       go_wp2
       go_roundw
       case rel=>exact ⟨k+1,Nat.succ_le_of_lt hlt,by go_num,by rw [HN2.out];exact HE4.out⟩
       case measure=>simp [intOf];omega
   ·have b1:(xk==1)=false:=beq_eq_false_iff_ne.2 (by omega);have b2:(xk==2)=false:=beq_eq_false_iff_ne.2 (by omega);have b3:(xk==3)=true:=beq_iff_eq.2 (by omega);obtain ⟨P,hP⟩:∃ P,psN Wt O L ⟨xk,xl,xi⟩=P:=⟨_,rfl⟩
    have hP0:P 0=1:=by
     rw [← hP,psN_zero];unfold Rg.start;dsimp only
     rw [if_neg (by omega),if_pos (by omega)];rfl
    have hPS:∀ q j:Nat,q<xi.length→xi.getD q 0=(j:Int)→P (q+1)=P q*L.getD j 0:=fun q j h1 h2=>by rw [← hP];exact psN_and (x:=⟨xk,xl,xi⟩) h3 h1 h2
    have hPD:∀ q,Dg (P q):=fun q=>by rw [← hP];exact HPT2.out q
    have hnx:=HNX.out;rw [← psN_end (x:=⟨xk,xl,xi⟩),hP] at hnx;have hin:∀ i,i<xi.length→∃ m:Nat,xi.getD i 0=(m:Int)∧m<k:=formed_ins HFK.out;have hld:∀ j,j<k→Dg (L.getD j 0):=fun j hj=>HWD2.out j hj (O.getD j 0) (fun i h=>h) 0;have HP0:=zqh hP0;have HPS:=zqh hPS;have HPD:=zqh hPD;have HIN:=zqh hin;have HLD:=zqh hld;have HN2:=zqh hnx;have HXN:=zqh hxN;have hon:=fun W=>rone33 W;unfold rfV at hon;have HON:=zqh hon;clear hon;clear hnx hP0 hPS hPD hin hld hP h3 hxN
    go_wp2_with (first | (go_at_call 37;(with_reducible refine (rzero02 _).mono ?_);rintro e w3 ⟨rfl,hb3⟩;have hE3:=HEN.out.below hb3;have hx3:=rowBelow HXN.out hb3;have hf1:=hE3.fl.frozen (k*2);have hf2:=hE3.fl.frozen (k*2+1);obtain ⟨hq1,hq2⟩:=hE3.raw k HLL.out.symm hlt;have x0:World.cell? _ ⟨W0.heap.size,0,none⟩=some (.int .i64 xk):=hx3.cell (i:=0) (by decide);have x1:World.cell? _ ⟨W0.heap.size,1,none⟩=some (.int .i64 xl):=hx3.cell (i:=1) (by decide);have x2:World.cell? _ ⟨W0.heap.size,2,none⟩=some (.slice A' xi.length c'):=hx3.cell (i:=2) (by decide);have hz3:=hx3.lt;have HE3:=zqh hE3;have HX3:=zqh hx3;clear hE3 hx3 c1 c2 c3 c4 hk1 hk2 hk3) | (go_at_call 85;(with_reducible refine (HON.out _).mono ?_);rintro e w4 ⟨rfl,hb4⟩;have hE4:=(HE3.out.nextz k HLL.out.symm).below hb4;have hx4:=rowBelow ((HX3.out.setOther (by have:=hzQ;simp;omega) _).setOther (by have:=hzQ;simp;omega) _) hb4;clear hq1 hq2 hf1 hf2 x0 x1 x2;have hf1:=hE4.fl.frozen (k*2);have hf2:=hE4.fl.frozen (k*2+1);obtain ⟨hq1,hq2⟩:=hE4.at k (by have:=HLL.out;simp;omega) hlt;have x0:World.cell? _ ⟨W0.heap.size,0,none⟩=some (.int .i64 xk):=hx4.cell (i:=0) (by decide);have x1:World.cell? _ ⟨W0.heap.size,1,none⟩=some (.int .i64 xl):=hx4.cell (i:=1) (by decide);have x2:World.cell? _ ⟨W0.heap.size,2,none⟩=some (.slice A' xi.length c'):=hx4.cell (i:=2) (by decide);have hz4:=hx4.lt;have HE4:=zqh hE4;have HX4:=zqh hx4;clear hE4 hx4))
    clear hq1 hq2 hf1 hf2 x0 x1 x2
    go_loopw [9] (fun t wq=>∃ q:Nat,q≤xi.length∧t = .int .i64 (q:Int)∧SuS w N (some ⟨b,o,none⟩) c n cl ch Al Ah g Q (L++[P q]) wq∧wq.rowIs W0.heap.size 66 3 (arrF #[.int .i64 xk,.int .i64 xl,.slice A' xi.length c'])) (fun t _=>xi.length-(intOf t).toNat)
    case atStart=>exact ⟨0,Nat.zero_le _,rfl,by rw [HP0.out];exact HE4.out.last 1 k HLL.out.symm,(HX4.out.setOther (by have:=hzQ;simp;omega) _).setOther (by have:=hzQ;simp;omega) _⟩
    case round =>
     clear HE3 HX3 HE4 HX4;obtain ⟨q,hq,rfl,hE5,hx5⟩:=hrel;have x0:World.cell? _ ⟨W0.heap.size,0,none⟩=some (.int .i64 xk):=hx5.cell (i:=0) (by decide);have x2:World.cell? _ ⟨W0.heap.size,2,none⟩=some (.slice A' xi.length c'):=hx5.cell (i:=2) (by decide);by_cases hlt2:q<xi.length
     ·have hil0:decide ((q:Int)<(xi.length:Int))=true:=decide_eq_true (by omega)
      have hil1:(q:Int)<(xi.length:Int):=by omega
      have hil2:(0:Int)≤(q:Int):=by omega
      obtain ⟨b',o',rfl,hbB',hcs'⟩:=HRD.out (by omega);have hc:wr.cell? ⟨b',o'+q,none⟩=some (.int .i64 (xi.getD q 0)):=below_cell hE5.bl hbB' (hcs' q hlt2);obtain ⟨j,hj1,hj2⟩:=HIN.out q hlt2;have hps:=HPS.out q j hlt2 hj1;rw [hj1] at hc
      have hjl:j<N.l.length:=by omega
      have hi7:(0:Int)≤(j:Int):=by omega
      have hi8:(j:Int)<(N.l.length:Int):=by omega
      obtain ⟨s1,s2⟩:=hE5.at k (by have:=HLL.out;simp;omega) hlt;obtain ⟨s3,s4⟩:=hE5.at j (by have:=HLL.out;simp;omega) hjl;rw [gd_here _ _ _ HLL.out] at s1 s2;rw [gd_old _ _ _ _ HLL.out hj2] at s3 s4;have hdp:=HPD.out q;have hdp2:=HPD.out (q+1);have hdy:=HLD.out j hj2;obtain ⟨p,hp⟩:∃ p,P q=p:=⟨_,rfl⟩;obtain ⟨y,hy⟩:∃ y,L.getD j 0=y:=⟨_,rfl⟩;rw [hp] at s1 s2 hps hdp hE5;rw [hy] at s3 s4 hdy;rw [hy] at hps;have hmu:=fun W=>rmul02 W p y hdp.1 hdy.1 hdp.2.1 hdp.2.2 hdy.2.1 hdy.2.2;unfold rfV at hmu;have HMU:=zqh hmu;clear hmu;obtain ⟨r,hr⟩:∃ r,P (q+1)=r:=⟨_,rfl⟩;rw [hr] at hps hdp2;rw [← hps] at HMU;have HR:=zqh hr;have HE6:=zqh hE5;have HX6:=zqh hx5;have gq:=hE5.fl.lt;have gn:=hx5.lt;have gv:=hE5.fv.lt;have g9:=hE5.fw.lt;have gb:=World.block_lt_of_cell? _ _ hc;have HBW:=zqh hE5.bl;have HLT2:=zqh hlt2;clear hcs' hdp hdp2 hdy hp hy hr hps hE5 hx5 hj1 hq hlt2
      go_upto_region 18 with (fail)
      have s5:=x2;have s6:=hc;clear x0 x2 hc;have HS:Hid (∀ W,Below wr.heap.size wr W→W.cell? ⟨Q,k*2,none⟩=some (.string (dec (qn p)))∧W.cell? ⟨Q,k*2+1,none⟩=some (.string (dec p.den))∧W.cell? ⟨Q,j*2,none⟩=some (.string (dec (qn y)))∧W.cell? ⟨Q,j*2+1,none⟩=some (.string (dec y.den))∧W.cell? ⟨W0.heap.size,2,none⟩=some (.slice (some ⟨b',o',none⟩) xi.length c')∧W.cell? ⟨b',o'+q,none⟩=some (.int .i64 (j:Int))):=zqh fun W hb=>⟨(hb.cell (p:=⟨Q,k*2,none⟩) gq).trans s1,(hb.cell (p:=⟨Q,k*2+1,none⟩) gq).trans s2,(hb.cell (p:=⟨Q,j*2,none⟩) gq).trans s3,(hb.cell (p:=⟨Q,j*2+1,none⟩) gq).trans s4,(hb.cell (p:=⟨W0.heap.size,2,none⟩) gn).trans s5,(hb.cell (p:=⟨b',o'+q,none⟩) gb).trans s6⟩
      refine wp_region_props (n:=_) (PX:=[zqu (.slice (some ⟨Q,0,none⟩) N.l.length N.l.length),
         zqu (.int .i64 (k:Int)),
         zqu (.slice (some ⟨Q,0,none⟩) N.l.length N.l.length),
         zqu (.int .i64 (k:Int)),
         zqu (.pointer (some ⟨Q,k*2,none⟩)),
         zqu (.agg #[.string (dec (qn p)),.string (dec p.den)]),
         zqu (.slice (some ⟨Q,0,none⟩) N.l.length N.l.length),
         zqu (.pointer (some ⟨W0.heap.size,2,none⟩)),
         zqu (.slice (some ⟨b',o',none⟩) xi.length c'),
         zqu (.int .i64 (q:Int)),
         zqu (.pointer (some ⟨b',o'+q,none⟩)),
         zqu (.int .i64 (j:Int)),
         zqu (.pointer (some ⟨Q,j*2,none⟩)),
         zqu (.agg #[.string (dec (qn y)),.string (dec y.den)]),
         zqu (.agg #[.string (dec (qn r)),.string (dec r.den)]),
         zqu (.pointer (some ⟨Q,k*2,none⟩))])
        (AL:=[]) (DP:=[[],[],[],[],[2,3],[4],[],[],[7],[],[8,9],[10],[6,11],[12],[5,13],[0,1]]) (L1:=[0,1,2,3,4,5,6,7,8,9,10,11,12,13,14,15]) (ex:=[]) (by kernel_rfl) rfl (by kernel_rfl) ?_ ?_ (fin0 ?_)
      ·refine zqg ?_ (zqg ?_ (zqg ?_ (zqg ?_ (zqg ?_ (zqg ?_ (zqg ?_ (zqg ?_ (zqg ?_ (zqg ?_ (zqg ?_ (zqg ?_ (zqg ?_ (zqg ?_ (zqg ?_ (zqg ?_ zqi)))))))))))))))
       iterate 16 exact fun _ _ _ _ h _=>h
      ·refine zqg (zst rfl [] ?_) (zqg (zst rfl [] ?_) (zqg (zst rfl [] ?_) (zqg (zst rfl [] ?_) (zqg (zst rfl [(2,some 93),(3,some 94)] ?_) (zqg (zst rfl [(4,some 95)] ?_) (zqg (zst rfl [] ?_) (zqg (zst rfl [] ?_) (zqg (zst rfl [(7,some 98)] ?_) (zqg (zst rfl [] ?_) (zqg (zst rfl [(8,some 99),(9,some 100)] ?_) (zqg (zst rfl [(10,some 101)] ?_) (zqg (zst rfl [(6,some 97),(11,some 102)] ?_) (zqg (zst rfl [(12,some 103)] ?_) (zqg ?_ (zqg (zst rfl [(0,some 91),(1,some 92)] ?_) zqi)))))))))))))))
       all_goals try (intro vs W hW hd K hK;(try simp only [zdj,zqu,and_true,List.getD_cons_succ,List.getD_cons_zero] at hd);(first | simp only [hd,putsD,Act.put,zqa,zqb,zqc,zqd,zqe,zqf] at hK ⊢ | simp only [putsD,Act.put,zqa,zqb,zqc,zqd,zqe,zqf] at hK ⊢ | skip);obtain ⟨m1,m2,m3,m4,m5,m6⟩:=HS.out W hW;go_simp;exact hK.out _ _ rfl (zqr _ _) (zqv rfl))
       ·refine zso rfl [(5,some 96),(13,some 104)] ?_;intro vs W hW hd K hK;have d5:vs 5 = .agg #[.string (dec (qn p)),.string (dec p.den)]:=hd 5 (by decide);have d13:vs 13 = .agg #[.string (dec (qn y)),.string (dec y.den)]:=hd 13 (by decide);clear hd
        try simp only [d5,d13,putsD,Act.put,zqa,zqb,zqc,zqd,zqe,zqf] at hK ⊢
        go_simp
        go_at_call 104
        (with_reducible first | refine (HMU.out _).mono ?_)
        rintro e w9 ⟨rfl,hb9⟩;exact hK.out _ _ (rfl) hb9 (fun h=>absurd h (by decide))
      refine zfo [(0,some 91),(1,some 92),(2,some 93),(3,some 94),(4,some 95),(5,some 96),(6,some 97),(7,some 98),(8,some 99),(9,some 100),(10,some 101),(11,some 102),(12,some 103),(13,some 104),(14,some 105),(15,some 106)] #[true,true,true,true,true,true,true,true,true,true,true,true,true,true,true,true,false] 1 ?_;intro vs Wf hW hd hbk hdis kf;simp only [zdj,zqu,and_true,List.getD_cons_succ,List.getD_cons_zero] at hd;obtain ⟨d0,d1,d2,d3,d4,d5,d6,d7,d8,d9,d10,d11,d12,d13,d14,d15⟩:=hd;clear hbk hdis
      try simp only [d0,d1,d2,d3,d4,d5,d6,d7,d8,d9,d10,d11,d12,d13,d14,d15,putsD,Act.put,zqa,zqb,zqc,zqd,zqe,zqf]
      clear d0 d1 d2 d3 d4 d5 d6 d7 d8 d9 d10 d11 d12 d13 d14 d15 vs;clear HS;have qf:=HE6.out.below hW;obtain ⟨z1,z2⟩:=qf.at k (by have:=HLL.out;simp;omega) hlt;rw [gd_here _ _ _ HLL.out] at z1 z2;have y1:=qf.fl.frozen (k*2);have y2:=qf.fl.frozen (k*2+1);clear qf;refine wpAny_one1 16 (by kernel_rfl) rfl (fun K hK=>?_)
      go_simp
      refine hK.out _ _ ?_;clear hK K
      try simp only [putsD,Act.put,zqa,zqb,zqc,zqd,zqe,zqf]
      refine wpAny_end (by kernel_rfl) ?_ _
      go_wp2
      go_roundw
      case rel=>exact ⟨q+1,Nat.succ_le_of_lt HLT2.out,by go_num,by rw [HR.out];exact (HE6.out.below hW).last r k HLL.out.symm,((rowBelow HX6.out hW).setOther (by have:=hzQ;simp;omega) _).setOther (by have:=hzQ;simp;omega) _⟩
      case measure=>have:=HLT2.out;simp [intOf];omega
     ·have hil0:decide ((q:Int)<(xi.length:Int))=false:=decide_eq_false (by omega);have hil1:¬ q<xi.length:=hlt2
      have hil2:¬ (q:Int)<(xi.length:Int):=by omega
      obtain rfl:q=xi.length:=by omega
      have HE5:=zqh hE5;clear hE5 hx5 hq hlt2
      go_wp2
      go_roundw
      case rel=>exact ⟨k+1,Nat.succ_le_of_lt hlt,by go_num,by rw [HN2.out];exact HE5.out⟩
      case measure=>simp [intOf];omega
   ·have b1:(xk==1)=false:=beq_eq_false_iff_ne.2 (by omega);have b2:(xk==2)=false:=beq_eq_false_iff_ne.2 (by omega);have b3:(xk==3)=false:=beq_eq_false_iff_ne.2 (by omega);obtain ⟨P,hP⟩:∃ P,psN Wt O L ⟨xk,xl,xi⟩=P:=⟨_,rfl⟩
    have hP0:P 0=0:=by
     rw [← hP,psN_zero];unfold Rg.start;dsimp only
     rw [if_neg (by omega),if_neg (by omega)];rfl
    have hPS:∀ q j:Nat,q<xi.length→xi.getD q 0=(j:Int)→P (q+1)=P q+(RW Wt).wide (L.getD j 0) (vl (minus (O.getD k 0) (O.getD j 0))):=fun q j h1 h2=>by rw [← hP];exact psN_or (x:=⟨xk,xl,xi⟩) h4 HLL.out h1 h2
    have hPD:∀ q,Dg (P q):=fun q=>by rw [← hP];exact HPT2.out q
    have hnx:=HNX.out;rw [← psN_end (x:=⟨xk,xl,xi⟩),hP] at hnx;have hin:∀ i,i<xi.length→∃ m:Nat,xi.getD i 0=(m:Int)∧m<k:=formed_ins HFK.out;have hld:∀ j,j<k→Dg (L.getD j 0):=fun j hj=>HWD2.out j hj (O.getD j 0) (fun i h=>h) 0;have HP0:=zqh hP0;have HPS:=zqh hPS;have HPD:=zqh hPD;have HIN:=zqh hin;have HLD:=zqh hld;have HN2:=zqh hnx;have HXN:=zqh hxN;have hjo:=fun j (hj:j∈xi) i h=>HOI2.out j hj i h;have HJO:=zqh hjo;clear hjo;clear hnx hP0 hPS hPD hin hld hP h4 hxN
    go_wp2_with ((go_at_call 37;(with_reducible refine (rzero02 _).mono ?_);rintro e w3 ⟨rfl,hb3⟩;have hE3:=HEN.out.below hb3;have hx3:=rowBelow HXN.out hb3;have hf1:=hE3.fl.frozen (k*2);have hf2:=hE3.fl.frozen (k*2+1);obtain ⟨hq1,hq2⟩:=hE3.raw k HLL.out.symm hlt;have x0:World.cell? _ ⟨W0.heap.size,0,none⟩=some (.int .i64 xk):=hx3.cell (i:=0) (by decide);have x1:World.cell? _ ⟨W0.heap.size,1,none⟩=some (.int .i64 xl):=hx3.cell (i:=1) (by decide);have x2:World.cell? _ ⟨W0.heap.size,2,none⟩=some (.slice A' xi.length c'):=hx3.cell (i:=2) (by decide);have hz3:=hx3.lt;have HE3:=zqh hE3;have HX3:=zqh hx3;clear hE3 hx3 c1 c2 c3 c4 hk1 hk2 hk3))
    clear hq1 hq2 hf1 hf2 x0 x1 x2
    go_loopw [9] (fun t wq=>∃ q:Nat,q≤xi.length∧t = .int .i64 (q:Int)∧SuS w N (some ⟨b,o,none⟩) c n cl ch Al Ah g Q (L++[P q]) wq∧wq.rowIs W0.heap.size 66 3 (arrF #[.int .i64 xk,.int .i64 xl,.slice A' xi.length c'])) (fun t _=>xi.length-(intOf t).toNat)
    case atStart=>exact ⟨0,Nat.zero_le _,rfl,by rw [HP0.out];exact HE3.out.nextz k HLL.out.symm,(HX3.out.setOther (by have:=hzQ;simp;omega) _).setOther (by have:=hzQ;simp;omega) _⟩
    case round =>
     clear HE3 HX3;obtain ⟨q,hq,rfl,hE5,hx5⟩:=hrel;have x0:World.cell? _ ⟨W0.heap.size,0,none⟩=some (.int .i64 xk):=hx5.cell (i:=0) (by decide);have x2:World.cell? _ ⟨W0.heap.size,2,none⟩=some (.slice A' xi.length c'):=hx5.cell (i:=2) (by decide);by_cases hlt2:q<xi.length
     ·have hil0:decide ((q:Int)<(xi.length:Int))=true:=decide_eq_true (by omega)
      have hil1:(q:Int)<(xi.length:Int):=by omega
      have hil2:(0:Int)≤(q:Int):=by omega
      obtain ⟨b',o',rfl,hbB',hcs'⟩:=HRD.out (by omega);have hc:wr.cell? ⟨b',o'+q,none⟩=some (.int .i64 (xi.getD q 0)):=below_cell hE5.bl hbB' (hcs' q hlt2);obtain ⟨j,hj1,hj2⟩:=HIN.out q hlt2;have hps:=HPS.out q j hlt2 hj1;rw [hj1] at hc
      have hjl:j<N.l.length:=by omega
      have hi7:(0:Int)≤(j:Int):=by omega
      have hi8:(j:Int)<(N.l.length:Int):=by omega
      obtain ⟨s1,s2⟩:=hE5.at k (by have:=HLL.out;simp;omega) hlt;obtain ⟨s3,s4⟩:=hE5.at j (by have:=HLL.out;simp;omega) hjl;rw [gd_here _ _ _ HLL.out] at s1 s2;rw [gd_old _ _ _ _ HLL.out hj2] at s3 s4;have hdp:=HPD.out q;have hdp2:=HPD.out (q+1);have hdy:=HLD.out j hj2
      have hmem:(j:Int)∈xi:=by
       rw [← hj1,List.getD_eq_getElem?_getD,List.getElem?_eq_getElem hlt2];exact List.getElem_mem _
      have hfi:=fun W hW=>HFI.out W hW (L.getD j 0) (O.getD k 0) (O.getD j 0) (fun i hi=>by
       cases h:(O.getD k 0).testBit i with
       | false=>rfl
       | true=>have h1:=HOS2.out i h;have h2:=HN0.out;omega) (fun m=>HWD2.out j hj2 (O.getD k 0) (fun i h=>HJO.out (j:Int) hmem i h) m)
      have hdf:=HWD2.out j hj2 (O.getD k 0) (fun i h=>HJO.out (j:Int) hmem i h) 128;rw [List.take_of_length_le (vl_length _)] at hdf;obtain ⟨f,hf⟩:∃ f,(RW Wt).wide (L.getD j 0) (vl (minus (O.getD k 0) (O.getD j 0)))=f:=⟨_,rfl⟩;simp only [hf] at hfi;rw [hf] at hps hdf;obtain ⟨s5,s6,_,_⟩:=setsCells hE5.fv k (by omega);obtain ⟨s7,s8,_,_⟩:=setsCells hE5.fv j (by omega);have s9:wr.cell? ⟨w.heap.size+1,0,none⟩=some (.slice Al (n+1) cl):=hE5.fw.cell (i:=0) (by decide);have s10:wr.cell? ⟨w.heap.size+1,1,none⟩=some (.slice Ah (n+1) ch):=hE5.fw.cell (i:=1) (by decide);rw [HO.out] at s5 s6 s7 s8;obtain ⟨sk,hsk⟩:∃ s,O.getD k 0=s:=⟨_,rfl⟩;obtain ⟨sj,hsj⟩:∃ s,O.getD j 0=s:=⟨_,rfl⟩;rw [hsk] at s5 s6;rw [hsj] at s7 s8;simp only [hsk,hsj] at hfi;unfold setV at hfi;obtain ⟨p,hp⟩:∃ p,P q=p:=⟨_,rfl⟩;obtain ⟨y,hy⟩:∃ y,L.getD j 0=y:=⟨_,rfl⟩;rw [hp] at s1 s2 hps hdp hE5;rw [hy] at s3 s4 hdy;rw [hy] at hfi;have had:=fun W=>radd02 W p f hdp.1 hdf.1 hdp.2.1 hdp.2.2 hdf.2.1 hdf.2.2;unfold rfV at had hfi;have HAD:=zqh had;have HFL:=zqh hfi;clear had hfi hdf hmem hf hsk hsj;obtain ⟨r,hr⟩:∃ r,P (q+1)=r:=⟨_,rfl⟩;rw [hr] at hps hdp2;rw [← hps] at HAD;have HR:=zqh hr;have HE6:=zqh hE5;have HX6:=zqh hx5;have gq:=hE5.fl.lt;have gn:=hx5.lt;have gv:=hE5.fv.lt;have g9:=hE5.fw.lt;have gb:=World.block_lt_of_cell? _ _ hc;have HBW:=zqh hE5.bl;have HLT2:=zqh hlt2;clear hcs' hdp hdp2 hdy hp hy hr hps hE5 hx5 hj1 hq hlt2
      go_upto_region 19 with (fail)
      have s11:=x2;have s12:=hc;clear x0 x2 hc;have HS:Hid (∀ W,Below wr.heap.size wr W→W.cell? ⟨Q,k*2,none⟩=some (.string (dec (qn p)))∧W.cell? ⟨Q,k*2+1,none⟩=some (.string (dec p.den))∧W.cell? ⟨Q,j*2,none⟩=some (.string (dec (qn y)))∧W.cell? ⟨Q,j*2+1,none⟩=some (.string (dec y.den))∧W.cell? ⟨g,k*2,none⟩=some (.int .u64 (Cs.lo sk:Int))∧W.cell? ⟨g,k*2+1,none⟩=some (.int .u64 (Cs.hi sk:Int))∧W.cell? ⟨g,j*2,none⟩=some (.int .u64 (Cs.lo sj:Int))∧W.cell? ⟨g,j*2+1,none⟩=some (.int .u64 (Cs.hi sj:Int))∧W.cell? ⟨w.heap.size+1,0,none⟩=some (.slice Al (n+1) cl)∧W.cell? ⟨w.heap.size+1,1,none⟩=some (.slice Ah (n+1) ch)∧W.cell? ⟨W0.heap.size,2,none⟩=some (.slice (some ⟨b',o',none⟩) xi.length c')∧W.cell? ⟨b',o'+q,none⟩=some (.int .i64 (j:Int))):=zqh fun W hb=>⟨(hb.cell (p:=⟨Q,k*2,none⟩) gq).trans s1,(hb.cell (p:=⟨Q,k*2+1,none⟩) gq).trans s2,(hb.cell (p:=⟨Q,j*2,none⟩) gq).trans s3,(hb.cell (p:=⟨Q,j*2+1,none⟩) gq).trans s4,(hb.cell (p:=⟨g,k*2,none⟩) gv).trans s5,(hb.cell (p:=⟨g,k*2+1,none⟩) gv).trans s6,(hb.cell (p:=⟨g,j*2,none⟩) gv).trans s7,(hb.cell (p:=⟨g,j*2+1,none⟩) gv).trans s8,(hb.cell (p:=⟨w.heap.size+1,0,none⟩) g9).trans s9,(hb.cell (p:=⟨w.heap.size+1,1,none⟩) g9).trans s10,(hb.cell (p:=⟨W0.heap.size,2,none⟩) gn).trans s11,(hb.cell (p:=⟨b',o'+q,none⟩) gb).trans s12⟩
      refine wp_region_props (n:=_) (PX:=[zqu (.slice (some ⟨Q,0,none⟩) N.l.length N.l.length),
         zqu (.int .i64 (k:Int)),
         zqu (.slice (some ⟨Q,0,none⟩) N.l.length N.l.length),
         zqu (.int .i64 (k:Int)),
         zqu (.pointer (some ⟨Q,k*2,none⟩)),
         zqu (.agg #[.string (dec (qn p)),.string (dec p.den)]),
         zqu (.slice (some ⟨Q,0,none⟩) N.l.length N.l.length),
         zqu (.pointer (some ⟨W0.heap.size,2,none⟩)),
         zqu (.slice (some ⟨b',o',none⟩) xi.length c'),
         zqu (.int .i64 (q:Int)),
         zqu (.pointer (some ⟨b',o'+q,none⟩)),
         zqu (.int .i64 (j:Int)),
         zqu (.pointer (some ⟨Q,j*2,none⟩)),
         zqu (.agg #[.string (dec (qn y)),.string (dec y.den)]),
         zqu (.slice (some ⟨g,0,none⟩) N.l.length N.l.length),
         zqu (.int .i64 (k:Int)),
         zqu (.pointer (some ⟨g,k*2,none⟩)),
         zqu (.agg #[.int .u64 (Cs.lo sk:Int),.int .u64 (Cs.hi sk:Int)]),
         zqu (.slice (some ⟨g,0,none⟩) N.l.length N.l.length),
         zqu (.pointer (some ⟨W0.heap.size,2,none⟩)),
         zqu (.slice (some ⟨b',o',none⟩) xi.length c'),
         zqu (.int .i64 (q:Int)),
         zqu (.pointer (some ⟨b',o'+q,none⟩)),
         zqu (.int .i64 (j:Int)),
         zqu (.pointer (some ⟨g,j*2,none⟩)),
         zqu (.agg #[.int .u64 (Cs.lo sj:Int),.int .u64 (Cs.hi sj:Int)]),
         zqu (.agg #[.slice Al (n+1) cl,.slice Ah (n+1) ch]),
         zqu (.agg #[.string (dec (qn f)),.string (dec f.den)]),
         zqu (.agg #[.string (dec (qn r)),.string (dec r.den)]),
         zqu (.pointer (some ⟨Q,k*2,none⟩))])
        (AL:=[]) (DP:=[[],[],[],[],[2,3],[4],[],[],[7],[],[8,9],[10],[6,11],[12],[],[],[14,15],[16],[],[],[19],[],[20,21],[22],[18,23],[24],[],[13,17,25,26],[5,27],[0,1]]) (L1:=[0,1,2,3,4,5,6,7,8,9,10,11,12,13,14,15,16,17,18,19,20,21,22,23,24,25,26,27,28,29]) (ex:=[]) (by kernel_rfl) rfl (by kernel_rfl) ?_ ?_ (fin0 ?_)
      ·refine zqg ?_ (zqg ?_ (zqg ?_ (zqg ?_ (zqg ?_ (zqg ?_ (zqg ?_ (zqg ?_ (zqg ?_ (zqg ?_ (zqg ?_ (zqg ?_ (zqg ?_ (zqg ?_ (zqg ?_ (zqg ?_ (zqg ?_ (zqg ?_ (zqg ?_ (zqg ?_ (zqg ?_ (zqg ?_ (zqg ?_ (zqg ?_ (zqg ?_ (zqg ?_ (zqg ?_ (zqg ?_ (zqg ?_ (zqg ?_ zqi)))))))))))))))))))))))))))))
       iterate 30 exact fun _ _ _ _ h _=>h
      ·refine zqg (zst rfl [] ?_) (zqg (zst rfl [] ?_) (zqg (zst rfl [] ?_) (zqg (zst rfl [] ?_) (zqg (zst rfl [(2,some 109),(3,some 110)] ?_) (zqg (zst rfl [(4,some 111)] ?_) (zqg (zst rfl [] ?_) (zqg (zst rfl [] ?_) (zqg (zst rfl [(7,some 114)] ?_) (zqg (zst rfl [] ?_) (zqg (zst rfl [(8,some 115),(9,some 116)] ?_) (zqg (zst rfl [(10,some 117)] ?_) (zqg (zst rfl [(6,some 113),(11,some 118)] ?_) (zqg (zst rfl [(12,some 119)] ?_) (zqg (zst rfl [] ?_) (zqg (zst rfl [] ?_) (zqg (zst rfl [(14,some 121),(15,some 122)] ?_) (zqg (zst rfl [(16,some 123)] ?_) (zqg (zst rfl [] ?_) (zqg (zst rfl [] ?_) (zqg (zst rfl [(19,some 126)] ?_) (zqg (zst rfl [] ?_) (zqg (zst rfl [(20,some 127),(21,some 128)] ?_) (zqg (zst rfl [(22,some 129)] ?_) (zqg (zst rfl [(18,some 125),(23,some 130)] ?_) (zqg (zst rfl [(24,some 131)] ?_) (zqg (zst rfl [] ?_) (zqg ?_ (zqg ?_ (zqg (zst rfl [(0,some 107),(1,some 108)] ?_) zqi)))))))))))))))))))))))))))))
       all_goals try (intro vs W hW hd K hK;(try simp only [zdj,zqu,and_true,List.getD_cons_succ,List.getD_cons_zero] at hd);(first | simp only [hd,putsD,Act.put,zqa,zqb,zqc,zqd,zqe,zqf] at hK ⊢ | simp only [putsD,Act.put,zqa,zqb,zqc,zqd,zqe,zqf] at hK ⊢ | skip);obtain ⟨m1,m2,m3,m4,m5,m6,m7,m8,m9,m10,m11,m12⟩:=HS.out W hW;go_simp;exact hK.out _ _ rfl (zqr _ _) (zqv rfl))
       ·refine zso rfl [(13,some 120),(17,some 124),(25,some 132),(26,some 133)] ?_;intro vs W hW hd K hK;have d13:vs 13 = .agg #[.string (dec (qn y)),.string (dec y.den)]:=hd 13 (by decide);have d17:vs 17 = .agg #[.int .u64 (Cs.lo sk:Int),.int .u64 (Cs.hi sk:Int)]:=hd 17 (by decide);have d25:vs 25 = .agg #[.int .u64 (Cs.lo sj:Int),.int .u64 (Cs.hi sj:Int)]:=hd 25 (by decide);have d26:vs 26 = .agg #[.slice Al (n+1) cl,.slice Ah (n+1) ch]:=hd 26 (by decide);clear hd
        try simp only [d13,d17,d25,d26,putsD,Act.put,zqa,zqb,zqc,zqd,zqe,zqf] at hK ⊢
        go_simp
        go_at_call 106
        (with_reducible first | refine (HFL.out _ (zqx HBW.out hW HBW.out.size)).mono ?_)
        rintro e w9 ⟨rfl,hb9⟩;exact hK.out _ _ (rfl) hb9 (fun h=>absurd h (by decide))
       ·refine zso rfl [(5,some 112),(27,some 134)] ?_;intro vs W hW hd K hK;have d5:vs 5 = .agg #[.string (dec (qn p)),.string (dec p.den)]:=hd 5 (by decide);have d27:vs 27 = .agg #[.string (dec (qn f)),.string (dec f.den)]:=hd 27 (by decide);clear hd
        try simp only [d5,d27,putsD,Act.put,zqa,zqb,zqc,zqd,zqe,zqf] at hK ⊢
        go_simp
        go_at_call 105
        (with_reducible first | refine (HAD.out _).mono ?_)
        rintro e w9 ⟨rfl,hb9⟩;exact hK.out _ _ (rfl) hb9 (fun h=>absurd h (by decide))
      refine zfo [(0,some 107),(1,some 108),(2,some 109),(3,some 110),(4,some 111),(5,some 112),(6,some 113),(7,some 114),(8,some 115),(9,some 116),(10,some 117),(11,some 118),(12,some 119),(13,some 120),(14,some 121),(15,some 122),(16,some 123),(17,some 124),(18,some 125),(19,some 126),(20,some 127),(21,some 128),(22,some 129),(23,some 130),(24,some 131),(25,some 132),(26,some 133),(27,some 134),(28,some 135),(29,some 136)] #[true,true,true,true,true,true,true,true,true,true,true,true,true,true,true,true,true,true,true,true,true,true,true,true,true,true,true,true,true,true,false] 1 ?_;intro vs Wf hW hd hbk hdis kf;simp only [zdj,zqu,and_true,List.getD_cons_succ,List.getD_cons_zero] at hd;obtain ⟨d0,d1,d2,d3,d4,d5,d6,d7,d8,d9,d10,d11,d12,d13,d14,d15,d16,d17,d18,d19,d20,d21,d22,d23,d24,d25,d26,d27,d28,d29⟩:=hd;clear hbk hdis
      try simp only [d0,d1,d2,d3,d4,d5,d6,d7,d8,d9,d10,d11,d12,d13,d14,d15,d16,d17,d18,d19,d20,d21,d22,d23,d24,d25,d26,d27,d28,d29,putsD,Act.put,zqa,zqb,zqc,zqd,zqe,zqf]
      clear d0 d1 d2 d3 d4 d5 d6 d7 d8 d9 d10 d11 d12 d13 d14 d15 d16 d17 d18 d19 d20 d21 d22 d23 d24 d25 d26 d27 d28 d29 vs;clear HS;have qf:=HE6.out.below hW;obtain ⟨z1,z2⟩:=qf.at k (by have:=HLL.out;simp;omega) hlt;rw [gd_here _ _ _ HLL.out] at z1 z2;have y1:=qf.fl.frozen (k*2);have y2:=qf.fl.frozen (k*2+1);clear qf;refine wpAny_one1 30 (by kernel_rfl) rfl (fun K hK=>?_)
      go_simp
      refine hK.out _ _ ?_;clear hK K
      try simp only [putsD,Act.put,zqa,zqb,zqc,zqd,zqe,zqf]
      refine wpAny_end (by kernel_rfl) ?_ _
      go_wp2
      go_roundw
      case rel=>exact ⟨q+1,Nat.succ_le_of_lt HLT2.out,by go_num,by rw [HR.out];exact (HE6.out.below hW).last r k HLL.out.symm,((rowBelow HX6.out hW).setOther (by have:=hzQ;simp;omega) _).setOther (by have:=hzQ;simp;omega) _⟩
      case measure=>have:=HLT2.out;simp [intOf];omega
     ·have hil0:decide ((q:Int)<(xi.length:Int))=false:=decide_eq_false (by omega);have hil1:¬ q<xi.length:=hlt2
      have hil2:¬ (q:Int)<(xi.length:Int):=by omega
      obtain rfl:q=xi.length:=by omega
      have HE5:=zqh hE5;clear hE5 hx5 hq hlt2
      go_wp2
      go_roundw
      case rel=>exact ⟨k+1,Nat.succ_le_of_lt hlt,by go_num,by rw [HN2.out];exact HE5.out⟩
      case measure=>simp [intOf];omega
  ·obtain rfl:k=N.l.length:=by omega
   rw [List.take_length] at hE;obtain ⟨M,hM⟩:∃ M,scan ((RW Wt).step O) [] N.l=M:=⟨_,rfl⟩;have hwd:=fun j (hj:j<N.l.length)=>HWD.out N.l.length (zqn _) j hj;have hsm:=HSUM.out.symm
   have hML:M.length=N.l.length:=by rw [← hM,scan_length];simp
   simp only [List.take_length,hM] at hwd;rw [hM] at hE hsm;obtain ⟨z,hz⟩:∃ z,N.l.length=z+1:=⟨N.l.length-1,by omega⟩
   have hzl:z<N.l.length:=by omega
   rw [show N.l.length-1=z by omega] at hsm;have hnn:=HN0.out
   have hfi:=fun W hW=>HFI.out W hW (M.getD z 0) (allTo (n:Int)) (O.getD z 0) (fun i hi=>by
    rw [allTo_bit];exact decide_eq_false (by omega)) (fun m=>hwd z hzl (allTo (n:Int)) (fun i h=>by
    have:=HOS.out z hzl i h
    rw [allTo_bit];exact decide_eq_true (by omega)) m)
   rw [hnn] at hsm;unfold Rg.gap at hsm
   change (RW Wt).wide (M.getD z 0) (vl (minus (allTo (n:Int)) (O.getD z 0)))=S at hsm
   simp only [hsm] at hfi;unfold rfV setV at hfi;have HFF:=zqh hfi;have HML:=zqh hML;have HE:=zqh hE
   have hw5:IntKind.i64.wrap ((N.l.length:Int)-1)=(z:Int):=by rw [IntKind.wrap_i64];omega
   have HW5:=zqh hw5;have HZL:=zqh hzl
   have hz0:allTo ((0:Nat):Int)=0:=by decide
   have hl0:Cs.lo 0=0:=by decide
   have hh0:Cs.hi 0=0:=by decide
   obtain ⟨W0,rfl⟩:∃ W0,W0=wr:=⟨wr,rfl⟩;have hX0:=arrNew W0 #[.int .u64 0,.int .u64 0] 96 W0.heap.size 2 rfl rfl
   have hX1:(W0.alloc (.cells #[.int .u64 0,.int .u64 0] 96)).rowIs W0.heap.size 96 2 (arrF #[.int .u64 (Cs.lo (allTo ((0:Nat):Int)):Int),.int .u64 (Cs.hi (allTo ((0:Nat):Int)):Int)]):=by
    rw [hz0,hl0,hh0];exact hX0
   have HX1:=zqh hX1;have hQ0:=hE.fl.lt;clear hM hwd hsm hML hz hzl hfi hE hw5 hz0 hl0 hh0 hX0 hX1 hnn
   go_wp2
   go_loopw [11] (fun t wq=>∃ m:Nat,m≤n∧t = .int .i64 ((m:Int)+1)∧SuS w N A c n cl ch Al Ah g Q M wq∧wq.rowIs W0.heap.size 96 2 (arrF #[.int .u64 (Cs.lo (allTo (m:Int)):Int),.int .u64 (Cs.hi (allTo (m:Int)):Int)])) (fun t _=>n+1-(intOf t).toNat)
   case atStart=>exact ⟨0,Nat.zero_le _,rfl,HE.out.alloc _,HX1.out⟩
   case round =>
    clear HE HX1 c1 c2 c3 c4;obtain ⟨m,hm,rfl,hE2,hx2⟩:=hrel;obtain ⟨c1,c2,c3,c4⟩:=hE2.cells;by_cases hlt2:m<n
    ·have hc:decide ((m:Int)+1≤N.n)=true:=decide_eq_true (by have:=HN0.out;omega);have hts:=allTo_succ m (by omega);unfold wth at hts;rw [if_pos (by omega),show ((m:Int)+1).toNat-1=m by omega] at hts;have hwi:=fun W=>with21_any W (allTo (m:Int)) m (by omega);simp only [hts] at hwi;unfold setV at hwi;have x0:World.cell? _ ⟨W0.heap.size,0,none⟩=some (.int .u64 (Cs.lo (allTo (m:Int)):Int)):=hx2.cell (i:=0) (by decide);have x1:World.cell? _ ⟨W0.heap.size,1,none⟩=some (.int .u64 (Cs.hi (allTo (m:Int)):Int)):=hx2.cell (i:=1) (by decide)
     have e0:IntKind.i64.wrap ((m:Int)+1+1)=(m:Int)+1+1:=by rw [IntKind.wrap_i64];omega
     obtain ⟨s,hs⟩:∃ s,allTo (m:Int)=s:=⟨_,rfl⟩;obtain ⟨s2,hs2⟩:∃ s,allTo ((m:Int)+1)=s:=⟨_,rfl⟩;rw [hs] at x0 x1 hx2;simp only [hs,hs2] at hwi;have HS2:=zqh (show allTo ((m+1:Nat):Int)=s2 from hs2);have HWI:=zqh hwi;have HE2:=zqh hE2;have HX2:=zqh hx2;have HLT2:=zqh hlt2;clear hts hwi hs hs2 hE2 hx2 hm hlt2
     go_wp2_with (go_at_call 107;(with_reducible refine (HWI.out _).mono ?_);rintro e w3 ⟨rfl,hb3⟩;have HE3:=zqh (HE2.out.below hb3);have hx3:=rowBelow HX2.out hb3;clear x0 x1;have x0:World.cell? _ ⟨W0.heap.size,0,none⟩=some (.int .u64 (Cs.lo s:Int)):=hx3.cell (i:=0) (by decide);have x1:World.cell? _ ⟨W0.heap.size,1,none⟩=some (.int .u64 (Cs.hi s:Int)):=hx3.cell (i:=1) (by decide);have f0:=hx3.frozen 0;have f1:=hx3.frozen 1;have HX3:=zqh hx3;clear hx3 c1 c2 c3 c4)
     go_roundw
     case rel=>exact ⟨m+1,Nat.succ_le_of_lt HLT2.out,by go_num,(HE3.out.far hQ0 _ _).far hQ0 _ _,by rw [HS2.out];exact pairRow HX3.out _ _⟩
     case measure=>have:=HLT2.out;simp [intOf];omega
    ·obtain rfl:m=n:=by omega
     have hc:decide ((m:Int)+1≤N.n)=false:=decide_eq_false (by have:=HN0.out;omega);have hw5:=HW5.out;have hzl:=HZL.out
     have hi3:(0:Int)≤(z:Int):=by omega
     have hi4:(z:Int)<(N.l.length:Int):=by omega
     have s1:=c2;obtain ⟨s2,s3⟩:=hE2.at z (by have:=HML.out;omega) hzl;have s4:World.cell? _ ⟨W0.heap.size,0,none⟩=some (.int .u64 (Cs.lo (allTo (m:Int)):Int)):=hx2.cell (i:=0) (by decide);have s5:World.cell? _ ⟨W0.heap.size,1,none⟩=some (.int .u64 (Cs.hi (allTo (m:Int)):Int)):=hx2.cell (i:=1) (by decide);obtain ⟨s6,s7,_,_⟩:=setsCells hE2.fv z (by omega);have s8:=c3;have s9:=c4;rw [HO.out] at s6 s7;have hff:=HFF.out;obtain ⟨y,hy⟩:∃ y,M.getD z 0=y:=⟨_,rfl⟩;obtain ⟨al,hal⟩:∃ y,allTo (m:Int)=y:=⟨_,rfl⟩;obtain ⟨sz,hsz⟩:∃ y,O.getD z 0=y:=⟨_,rfl⟩;rw [hy] at s2 s3;rw [hal] at s4 s5;rw [hsz] at s6 s7;simp only [hy,hal,hsz] at hff;have HFF2:=zqh hff;have HE6:=zqh hE2;have gq:=hE2.fl.lt;have gx:=hx2.lt;have gv:=hE2.fv.lt;have g9:=hE2.fw.lt;have g8:=hE2.fn.lt;have HBW:=zqh hE2.bl;clear hff hy hal hsz hE2 hx2 hm hlt2
     go_upto_region 25 with (fail)
     clear c1 c2 c3 c4;have HS:Hid (∀ W,Below wr.heap.size wr W→W.cell? ⟨w.heap.size,1,none⟩=some (.slice A N.l.length c)∧W.cell? ⟨Q,z*2,none⟩=some (.string (dec (qn y)))∧W.cell? ⟨Q,z*2+1,none⟩=some (.string (dec y.den))∧W.cell? ⟨W0.heap.size,0,none⟩=some (.int .u64 (Cs.lo al:Int))∧W.cell? ⟨W0.heap.size,1,none⟩=some (.int .u64 (Cs.hi al:Int))∧W.cell? ⟨g,z*2,none⟩=some (.int .u64 (Cs.lo sz:Int))∧W.cell? ⟨g,z*2+1,none⟩=some (.int .u64 (Cs.hi sz:Int))∧W.cell? ⟨w.heap.size+1,0,none⟩=some (.slice Al (m+1) cl)∧W.cell? ⟨w.heap.size+1,1,none⟩=some (.slice Ah (m+1) ch)):=zqh fun W hb=>⟨(hb.cell (p:=⟨w.heap.size,1,none⟩) g8).trans s1,(hb.cell (p:=⟨Q,z*2,none⟩) gq).trans s2,(hb.cell (p:=⟨Q,z*2+1,none⟩) gq).trans s3,(hb.cell (p:=⟨W0.heap.size,0,none⟩) gx).trans s4,(hb.cell (p:=⟨W0.heap.size,1,none⟩) gx).trans s5,(hb.cell (p:=⟨g,z*2,none⟩) gv).trans s6,(hb.cell (p:=⟨g,z*2+1,none⟩) gv).trans s7,(hb.cell (p:=⟨w.heap.size+1,0,none⟩) g9).trans s8,(hb.cell (p:=⟨w.heap.size+1,1,none⟩) g9).trans s9⟩
     refine wp_region_props (n:=_) (PX:=[zqu (.slice (some ⟨Q,0,none⟩) N.l.length N.l.length),
        zqu (.pointer (some ⟨w.heap.size,1,none⟩)),
        zqu (.slice A N.l.length c),
        zqu (.int .i64 (N.l.length:Int)),
        zqu (.int .i64 (z:Int)),
        zqu (.pointer (some ⟨Q,z*2,none⟩)),
        zqu (.agg #[.string (dec (qn y)),.string (dec y.den)]),
        zqu (.agg #[.int .u64 (Cs.lo al:Int),.int .u64 (Cs.hi al:Int)]),
        zqu (.slice (some ⟨g,0,none⟩) N.l.length N.l.length),
        zqu (.pointer (some ⟨w.heap.size,1,none⟩)),
        zqu (.slice A N.l.length c),
        zqu (.int .i64 (N.l.length:Int)),
        zqu (.int .i64 (z:Int)),
        zqu (.pointer (some ⟨g,z*2,none⟩)),
        zqu (.agg #[.int .u64 (Cs.lo sz:Int),.int .u64 (Cs.hi sz:Int)]),
        zqu (.agg #[.slice Al (m+1) cl,.slice Ah (m+1) ch]),
        zqu (.agg #[.string (dec (qn S)),.string (dec S.den)])])
       (AL:=[]) (DP:=[[],[],[1],[2],[3],[0,4],[5],[],[],[],[9],[10],[11],[8,12],[13],[],[6,7,14,15]]) (L1:=[0,1,2,3,4,5,6,7,8,9,10,11,12,13,14,15,16]) (ex:=[]) (by kernel_rfl) rfl (by kernel_rfl) ?_ ?_ (fin0 ?_)
     ·refine zqg ?_ (zqg ?_ (zqg ?_ (zqg ?_ (zqg ?_ (zqg ?_ (zqg ?_ (zqg ?_ (zqg ?_ (zqg ?_ (zqg ?_ (zqg ?_ (zqg ?_ (zqg ?_ (zqg ?_ (zqg ?_ (zqg ?_ zqi))))))))))))))))
      iterate 17 exact fun _ _ _ _ h _=>h
     ·refine zqg (zst rfl [] ?_) (zqg (zst rfl [] ?_) (zqg (zst rfl [(1,some 147)] ?_) (zqg (zst rfl [(2,some 148)] ?_) (zqg (zst rfl [(3,some 149)] ?_) (zqg (zst rfl [(0,some 146),(4,some 150)] ?_) (zqg (zst rfl [(5,some 151)] ?_) (zqg (zst rfl [] ?_) (zqg (zst rfl [] ?_) (zqg (zst rfl [] ?_) (zqg (zst rfl [(9,some 155)] ?_) (zqg (zst rfl [(10,some 156)] ?_) (zqg (zst rfl [(11,some 157)] ?_) (zqg (zst rfl [(8,some 154),(12,some 158)] ?_) (zqg (zst rfl [(13,some 159)] ?_) (zqg (zst rfl [] ?_) (zqg ?_ zqi))))))))))))))))
      all_goals try (intro vs W hW hd K hK;(try simp only [zdj,zqu,and_true,List.getD_cons_succ,List.getD_cons_zero] at hd);(first | simp only [hd,putsD,Act.put,zqa,zqb,zqc,zqd,zqe,zqf] at hK ⊢ | simp only [putsD,Act.put,zqa,zqb,zqc,zqd,zqe,zqf] at hK ⊢ | skip);obtain ⟨m1,m2,m3,m4,m5,m6,m7,m8,m9⟩:=HS.out W hW;go_simp;exact hK.out _ _ rfl (zqr _ _) (zqv rfl))
      ·refine zso rfl [(6,some 152),(7,some 153),(14,some 160),(15,some 161)] ?_;intro vs W hW hd K hK;have d6:vs 6 = .agg #[.string (dec (qn y)),.string (dec y.den)]:=hd 6 (by decide);have d7:vs 7 = .agg #[.int .u64 (Cs.lo al:Int),.int .u64 (Cs.hi al:Int)]:=hd 7 (by decide);have d14:vs 14 = .agg #[.int .u64 (Cs.lo sz:Int),.int .u64 (Cs.hi sz:Int)]:=hd 14 (by decide);have d15:vs 15 = .agg #[.slice Al (m+1) cl,.slice Ah (m+1) ch]:=hd 15 (by decide);clear hd
       try simp only [d6,d7,d14,d15,putsD,Act.put,zqa,zqb,zqc,zqd,zqe,zqf] at hK ⊢
       go_simp
       go_at_call 106
       (with_reducible first | refine (HFF2.out _ (zqx HBW.out hW HBW.out.size)).mono ?_)
       rintro e w9 ⟨rfl,hb9⟩;exact hK.out _ _ (rfl) hb9 (fun h=>absurd h (by decide))
     refine zfo [(0,some 146),(1,some 147),(2,some 148),(3,some 149),(4,some 150),(5,some 151),(6,some 152),(7,some 153),(8,some 154),(9,some 155),(10,some 156),(11,some 157),(12,some 158),(13,some 159),(14,some 160),(15,some 161),(16,some 162)] #[true,true,true,true,true,true,true,true,true,true,true,true,true,true,true,true,true,false] 1 ?_;intro vs Wf hW hd hbk hdis kf;simp only [zdj,zqu,and_true,List.getD_cons_succ,List.getD_cons_zero] at hd;obtain ⟨d0,d1,d2,d3,d4,d5,d6,d7,d8,d9,d10,d11,d12,d13,d14,d15,d16⟩:=hd;clear hbk hdis
     try simp only [d0,d1,d2,d3,d4,d5,d6,d7,d8,d9,d10,d11,d12,d13,d14,d15,d16,putsD,Act.put,zqa,zqb,zqc,zqd,zqe,zqf]
     clear d0 d1 d2 d3 d4 d5 d6 d7 d8 d9 d10 d11 d12 d13 d14 d15 d16 vs;clear HS;have qf:=HE6.out.below hW;have z1:Wf.cell? ⟨w.heap.size+1+1,0,none⟩=some (.string ⟨#[]⟩):=qf.fr.cell (i:=0) (by decide);have z2:Wf.cell? ⟨w.heap.size+1+1,1,none⟩=some (.string ⟨#[]⟩):=qf.fr.cell (i:=1) (by decide);have y1:=qf.fr.frozen 0;have y2:=qf.fr.frozen 1;have HQF:=zqh qf;clear qf;refine wpAny_one1 17 (by kernel_rfl) rfl (fun K hK=>?_)
     go_simp
     refine hK.out _ _ ?_;clear hK K
     try simp only [putsD,Act.put,zqa,zqb,zqc,zqd,zqe,zqf]
     refine wpAny_end (by kernel_rfl) ?_ _
     go_wp2
     refine ret_rf rfl rfl (pairRow HQF.out.fr _ _) rfl ⟨rfl,?_⟩;exact (HQF.out.bl.setCell (by simp;omega) _).setCell (by simp;omega) _
end Go.Proofs.YtmhllppjcilllaaGreatDoor
