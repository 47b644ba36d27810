import Derived.Test.YtmhllppjcilllaaGreatDoorSh
import Derived.Test.YtmhllppjcilllaaGreatDoorSb
set_option linter.unusedSimpArgs false
set_option linter.unusedVariables false
set_option maxRecDepth 100000
set_option maxHeartbeats 8000000
open Go Go.RowKit Cs
namespace Cs
open Go.Proofs.YtmhllppjcilllaaGreatDoor
def yN (N:Nt) (n:Nat) (lo hi:List Pr) (k:Nat):List Pr:=(List.range (k+1)).map fun (v:Nat)=>if v=0 then (0,0) else (RP n (qb n lo [-(v:Int)]) (qe n hi [-(v:Int)])).sum N
def yG (N:Nt) (n:Nat) (lo hi:List Pr) (k:Nat):List Pr:=(List.range (k+1)).map fun (v:Nat)=>if v=0 then (0,0) else pq (qp ((RP n lo hi).sum N)-qp ((RP n (qb n lo [-(v:Int)]) (qe n hi [-(v:Int)])).sum N))
theorem lowP_len (N:Nt) (n:Nat) (lo hi:List Pr) (k:Nat):(yN N n lo hi k).length=k+1:=by simp [yN]
theorem x6 (N:Nt) (n:Nat) (lo hi:List Pr) (k:Nat):(yG N n lo hi k).length=k+1:=by simp [yG]
theorem xO (N:Nt) (n:Nat) (lo hi:List Pr) (k:Nat):yN N n lo hi (k+1)=yN N n lo hi k++[(RP n (qb n lo [-((k:Int)+1)]) (qe n hi [-((k:Int)+1)])).sum N]:=by
 unfold yN;rw [List.range_succ,List.map_append,List.map_singleton,if_neg (by omega),Int.natCast_succ]
theorem zku (N:Nt) (n:Nat) (lo hi:List Pr) (k:Nat):yG N n lo hi (k+1)=yG N n lo hi k++[pq (qp ((RP n lo hi).sum N)-qp ((RP n (qb n lo [-((k:Int)+1)]) (qe n hi [-((k:Int)+1)])).sum N))]:=by
 unfold yG;rw [List.range_succ,List.map_append,List.map_singleton,if_neg (by omega),Int.natCast_succ]
end Cs
namespace Go.Proofs.YtmhllppjcilllaaGreatDoor
theorem ziZ:∀ i,zB [(0,0)] i=zB [] i:=fun i=>by
 unfold zB;rcases Nat.eq_zero_or_pos (i / 2) with h | h
 ·rw [h];rfl
 ·obtain ⟨m,hm⟩:∃ m,i / 2=m+1:=⟨i / 2-1,by omega⟩;rw [hm];rfl
structure BLt (w3:World) (g9 gl gh n:Nat) (sn sd:Nat) (L H:List Pr) (W:World):Prop where
 bl:Below w3.heap.size w3 W
 tb:W.rowIs g9 33 2 (zC #[.string (zb sn),.string (zb sd)])
 lo:W.rowIs gl 33 ((n+1)*2) (zB L)
 hi:W.rowIs gh 33 ((n+1)*2) (zB H)
 n1:gl≠gh
 n2:g9≠gl
 n3:g9≠gh
 a:w3.heap.size≤gl
 b:w3.heap.size≤gh
section
variable {w3 W W':World} {g9 gl gh n sn sd:Nat} {L H:List Pr}
theorem BLt.below (h:BLt w3 g9 gl gh n sn sd L H W) (hb:Below W.heap.size W W'):BLt w3 g9 gl gh n sn sd L H W' :=
 ⟨zx h.bl hb h.bl.size,zh h.tb hb,zh h.lo hb,zh h.hi hb,h.n1,h.n2,h.n3,h.a,h.b⟩
theorem BLt.low (h:BLt w3 g9 gl gh n sn sd L H W) (p:Pr) (k:Nat) (hk:k=L.length):BLt w3 g9 gl gh n sn sd (L++[p]) H ((W.setCell ⟨gl,k*2,none⟩ (.string (zb p.1))).setCell ⟨gl,k*2+1,none⟩ (.string (zb p.2))) :=
 ⟨(h.bl.setCell (p:=⟨gl,k*2,none⟩) h.a _).setCell (p:=⟨gl,k*2+1,none⟩) h.a _,(h.tb.setOther h.n2 _).setOther h.n2 _,zeO h.lo p k hk,(h.hi.setOther (Ne.symm h.n1) _).setOther (Ne.symm h.n1) _,h.n1,h.n2,h.n3,h.a,h.b⟩
theorem BLt.high (h:BLt w3 g9 gl gh n sn sd L H W) (p:Pr) (k:Nat) (hk:k=H.length):BLt w3 g9 gl gh n sn sd L (H++[p]) ((W.setCell ⟨gh,k*2,none⟩ (.string (zb p.1))).setCell ⟨gh,k*2+1,none⟩ (.string (zb p.2))) :=
 ⟨(h.bl.setCell (p:=⟨gh,k*2,none⟩) h.b _).setCell (p:=⟨gh,k*2+1,none⟩) h.b _,(h.tb.setOther h.n3 _).setOther h.n3 _,(h.lo.setOther h.n1 _).setOther h.n1 _,zeO h.hi p k hk,h.n1,h.n2,h.n3,h.a,h.b⟩
end
theorem zhO (w:World) (N:Nt) (A:Option Addr) (c cl ch n:Nat) (lo hi:List Pr) (Al Ah:Option Addr) (hN:NtAt w w.heap.size A N.l) (hv:zE N=true) (hn:N.n=(n:Int)) (hT:Tab w)
  (hin:∀ k (hk:k<N.l.length),N.l[k].ins.length≤1000000) (hW:WtIn n lo hi)
  (hlo:Rd w w.heap.size Al ((n+1)*2) (zB lo)) (hhi:Rd w w.heap.size Ah ((n+1)*2) (zB hi)) (hc1:n+1≤cl) (hc2:n+1≤ch) (hE:yv N n lo hi=0) :
  Calls Tryz.prog 21 #[qB N A c,yw Al Ah (n+1) (n+1) cl ch] w fun e w'=>∃ gl gh,e = .returned (.tuple #[.slice (some ⟨gl,0,none⟩) (n+1) (n+1),.slice (some ⟨gh,0,none⟩) (n+1) (n+1),.int .i64 0]) ∧
   w.heap.size≤gl∧w.heap.size≤gh∧w'.rowIs gl 33 ((n+1)*2) (zB (yN N n lo hi n))∧w'.rowIs gh 33 ((n+1)*2) (zB (yG N n lo hi n))∧Below w.heap.size w w':=by
 have hn128:=y6 hv hn;have hck:=fun W (hb:Below w.heap.size w W)=>zdL W N A c cl ch n lo hi Al Ah ((hN.below hb).more hb.size) hv hn (hT.below hb) ((hlo.below hb).more hb.size) ((hhi.below hb).more hb.size) hW.sl hW.sh hc1 hc2 (yv N n lo hi) rfl;rw [hE] at hck;obtain ⟨hd,hs,hbits⟩:=zeA hv hE;have hok:WtOk n lo hi:=hW.ok hbits;have hna:=fun W (hb:Below w.heap.size w W)=>zcN W N A c ((hN.below hb).more hb.size) hv;have hsu:=fun W ga go hA (hb:Below w.heap.size w W)=>zdx W N A c ga go n cl ch lo hi Al Ah hA hv hd hs hn hin hok ((hlo.below hb).more hb.size) ((hhi.below hb).more hb.size) (hT.below hb);have hgv:∀ (k:Nat) W ga go (At:Option Addr),k<n→AdAt W 155 96 W.heap.size ga go N A c→Below w.heap.size w W→Rd W W.heap.size At 1 (zV [-((k:Int)+1)]) →
   Calls Tryz.prog 59 #[yw Al Ah (n+1) (n+1) cl ch,.slice At 1 1,.func (.func 53) #[.pointer (some ⟨ga,0,none⟩)] #[]] W fun e w'=>e = .returned (zD ((RP n (qb n lo [-((k:Int)+1)]) (qe n hi [-((k:Int)+1)])).sum N).1 ((RP n (qb n lo [-((k:Int)+1)]) (qe n hi [-((k:Int)+1)])).sum N).2)∧Below W.heap.size W w':=fun k W ga go At hk hA hb hr=>by
  obtain ⟨ez1,ez2⟩:=pZ hW.ll hW.lh 1 [-((k:Int)+1)] rfl (fun l hl=>by rw [List.mem_singleton] at hl;omega);exact zhE W cl ch n 1 lo hi [-((k:Int)+1)] Al Ah At ga _ hn128 ((hlo.below hb).more hb.size) ((hhi.below hb).more hb.size) hr (by simp) (fun l hl=>by rw [List.mem_singleton] at hl;omega) hW.ll hW.lh
   (fun V Al' Ah' cl' ch' hbV a b h1 h2=>by
     rw [ez1] at h1;rw [ez2] at h2;exact zdx V N A c ga go n cl' ch' _ _ Al' Ah' ((hA.below hbV).more hbV.size) hv hd hs hn hin (WtIn.okT hW hbits _) h1 h2 (hT.below (zx hb hbV hb.size)))
 have hSs:Sp ((RP n lo hi).sum N):=zeE hok hv hd hs hn;have hXs:∀ k:Nat,Sp ((RP n (qb n lo [-((k:Int)+1)]) (qe n hi [-((k:Int)+1)])).sum N):=fun k=>zeE (WtIn.okT hW hbits _) hv hd hs hn;have hle:∀ k:Nat,k<n→qp ((RP n (qb n lo [-((k:Int)+1)]) (qe n hi [-((k:Int)+1)])).sum N)≤qp ((RP n lo hi).sum N):=fun k hk=>by
  have h1:=zjg hW hbits hv hd hn (k+1) (by omega) (by omega);rw [Int.natCast_succ] at h1;have h2:=qX ((RP n (qb n lo [(k:Int)+1]) (qe n hi [(k:Int)+1])).sum N);rw [h1]
  grind
 have hls:=fun k=>xO N n lo hi k;have hhs:=fun k=>zku N n lo hi k;have hll:=fun k=>lowP_len N n lo hi k;have hhl:=fun k=>x6 N n lo hi k;have hl0:yN N n lo hi 0=[(0,0)]:=rfl;have hh0:yG N n lo hi 0=[(0,0)]:=rfl;obtain ⟨X,hX⟩:∃ X:Nat→Pr,X=fun (k:Nat)=>(RP n (qb n lo [-((k:Int)+1)]) (qe n hi [-((k:Int)+1)])).sum N:=⟨_,rfl⟩;have hXk:∀ k:Nat,(RP n (qb n lo [-((k:Int)+1)]) (qe n hi [-((k:Int)+1)])).sum N=X k:=fun k=>by rw [hX]
 obtain ⟨Q,hQ⟩:∃ Q,(RP n lo hi).sum N=Q:=⟨_,rfl⟩;simp only [hXk] at hgv hXs hle hls hhs;simp only [hQ] at hsu hle hhs hSs;obtain ⟨LP,hLP⟩:∃ L:Nat→List Pr,L=fun k=>yN N n lo hi k:=⟨_,rfl⟩;obtain ⟨HP,hHP⟩:∃ L:Nat→List Pr,L=fun k=>yG N n lo hi k:=⟨_,rfl⟩;have hLk:∀ k,yN N n lo hi k=LP k:=fun k=>by rw [hLP]
 have hHk:∀ k,yG N n lo hi k=HP k:=fun k=>by rw [hHP]
 simp only [hLk] at hls hll hl0 ⊢;simp only [hHk] at hhs hhl hh0 ⊢;obtain ⟨sn,sd⟩:=Q;have hmk:=gS n (by omega);have hwr:IntKind.i64.wrap ((n:Int)+1)=(n:Int)+1:=by rw [IntKind.wrap_i64];omega
 have HCK:=zc hck;have HNA:=zc hna;have HSUM:=zc hsu;have HGIV:=zc hgv;have HLS:=zc hls;have HHS:=zc hhs;have HLL:=zc hll;have HHL:=zc hhl;have HL0:=zc hl0;have HH0:=zc hh0;have HSS:=zc hSs;have HXS:=zc hXs;have HLE:=zc hle;have q0:=((Bag.zero w).new #[.int .i64 N.n,.slice A N.l.length c] 24 w.heap.size 2 rfl rfl).new #[.slice Al (n+1) cl,.slice Ah (n+1) ch] 39 (w.heap.size+1) 2 (by simp) rfl;rw [← hn] at hmk hwr;have HN9:=zc hn;obtain ⟨hn0,_,_,_⟩:=qR hv;clear hck hna hsu hgv hls hhs hll hhl hl0 hh0 hSs hXs hle hX hXk hQ hLP hHP hLk hHk hok hbits hd hs hE hN hT hlo hhi hin hW hv hc1 hc2 hn;go_enter Tryz.func21, Tryz.ntmps21;go_upto_region 6 with (first
  | (go_at_call 35;(with_reducible refine (HCK.out _ q0.bl).mono ?_);rintro e w1 ⟨rfl,hb1⟩;have q1:=q0.below hb1;clear hb1 q0
     have na1:=q1.is w.heap.size 2 24 #[.int .i64 N.n,.slice A N.l.length c] (by simp) 0 (by decide) (.int .i64 N.n) rfl;have nb1:=q1.is w.heap.size 2 24 #[.int .i64 N.n,.slice A N.l.length c] (by simp) 1 (by decide) (.slice A N.l.length c) rfl;have wa1:=q1.is (w.heap.size+1) 2 39 #[.slice Al (n+1) cl,.slice Ah (n+1) ch] (by simp) 0 (by decide) (.slice Al (n+1) cl) rfl;have wb1:=q1.is (w.heap.size+1) 2 39 #[.slice Al (n+1) cl,.slice Ah (n+1) ch] (by simp) 1 (by decide) (.slice Ah (n+1) ch) rfl)
  | (go_at_call 52;(with_reducible refine (HNA.out _ q1.bl).mono ?_);rintro e w3 ⟨ga,go,rfl,hga,hA,hb3⟩;have q3:=q1.below hb3;have HA:=zc hA;clear hb3 hA q1 na1 nb1 wa1 wb1
     have na3:=q3.is w.heap.size 2 24 #[.int .i64 N.n,.slice A N.l.length c] (by simp) 0 (by decide) (.int .i64 N.n) rfl;have nb3:=q3.is w.heap.size 2 24 #[.int .i64 N.n,.slice A N.l.length c] (by simp) 1 (by decide) (.slice A N.l.length c) rfl;have wa3:=q3.is (w.heap.size+1) 2 39 #[.slice Al (n+1) cl,.slice Ah (n+1) ch] (by simp) 0 (by decide) (.slice Al (n+1) cl) rfl;have wb3:=q3.is (w.heap.size+1) 2 39 #[.slice Al (n+1) cl,.slice Ah (n+1) ch] (by simp) 1 (by decide) (.slice Ah (n+1) ch) rfl)
  | (go_at_call 53;(with_reducible refine (HSUM.out _ ga go HA.out q3.bl).mono ?_);rintro e w4 ⟨rfl,hb4⟩
     have r9:=zI w4 #[.string (zb sn),.string (zb sd)] 33 w4.heap.size 2 rfl rfl;have b9:=(Below.refl w3.heap.size w3).alloc (zv _) (.cells #[.string (zb sn),.string (zb sd)] 33);have B4:=zc hb4;clear b9 na3 nb3 wa3 wb3))
 have h34:=B4.out.size;have b5:Below w3.heap.size w3 (w4.alloc (.cells #[.string (zb sn),.string (zb sd)] 33)):=B4.out.alloc h34 _;obtain ⟨g9,hg9⟩:∃ g,w4.heap.size=g:=⟨_,rfl⟩;have s45:(w4.alloc (.cells #[.string (zb sn),.string (zb sd)] 33)).heap.size=g9+1:=by simp [hg9]
 rw [hg9] at r9 h34 ⊢;obtain ⟨W5,hW5⟩:∃ W,w4.alloc (.cells #[.string (zb sn),.string (zb sd)] 33)=W:=⟨_,rfl⟩;rw [hW5] at r9 b5 s45 ⊢;have S45:=zc s45;clear s45;have Q3:=zc q3;clear hW5 hg9 q3 HSUM HCK HNA B4;have hca:∀ W,Below w3.heap.size w3 W→W.cell? ⟨w.heap.size,0,none⟩=some (.int .i64 N.n)∧W.cell? ⟨w.heap.size+1,0,none⟩=some (.slice Al (n+1) cl)∧W.cell? ⟨w.heap.size+1,1,none⟩=some (.slice Ah (n+1) ch):=fun W hb =>
  ⟨(Q3.out.below hb).is w.heap.size 2 24 #[.int .i64 N.n,.slice A N.l.length c] (by simp) 0 (by decide) (.int .i64 N.n) rfl,
   (Q3.out.below hb).is (w.heap.size+1) 2 39 #[.slice Al (n+1) cl,.slice Ah (n+1) ch] (by simp) 0 (by decide) (.slice Al (n+1) cl) rfl,
   (Q3.out.below hb).is (w.heap.size+1) 2 39 #[.slice Al (n+1) cl,.slice Ah (n+1) ch] (by simp) 1 (by decide) (.slice Ah (n+1) ch) rfl⟩
 have HCA:=zc hca;clear hca;go_cut [4,5] from 23 to 30 (fun a b wx=>∃ gl gh,a = .slice (some ⟨gl,0,none⟩) (n+1) (n+1)∧b = .slice (some ⟨gh,0,none⟩) (n+1) (n+1)∧BLt w3 g9 gl gh n sn sd [(0,0)] [(0,0)] wx)
 case first =>
  obtain ⟨c1,_,_⟩:=HCA.out _ b5;have c1':W5.drew.cell? ⟨w.heap.size,0,none⟩=some (.int .i64 N.n):=c1;go_region_held3 (fun w'=>w'.cell? ⟨w.heap.size,0,none⟩=some (.int .i64 N.n)) (first | go_keep) (fail)
  all_goals
   try go_wp2
   go_meet
   case rel =>
    have s45:=S45.out;have r1:(W5.alloc (.cells (madeCells #[.string ⟨#[]⟩,.string ⟨#[]⟩] ((n+1)*2)) 33)).rowIs W5.heap.size 33 ((n+1)*2) (zB [(0,0)]):=(zdq W5 (n+1) 33 W5.heap.size rfl).congr fun i _=>(ziZ i).symm;have r2:((W5.alloc (.cells (madeCells #[.string ⟨#[]⟩,.string ⟨#[]⟩] ((n+1)*2)) 33)).alloc (.cells (madeCells #[.string ⟨#[]⟩,.string ⟨#[]⟩] ((n+1)*2)) 33)).rowIs (W5.heap.size+1) 33 ((n+1)*2) (zB [(0,0)]):=(zdq _ (n+1) 33 (W5.heap.size+1) (by simp)).congr fun i _=>(ziZ i).symm;have t1:=((r9.alloc (.cells (madeCells #[.string ⟨#[]⟩,.string ⟨#[]⟩] ((n+1)*2)) 33)).alloc (.cells (madeCells #[.string ⟨#[]⟩,.string ⟨#[]⟩] ((n+1)*2)) 33)).drew;have b1:=qY ((b5.alloc (by omega) (.cells (madeCells #[.string ⟨#[]⟩,.string ⟨#[]⟩] ((n+1)*2)) 33)).alloc (by simp;omega) (.cells (madeCells #[.string ⟨#[]⟩,.string ⟨#[]⟩] ((n+1)*2)) 33)) 1;first
     | exact ⟨_,_,rfl,rfl,⟨b1,t1,(r1.alloc _).drew,r2.drew,by omega,by omega,by omega,by omega,by omega⟩⟩
     | exact ⟨_,_,rfl,rfl,⟨b1,t1,r2.drew,(r1.alloc _).drew,by omega,by omega,by omega,by omega,by omega⟩⟩
 case rest =>
 obtain ⟨gl,gh,rfl,rfl,hbt⟩:=hcut;have B0:=zc hbt;clear hbt r9 b5 hmk;go_wp2_with fail
 go_loopw [10] (fun t wr=>∃ k:Nat,k≤n∧t = .int .i64 ((k:Int)+1)∧BLt w3 g9 gl gh n sn sd (LP k) (HP k) wr) (fun t _=>n+1-(intOf t).toNat)
 case atStart=>exact ⟨0,Nat.zero_le _,rfl,by rw [HL0.out,HH0.out];exact B0.out⟩
 case round =>
  clear B0;obtain ⟨k,hk,rfl,hq⟩:=hrel;have HQ:=zc hq;obtain ⟨c1,c2,c3⟩:=HCA.out _ hq.bl;clear hq;by_cases hlt:k<n
  ·have hle1:(k:Int)+1≤N.n:=by have:=HN9.out;omega
   have hk2:k+1<n+1:=by omega
   have wr2:IntKind.i64.wrap (-((k:Int)+1)) = -((k:Int)+1):=by rw [IntKind.wrap_i64];omega
   have i1:(0:Int)≤(k:Int)+1:=by omega
   have i2:(k:Int)+1<(n:Int)+1:=by omega
   have i3:((k:Int)+1).toNat=k+1:=by omega
   have hls:=HLS.out k;have hhs:=HHS.out k;have hxs:=HXS.out k;have hle:=HLE.out k hlt;have hgv:=fun W (hb:Below w3.heap.size w3 W) At hr=>HGIV.out k W ga go At hlt ((HA.out.below hb).more hb.size) (zx Q3.out.bl hb Q3.out.bl.size) hr;obtain ⟨Y,hY⟩:∃ Y,X k=Y:=⟨_,rfl⟩;rw [hY] at hls hhs hxs hle;simp only [hY] at hgv;obtain ⟨ln,ld⟩:=Y;have hsb:=fun W=>qsub_any W sn sd ln ld HSS.out.1 HSS.out.2 hxs.1 hxs.2 hle;obtain ⟨en,ed,hpq⟩:∃ a b,pq (qp (sn,sd)-qp (ln,ld))=(a,b):=⟨_,_,rfl⟩;rw [hpq] at hhs;have hpq1:qn (qq sn sd-qq ln ld)=en:=congrArg Prod.fst hpq;have hpq2:(qq sn sd-qq ln ld).den=ed:=congrArg Prod.snd hpq;simp only [hpq1,hpq2] at hsb;have HSB:=zc hsb;have HGV:=zc hgv;have HLS2:=zc hls;have HHS2:=zc hhs;have hal:Below w3.heap.size w3 (wr.alloc (.cells #[.int .i64 (-((k:Int)+1))] 3)):=HQ.out.bl.alloc HQ.out.bl.size _;have q5:=HQ.out.below ((Below.refl wr.heap.size wr).alloc (zv _) (.cells #[.int .i64 (-((k:Int)+1))] 3));have hrw:Rd (wr.alloc (.cells #[.int .i64 (-((k:Int)+1))] 3)) (wr.alloc (.cells #[.int .i64 (-((k:Int)+1))] 3)).heap.size (some ⟨wr.heap.size,0,none⟩) 1 (zV [-((k:Int)+1)]):=by
    have r:=zI wr #[.int .i64 (-((k:Int)+1))] 3 wr.heap.size 1 rfl rfl;refine Rd.of_row (r.congr fun i hi=>?_) (zv _) r.lt;obtain rfl:i=0:=by omega
    rfl
   have Q5:=zc q5;clear q5 hgv hsb hls hhs hxs hle hY hpq hpq1 hpq2;go_upto_region 11 with (go_at_call 59;(with_reducible refine (HGV.out _ hal _ hrw).mono ?_);rintro e w5 ⟨rfl,hb5⟩;have q6:=Q5.out.below hb5;have c4:=q6.lo.cell (i:=(k+1)*2) (by omega);have z4:=q6.lo.frozen ((k+1)*2);have c5:=q6.lo.cell (i:=(k+1)*2+1) (by omega);have z5:=q6.lo.frozen ((k+1)*2+1))
   have q7:=q6.low (ln,ld) (k+1) (HLL.out k).symm;simp only at q7;obtain ⟨w6,hw6⟩:∃ W,(w5.setCell ⟨gl,(k+1)*2,none⟩ (.string (zb ln))).setCell ⟨gl,(k+1)*2+1,none⟩ (.string (zb ld))=W:=⟨_,rfl⟩;rw [hw6] at q7 ⊢;clear hw6 q6 c4 z4 c5 z5 hal hrw hb5;have hgd:(LP k++[(ln,ld)]).getD (k+1) (0,0)=(ln,ld):=by
    rw [List.getD_eq_getElem?_getD,List.getElem?_append_right (by rw [HLL.out];exact zv _),HLL.out,Nat.sub_self];rfl
   obtain ⟨s3,s4⟩:=jV q7.lo (k+1) hk2;rw [hgd] at s3 s4;simp only at s3 s4;have s1:w6.cell? ⟨g9,0,none⟩=some (.string (zb sn)):=q7.tb.cell (i:=0) (by decide);have s2:w6.cell? ⟨g9,1,none⟩=some (.string (zb sd)):=q7.tb.cell (i:=1) (by decide);have hg9:=q7.tb.lt;have hgl9:=q7.lo.lt;have q6:=q7;clear q7 hgd;go_wp2_with fail
   have HS:Hid (∀ W,Below w6.heap.size w6 W→W.cell? ⟨g9,0,none⟩=some (.string (zb sn))∧W.cell? ⟨g9,1,none⟩=some (.string (zb sd))∧W.cell? ⟨gl,(k+1)*2,none⟩=some (.string (zb ln))∧W.cell? ⟨gl,(k+1)*2+1,none⟩=some (.string (zb ld))):=zc fun W hb=>⟨zG hb s1 hg9,zG hb s2 hg9,zG hb s3 hgl9,zG hb s4 hgl9⟩;refine zbP (n:=_) (PX:=[zm (.slice (some ⟨gh,0,none⟩) (n+1) (n+1)),
      zm (.int .i64 ((k:Int)+1)),
      zm (.agg #[.string (zb sn),.string (zb sd)]),
      zm (.slice (some ⟨gl,0,none⟩) (n+1) (n+1)),
      zm (.int .i64 ((k:Int)+1)),
      zm (.pointer (some ⟨gl,(k+1)*2,none⟩)),
      zm (.agg #[.string (zb ln),.string (zb ld)]),
      zm (.tuple #[.agg #[.string (zb en),.string (zb ed)],.bool true]),
      zm (.tuple #[.agg #[.string (zb en),.string (zb ed)],.bool true]),
      zm (.agg #[.string (zb en),.string (zb ed)]),
      zm (.bool true),
      zm (.pointer (some ⟨gh,(k+1)*2,none⟩))])
     (AL:=[]) (DP:=[[],[],[],[],[],[3,4],[5],[2,6],[7],[8],[8],[0,1]]) (L1:=[0,1,2,3,4,5,6,7,8,9,11]) (ex:=[10]) (by kernel_rfl) rfl (by kernel_rfl) (by kernel_rfl) (fun _ _ _ _ _ h=>h) ?_ ?_ ?_ ?_
   ·repeat' first|exact qi|refine zo ?_ ?_|exact fun _ _ _ _ h _=>h
   ·refine zo (zw rfl [] ?_) (zo (zw rfl [] ?_) (zo (zw rfl [] ?_) (zo (zw rfl [] ?_) (zo (zw rfl [] ?_) (zo (zw rfl [(3,some 50),(4,some 51)] ?_) (zo (zw rfl [(5,some 52)] ?_) (zo ?_ (zo (zw rfl [(7,some 54)] ?_) (zo (zw rfl [(8,some 46)] ?_) (zo (zw rfl [(0,some 47),(1,some 48)] ?_) qi))))))))));all_goals try (intro vs W hW hd K hK;(try simp only [qh,zm,and_true,List.getD_cons_succ,List.getD_cons_zero] at hd);(first | simp only [hd,zu,Act.put,zk,zj,zi,zg,zf,ze] at hK ⊢ | simp only [zu,Act.put,zk,zj,zi,zg,zf,ze] at hK ⊢ | skip);obtain ⟨m1,m2,m3,m4⟩:=HS.out W hW;go_simp;exact hK.out _ _ rfl (zy _ _) (yM rfl))
    ·refine zZ rfl [(2,some 49),(6,some 53)] ?_;intro vs W hW hd K hK;have d2:vs 2 = .agg #[.string (zb sn),.string (zb sd)]:=hd 2 (by decide);have d6:vs 6 = .agg #[.string (zb ln),.string (zb ld)]:=hd 6 (by decide);clear hd;try simp only [d2,d6,zu,Act.put,zk,zj,zi,zg,zf,ze] at hK ⊢
     go_simp;go_at_call 60;(with_reducible first | refine (HSB.out _).mono ?_);rintro e w9 ⟨rfl,hb9⟩;exact hK.out _ _ (rfl) hb9 (fun h=>absurd h (by decide))
   ·refine zo ?_ qi
    ·refine YieldOk.intro rfl [(8,some 46)] (by kernel_rfl) (fun _=>.bool true) rfl ?_;intro vs W hd;have d8:vs 8 = .tuple #[.agg #[.string (zb en),.string (zb ed)],.bool true]:=hd 8 (by decide);clear hd;refine ⟨rfl,fun w2=>?_⟩;try simp only [d8,zu,Act.put,zk,zj,zi,zg,zf,ze]
     go_simp
   refine yp [(0,some 47),(1,some 48),(2,some 49),(3,some 50),(4,some 51),(5,some 52),(6,some 53),(7,some 54),(8,some 46),(9,some 55),(11,some 57),(10,some 56)] #[true,true,true,true,true,true,true,true,true,true,true,true,false] 1 ?_;intro vs Wf hW hd hbk hdis kf;simp only [qh,zm,and_true,List.getD_cons_succ,List.getD_cons_zero] at hd;obtain ⟨d0,d1,d2,d3,d4,d5,d6,d7,d8,d9,d11,d10⟩:=hd;clear hbk hdis;try simp only [d0,d1,d2,d3,d4,d5,d6,d7,d8,d9,d11,d10,zu,Act.put,zk,zj,zi,zg,zf,ze]
   clear d0 d1 d2 d3 d4 d5 d6 d7 d8 d9 d11 d10 vs;clear HS;have qf:=q6.below hW;have c0:=qf.hi.cell (i:=(k+1)*2) (by omega);have z0:=qf.hi.frozen ((k+1)*2);have c1:=qf.hi.cell (i:=(k+1)*2+1) (by omega);have z1:=qf.hi.frozen ((k+1)*2+1);refine zL 12 (by kernel_rfl) rfl (fun K hK=>?_);go_simp;refine hK.out _ _ ?_;clear hK K;try simp only [zu,Act.put,zk,zj,zi,zg,zf,ze]
   refine z8 (by kernel_rfl) ?_ _;all_goals
    try go_wp2
    go_roundw
    case rel =>
     refine ⟨k+1,hlt,by go_num,?_⟩;rw [HLS2.out,HHS2.out];exact qf.high (en,ed) (k+1) (HHL.out k).symm
    case measure=>simp [intOf];omega
  ·have hle1:¬ ((k:Int)+1≤N.n):=by have:=HN9.out;omega
   have hle2:decide ((k:Int)+1≤N.n)=false:=decide_eq_false hle1;obtain rfl:k=n:=by omega
   go_wp2_with fail
   go_ret3;have h3:=Q3.out.bl.size;exact ⟨gl,gh,rfl,Nat.le_trans h3 HQ.out.a,Nat.le_trans h3 HQ.out.b,HQ.out.lo,HQ.out.hi,zx Q3.out.bl HQ.out.bl h3⟩
end Go.Proofs.YtmhllppjcilllaaGreatDoor
