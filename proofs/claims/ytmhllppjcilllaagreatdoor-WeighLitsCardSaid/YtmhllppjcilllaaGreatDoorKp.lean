import Derived.Test.YtmhllppjcilllaaGreatDoorSh
import Derived.Test.YtmhllppjcilllaaGreatDoorSb
import Derived.Test.YtmhllppjcilllaaGreatDoorZa
import Derived.Test.YtmhllppjcilllaaGreatDoorAw
import Derived.Test.YtmhllppjcilllaaGreatDoorTn
import Derived.Test.YtmhllppjcilllaaGreatDoorDl
import Derived.Laws.EntriesVeiled
import Derived.Test.YtmhllppjcilllaaGreatDoorNr
set_option linter.unusedSimpArgs false
set_option linter.unusedVariables false
section
set_option maxRecDepth 100000
set_option maxHeartbeats 8000000
open Go Go.RowKit Cs
namespace Cs
open Go.Proofs.YtmhllppjcilllaaGreatDoor
def yM (N:Nt) (n:Nat) (lo hi:List Pr) (k:Nat):List Pr:=(List.range (k+1)).map fun (v:Nat)=>if v=0 then (0,0) else (RP n (z6 n lo [-(v:Int)]) (z8 n hi [-(v:Int)])).sum N
def yw (N:Nt) (n:Nat) (lo hi:List Pr) (k:Nat):List Pr:=(List.range (k+1)).map fun (v:Nat)=>if v=0 then (0,0) else pq (qp ((RP n lo hi).sum N)-qp ((RP n (z6 n lo [-(v:Int)]) (z8 n hi [-(v:Int)])).sum N))
theorem lowP_len (N:Nt) (n:Nat) (lo hi:List Pr) (k:Nat):(yM N n lo hi k).length=k+1:=by simp [yM]
theorem pc (N:Nt) (n:Nat) (lo hi:List Pr) (k:Nat):(yw N n lo hi k).length=k+1:=by simp [yw]
theorem xX (N:Nt) (n:Nat) (lo hi:List Pr) (k:Nat):yM N n lo hi (k+1)=yM N n lo hi k++[(RP n (z6 n lo [-((k:Int)+1)]) (z8 n hi [-((k:Int)+1)])).sum N]:=by
 unfold yM;rw [List.range_succ,List.map_append,List.map_singleton,if_neg (by omega),Int.natCast_succ]
theorem zku (N:Nt) (n:Nat) (lo hi:List Pr) (k:Nat):yw N n lo hi (k+1)=yw N n lo hi k++[pq (qp ((RP n lo hi).sum N)-qp ((RP n (z6 n lo [-((k:Int)+1)]) (z8 n hi [-((k:Int)+1)])).sum N))]:=by
 unfold yw;rw [List.range_succ,List.map_append,List.map_singleton,if_neg (by omega),Int.natCast_succ]
end Cs
namespace Go.Proofs.YtmhllppjcilllaaGreatDoor
theorem zjj:∀ i,zD [(0,0)] i=zD [] i:=fun i=>by
 unfold zD;rcases Nat.eq_zero_or_pos (i / 2) with h | h
 ·rw [h];rfl
 ·obtain ⟨m,hm⟩:∃ m,i / 2=m+1:=⟨i / 2-1,by omega⟩;rw [hm];rfl
structure BLt (w3:World) (g9 gl gh n:Nat) (sn sd:Nat) (L H:List Pr) (W:World):Prop where
 bl:Below w3.heap.size w3 W
 tb:W.rowIs g9 33 2 (zy #[.string (za sn),.string (za sd)])
 lo:W.rowIs gl 33 ((n+1)*2) (zD L)
 hi:W.rowIs gh 33 ((n+1)*2) (zD H)
 n1:gl≠gh
 n2:g9≠gl
 n3:g9≠gh
 a:w3.heap.size≤gl
 b:w3.heap.size≤gh
section
variable {w3 W W':World} {g9 gl gh n sn sd:Nat} {L H:List Pr}
theorem BLt.below (h:BLt w3 g9 gl gh n sn sd L H W) (hb:Below W.heap.size W W'):BLt w3 g9 gl gh n sn sd L H W' :=
 ⟨zw h.bl hb h.bl.size,zo h.tb hb,zo h.lo hb,zo h.hi hb,h.n1,h.n2,h.n3,h.a,h.b⟩
theorem BLt.low (h:BLt w3 g9 gl gh n sn sd L H W) (p:Pr) (k:Nat) (hk:k=L.length):BLt w3 g9 gl gh n sn sd (L++[p]) H ((W.setCell ⟨gl,k*2,none⟩ (.string (za p.1))).setCell ⟨gl,k*2+1,none⟩ (.string (za p.2))) :=
 ⟨(h.bl.setCell (p:=⟨gl,k*2,none⟩) h.a _).setCell (p:=⟨gl,k*2+1,none⟩) h.a _,(h.tb.setOther h.n2 _).setOther h.n2 _,zeQ h.lo p k hk,(h.hi.setOther (Ne.symm h.n1) _).setOther (Ne.symm h.n1) _,h.n1,h.n2,h.n3,h.a,h.b⟩
theorem BLt.high (h:BLt w3 g9 gl gh n sn sd L H W) (p:Pr) (k:Nat) (hk:k=H.length):BLt w3 g9 gl gh n sn sd L (H++[p]) ((W.setCell ⟨gh,k*2,none⟩ (.string (za p.1))).setCell ⟨gh,k*2+1,none⟩ (.string (za p.2))) :=
 ⟨(h.bl.setCell (p:=⟨gh,k*2,none⟩) h.b _).setCell (p:=⟨gh,k*2+1,none⟩) h.b _,(h.tb.setOther h.n3 _).setOther h.n3 _,(h.lo.setOther h.n1 _).setOther h.n1 _,zeQ h.hi p k hk,h.n1,h.n2,h.n3,h.a,h.b⟩
end
theorem zhF (w:World) (N:Nt) (A:Option Addr) (c cl ch n:Nat) (lo hi:List Pr) (Al Ah:Option Addr) (hN:NtAt w w.heap.size A N.l) (hv:zG N=true) (hn:N.n=(n:Int)) (hT:Tab w)
  (hin:∀ k (hk:k<N.l.length),N.l[k].ins.length≤1000000) (hW:WtIn n lo hi)
  (hlo:Rd w w.heap.size Al ((n+1)*2) (zD lo)) (hhi:Rd w w.heap.size Ah ((n+1)*2) (zD hi)) (hc1:n+1≤cl) (hc2:n+1≤ch) (hE:yc N n lo hi=0) :
  Calls Tryz.prog 21 #[qg N A c,yJ Al Ah (n+1) (n+1) cl ch] w fun e w'=>∃ gl gh,e = .returned (.tuple #[.slice (some ⟨gl,0,none⟩) (n+1) (n+1),.slice (some ⟨gh,0,none⟩) (n+1) (n+1),.int .i64 0]) ∧
   w.heap.size≤gl∧w.heap.size≤gh∧w'.rowIs gl 33 ((n+1)*2) (zD (yM N n lo hi n))∧w'.rowIs gh 33 ((n+1)*2) (zD (yw N n lo hi n))∧Below w.heap.size w w':=by
 have hn128:=zhT hv hn;have hck:=fun W (hb:Below w.heap.size w W)=>zcU W N A c cl ch n lo hi Al Ah ((hN.below hb).more hb.size) hv hn (hT.below hb) ((hlo.below hb).more hb.size) ((hhi.below hb).more hb.size) hW.sl hW.sh hc1 hc2 (yc N n lo hi) rfl;rw [hE] at hck;obtain ⟨hd,hs,hbits⟩:=zeA hv hE;have hok:WtOk n lo hi:=hW.ok hbits;have hna:=fun W (hb:Below w.heap.size w W)=>zcM W N A c ((hN.below hb).more hb.size) hv;have hsu:=fun W ga go hA (hb:Below w.heap.size w W)=>zd0 W N A c ga go n cl ch lo hi Al Ah hA hv hd hs hn hin hok ((hlo.below hb).more hb.size) ((hhi.below hb).more hb.size) (hT.below hb);have hgv:∀ (k:Nat) W ga go (At:Option Addr),k<n→AdAt W 155 96 W.heap.size ga go N A c→Below w.heap.size w W→Rd W W.heap.size At 1 (zO [-((k:Int)+1)]) →
   Calls Tryz.prog 59 #[yJ Al Ah (n+1) (n+1) cl ch,.slice At 1 1,.func (.func 53) #[.pointer (some ⟨ga,0,none⟩)] #[]] W fun e w'=>e = .returned (zI ((RP n (z6 n lo [-((k:Int)+1)]) (z8 n hi [-((k:Int)+1)])).sum N).1 ((RP n (z6 n lo [-((k:Int)+1)]) (z8 n hi [-((k:Int)+1)])).sum N).2)∧Below W.heap.size W w':=fun k W ga go At hk hA hb hr=>by
  obtain ⟨ez1,ez2⟩:=pW hW.ll hW.lh 1 [-((k:Int)+1)] rfl (fun l hl=>by rw [List.mem_singleton] at hl;omega);exact zh8 W cl ch n 1 lo hi [-((k:Int)+1)] Al Ah At ga _ hn128 ((hlo.below hb).more hb.size) ((hhi.below hb).more hb.size) hr (by simp) (fun l hl=>by rw [List.mem_singleton] at hl;omega) hW.ll hW.lh
   (fun V Al' Ah' cl' ch' hbV a b h1 h2=>by
     rw [ez1] at h1;rw [ez2] at h2;exact zd0 V N A c ga go n cl' ch' _ _ Al' Ah' ((hA.below hbV).more hbV.size) hv hd hs hn hin (WtIn.okT hW hbits _) h1 h2 (hT.below (zw hb hbV hb.size)))
 have hSs:Sp ((RP n lo hi).sum N):=zeG hok hv hd hs hn;have hXs:∀ k:Nat,Sp ((RP n (z6 n lo [-((k:Int)+1)]) (z8 n hi [-((k:Int)+1)])).sum N):=fun k=>zeG (WtIn.okT hW hbits _) hv hd hs hn;have hle:∀ k:Nat,k<n→qp ((RP n (z6 n lo [-((k:Int)+1)]) (z8 n hi [-((k:Int)+1)])).sum N)≤qp ((RP n lo hi).sum N):=fun k hk=>by
  have h1:=zgs hW hbits hv hd hn (k+1) (by omega) (by omega);rw [Int.natCast_succ] at h1;have h2:=yY ((RP n (z6 n lo [(k:Int)+1]) (z8 n hi [(k:Int)+1])).sum N);rw [h1]
  grind
 have hls:=fun k=>xX N n lo hi k;have hhs:=fun k=>zku N n lo hi k;have hll:=fun k=>lowP_len N n lo hi k;have hhl:=fun k=>pc N n lo hi k;have hl0:yM N n lo hi 0=[(0,0)]:=rfl;have hh0:yw N n lo hi 0=[(0,0)]:=rfl;obtain ⟨X,hX⟩:∃ X:Nat→Pr,X=fun (k:Nat)=>(RP n (z6 n lo [-((k:Int)+1)]) (z8 n hi [-((k:Int)+1)])).sum N:=⟨_,rfl⟩;have hXk:∀ k:Nat,(RP n (z6 n lo [-((k:Int)+1)]) (z8 n hi [-((k:Int)+1)])).sum N=X k:=fun k=>by rw [hX]
 obtain ⟨Q,hQ⟩:∃ Q,(RP n lo hi).sum N=Q:=⟨_,rfl⟩;simp only [hXk] at hgv hXs hle hls hhs;simp only [hQ] at hsu hle hhs hSs;obtain ⟨LP,hLP⟩:∃ L:Nat→List Pr,L=fun k=>yM N n lo hi k:=⟨_,rfl⟩;obtain ⟨HP,hHP⟩:∃ L:Nat→List Pr,L=fun k=>yw N n lo hi k:=⟨_,rfl⟩;have hLk:∀ k,yM N n lo hi k=LP k:=fun k=>by rw [hLP]
 have hHk:∀ k,yw N n lo hi k=HP k:=fun k=>by rw [hHP]
 simp only [hLk] at hls hll hl0 ⊢;simp only [hHk] at hhs hhl hh0 ⊢;obtain ⟨sn,sd⟩:=Q;have hmk:=gO n (by omega);have hwr:IntKind.i64.wrap ((n:Int)+1)=(n:Int)+1:=by rw [IntKind.wrap_i64];omega
 have HCK:=zb hck;have HNA:=zb hna;have HSUM:=zb hsu;have HGIV:=zb hgv;have HLS:=zb hls;have HHS:=zb hhs;have HLL:=zb hll;have HHL:=zb hhl;have HL0:=zb hl0;have HH0:=zb hh0;have HSS:=zb hSs;have HXS:=zb hXs;have HLE:=zb hle;have q0:=((Bag.zero w).new #[.int .i64 N.n,.slice A N.l.length c] 24 w.heap.size 2 rfl rfl).new #[.slice Al (n+1) cl,.slice Ah (n+1) ch] 39 (w.heap.size+1) 2 (by simp) rfl;rw [← hn] at hmk hwr;have HN9:=zb hn;obtain ⟨hn0,_,_,_⟩:=qN hv;clear hck hna hsu hgv hls hhs hll hhl hl0 hh0 hSs hXs hle hX hXk hQ hLP hHP hLk hHk hok hbits hd hs hE hN hT hlo hhi hin hW hv hc1 hc2 hn;go_enter Tryz.func21, Tryz.ntmps21;go_upto_region 6 with (first
  | (go_at_call 35;(with_reducible refine (HCK.out _ q0.bl).mono ?_);rintro e w1 ⟨rfl,hb1⟩;have q1:=q0.below hb1;clear hb1 q0
     have na1:=q1.is w.heap.size 2 24 #[.int .i64 N.n,.slice A N.l.length c] (by simp) 0 (by decide) (.int .i64 N.n) rfl;have nb1:=q1.is w.heap.size 2 24 #[.int .i64 N.n,.slice A N.l.length c] (by simp) 1 (by decide) (.slice A N.l.length c) rfl;have wa1:=q1.is (w.heap.size+1) 2 39 #[.slice Al (n+1) cl,.slice Ah (n+1) ch] (by simp) 0 (by decide) (.slice Al (n+1) cl) rfl;have wb1:=q1.is (w.heap.size+1) 2 39 #[.slice Al (n+1) cl,.slice Ah (n+1) ch] (by simp) 1 (by decide) (.slice Ah (n+1) ch) rfl)
  | (go_at_call 52;(with_reducible refine (HNA.out _ q1.bl).mono ?_);rintro e w3 ⟨ga,go,rfl,hga,hA,hb3⟩;have q3:=q1.below hb3;have HA:=zb hA;clear hb3 hA q1 na1 nb1 wa1 wb1
     have na3:=q3.is w.heap.size 2 24 #[.int .i64 N.n,.slice A N.l.length c] (by simp) 0 (by decide) (.int .i64 N.n) rfl;have nb3:=q3.is w.heap.size 2 24 #[.int .i64 N.n,.slice A N.l.length c] (by simp) 1 (by decide) (.slice A N.l.length c) rfl;have wa3:=q3.is (w.heap.size+1) 2 39 #[.slice Al (n+1) cl,.slice Ah (n+1) ch] (by simp) 0 (by decide) (.slice Al (n+1) cl) rfl;have wb3:=q3.is (w.heap.size+1) 2 39 #[.slice Al (n+1) cl,.slice Ah (n+1) ch] (by simp) 1 (by decide) (.slice Ah (n+1) ch) rfl)
  | (go_at_call 53;(with_reducible refine (HSUM.out _ ga go HA.out q3.bl).mono ?_);rintro e w4 ⟨rfl,hb4⟩
     have r9:=zF w4 #[.string (za sn),.string (za sd)] 33 w4.heap.size 2 rfl rfl;have b9:=(Below.refl w3.heap.size w3).alloc (zu _) (.cells #[.string (za sn),.string (za sd)] 33);have B4:=zb hb4;clear b9 na3 nb3 wa3 wb3))
 have h34:=B4.out.size;have b5:Below w3.heap.size w3 (w4.alloc (.cells #[.string (za sn),.string (za sd)] 33)):=B4.out.alloc h34 _;obtain ⟨g9,hg9⟩:∃ g,w4.heap.size=g:=⟨_,rfl⟩;have s45:(w4.alloc (.cells #[.string (za sn),.string (za sd)] 33)).heap.size=g9+1:=by simp [hg9]
 rw [hg9] at r9 h34 ⊢;obtain ⟨W5,hW5⟩:∃ W,w4.alloc (.cells #[.string (za sn),.string (za sd)] 33)=W:=⟨_,rfl⟩;rw [hW5] at r9 b5 s45 ⊢;have S45:=zb s45;clear s45;have Q3:=zb q3;clear hW5 hg9 q3 HSUM HCK HNA B4;have hca:∀ W,Below w3.heap.size w3 W→W.cell? ⟨w.heap.size,0,none⟩=some (.int .i64 N.n)∧W.cell? ⟨w.heap.size+1,0,none⟩=some (.slice Al (n+1) cl)∧W.cell? ⟨w.heap.size+1,1,none⟩=some (.slice Ah (n+1) ch):=fun W hb =>
  ⟨(Q3.out.below hb).is w.heap.size 2 24 #[.int .i64 N.n,.slice A N.l.length c] (by simp) 0 (by decide) (.int .i64 N.n) rfl,
   (Q3.out.below hb).is (w.heap.size+1) 2 39 #[.slice Al (n+1) cl,.slice Ah (n+1) ch] (by simp) 0 (by decide) (.slice Al (n+1) cl) rfl,
   (Q3.out.below hb).is (w.heap.size+1) 2 39 #[.slice Al (n+1) cl,.slice Ah (n+1) ch] (by simp) 1 (by decide) (.slice Ah (n+1) ch) rfl⟩
 have HCA:=zb hca;clear hca;go_cut [4,5] from 23 to 30 (fun a b wx=>∃ gl gh,a = .slice (some ⟨gl,0,none⟩) (n+1) (n+1)∧b = .slice (some ⟨gh,0,none⟩) (n+1) (n+1)∧BLt w3 g9 gl gh n sn sd [(0,0)] [(0,0)] wx)
 case first =>
  obtain ⟨c1,_,_⟩:=HCA.out _ b5;have c1':W5.drew.cell? ⟨w.heap.size,0,none⟩=some (.int .i64 N.n):=c1;go_region_held3 (fun w'=>w'.cell? ⟨w.heap.size,0,none⟩=some (.int .i64 N.n)) (first | go_keep) (fail)
  all_goals
   try go_wp2
   go_meet
   case rel =>
    have s45:=S45.out;have r1:(W5.alloc (.cells (madeCells #[.string ⟨#[]⟩,.string ⟨#[]⟩] ((n+1)*2)) 33)).rowIs W5.heap.size 33 ((n+1)*2) (zD [(0,0)]):=(zeR W5 (n+1) 33 W5.heap.size rfl).congr fun i _=>(zjj i).symm;have r2:((W5.alloc (.cells (madeCells #[.string ⟨#[]⟩,.string ⟨#[]⟩] ((n+1)*2)) 33)).alloc (.cells (madeCells #[.string ⟨#[]⟩,.string ⟨#[]⟩] ((n+1)*2)) 33)).rowIs (W5.heap.size+1) 33 ((n+1)*2) (zD [(0,0)]):=(zeR _ (n+1) 33 (W5.heap.size+1) (by simp)).congr fun i _=>(zjj i).symm;have t1:=((r9.alloc (.cells (madeCells #[.string ⟨#[]⟩,.string ⟨#[]⟩] ((n+1)*2)) 33)).alloc (.cells (madeCells #[.string ⟨#[]⟩,.string ⟨#[]⟩] ((n+1)*2)) 33)).drew;have b1:=qV ((b5.alloc (by omega) (.cells (madeCells #[.string ⟨#[]⟩,.string ⟨#[]⟩] ((n+1)*2)) 33)).alloc (by simp;omega) (.cells (madeCells #[.string ⟨#[]⟩,.string ⟨#[]⟩] ((n+1)*2)) 33)) 1;first
     | exact ⟨_,_,rfl,rfl,⟨b1,t1,(r1.alloc _).drew,r2.drew,by omega,by omega,by omega,by omega,by omega⟩⟩
     | exact ⟨_,_,rfl,rfl,⟨b1,t1,r2.drew,(r1.alloc _).drew,by omega,by omega,by omega,by omega,by omega⟩⟩
 case rest =>
 obtain ⟨gl,gh,rfl,rfl,hbt⟩:=hcut;have B0:=zb hbt;clear hbt r9 b5 hmk;go_wp2_with fail
 go_loopw [10] (fun t wr=>∃ k:Nat,k≤n∧t = .int .i64 ((k:Int)+1)∧BLt w3 g9 gl gh n sn sd (LP k) (HP k) wr) (fun t _=>n+1-(intOf t).toNat)
 case atStart=>exact ⟨0,Nat.zero_le _,rfl,by rw [HL0.out,HH0.out];exact B0.out⟩
 case round =>
  clear B0;obtain ⟨k,hk,rfl,hq⟩:=hrel;have HQ:=zb hq;obtain ⟨c1,c2,c3⟩:=HCA.out _ hq.bl;clear hq;by_cases hlt:k<n
  ·have hle1:(k:Int)+1≤N.n:=by have:=HN9.out;omega
   have hk2:k+1<n+1:=by omega
   have wr2:IntKind.i64.wrap (-((k:Int)+1)) = -((k:Int)+1):=by rw [IntKind.wrap_i64];omega
   have i1:(0:Int)≤(k:Int)+1:=by omega
   have i2:(k:Int)+1<(n:Int)+1:=by omega
   have i3:((k:Int)+1).toNat=k+1:=by omega
   have hls:=HLS.out k;have hhs:=HHS.out k;have hxs:=HXS.out k;have hle:=HLE.out k hlt;have hgv:=fun W (hb:Below w3.heap.size w3 W) At hr=>HGIV.out k W ga go At hlt ((HA.out.below hb).more hb.size) (zw Q3.out.bl hb Q3.out.bl.size) hr;obtain ⟨Y,hY⟩:∃ Y,X k=Y:=⟨_,rfl⟩;rw [hY] at hls hhs hxs hle;simp only [hY] at hgv;obtain ⟨ln,ld⟩:=Y;have hsb:=fun W=>qsub_any W sn sd ln ld HSS.out.1 HSS.out.2 hxs.1 hxs.2 hle;obtain ⟨en,ed,hpq⟩:∃ a b,pq (qp (sn,sd)-qp (ln,ld))=(a,b):=⟨_,_,rfl⟩;rw [hpq] at hhs;have hpq1:qn (qq sn sd-qq ln ld)=en:=congrArg Prod.fst hpq;have hpq2:(qq sn sd-qq ln ld).den=ed:=congrArg Prod.snd hpq;simp only [hpq1,hpq2] at hsb;have HSB:=zb hsb;have HGV:=zb hgv;have HLS2:=zb hls;have HHS2:=zb hhs;have hal:Below w3.heap.size w3 (wr.alloc (.cells #[.int .i64 (-((k:Int)+1))] 3)):=HQ.out.bl.alloc HQ.out.bl.size _;have q5:=HQ.out.below ((Below.refl wr.heap.size wr).alloc (zu _) (.cells #[.int .i64 (-((k:Int)+1))] 3));have hrw:Rd (wr.alloc (.cells #[.int .i64 (-((k:Int)+1))] 3)) (wr.alloc (.cells #[.int .i64 (-((k:Int)+1))] 3)).heap.size (some ⟨wr.heap.size,0,none⟩) 1 (zO [-((k:Int)+1)]):=by
    have r:=zF wr #[.int .i64 (-((k:Int)+1))] 3 wr.heap.size 1 rfl rfl;refine Rd.of_row (r.congr fun i hi=>?_) (zu _) r.lt;obtain rfl:i=0:=by omega
    rfl
   have Q5:=zb q5;clear q5 hgv hsb hls hhs hxs hle hY hpq hpq1 hpq2;go_upto_region 11 with (go_at_call 59;(with_reducible refine (HGV.out _ hal _ hrw).mono ?_);rintro e w5 ⟨rfl,hb5⟩;have q6:=Q5.out.below hb5;have c4:=q6.lo.cell (i:=(k+1)*2) (by omega);have z4:=q6.lo.frozen ((k+1)*2);have c5:=q6.lo.cell (i:=(k+1)*2+1) (by omega);have z5:=q6.lo.frozen ((k+1)*2+1))
   have q7:=q6.low (ln,ld) (k+1) (HLL.out k).symm;simp only at q7;obtain ⟨w6,hw6⟩:∃ W,(w5.setCell ⟨gl,(k+1)*2,none⟩ (.string (za ln))).setCell ⟨gl,(k+1)*2+1,none⟩ (.string (za ld))=W:=⟨_,rfl⟩;rw [hw6] at q7 ⊢;clear hw6 q6 c4 z4 c5 z5 hal hrw hb5;have hgd:(LP k++[(ln,ld)]).getD (k+1) (0,0)=(ln,ld):=by
    rw [List.getD_eq_getElem?_getD,List.getElem?_append_right (by rw [HLL.out];exact zu _),HLL.out,Nat.sub_self];rfl
   obtain ⟨s3,s4⟩:=zex q7.lo (k+1) hk2;rw [hgd] at s3 s4;simp only at s3 s4;have s1:w6.cell? ⟨g9,0,none⟩=some (.string (za sn)):=q7.tb.cell (i:=0) (by decide);have s2:w6.cell? ⟨g9,1,none⟩=some (.string (za sd)):=q7.tb.cell (i:=1) (by decide);have hg9:=q7.tb.lt;have hgl9:=q7.lo.lt;have q6:=q7;clear q7 hgd;go_wp2_with fail
   have HS:Hid (∀ W,Below w6.heap.size w6 W→W.cell? ⟨g9,0,none⟩=some (.string (za sn))∧W.cell? ⟨g9,1,none⟩=some (.string (za sd))∧W.cell? ⟨gl,(k+1)*2,none⟩=some (.string (za ln))∧W.cell? ⟨gl,(k+1)*2+1,none⟩=some (.string (za ld))):=zb fun W hb=>⟨zC hb s1 hg9,zC hb s2 hg9,zC hb s3 hgl9,zC hb s4 hgl9⟩;refine zaN (n:=_) (PX:=[zl (.slice (some ⟨gh,0,none⟩) (n+1) (n+1)),
      zl (.int .i64 ((k:Int)+1)),
      zl (.agg #[.string (za sn),.string (za sd)]),
      zl (.slice (some ⟨gl,0,none⟩) (n+1) (n+1)),
      zl (.int .i64 ((k:Int)+1)),
      zl (.pointer (some ⟨gl,(k+1)*2,none⟩)),
      zl (.agg #[.string (za ln),.string (za ld)]),
      zl (.tuple #[.agg #[.string (za en),.string (za ed)],.bool true]),
      zl (.tuple #[.agg #[.string (za en),.string (za ed)],.bool true]),
      zl (.agg #[.string (za en),.string (za ed)]),
      zl (.bool true),
      zl (.pointer (some ⟨gh,(k+1)*2,none⟩))])
     (AL:=[]) (DP:=[[],[],[],[],[],[3,4],[5],[2,6],[7],[8],[8],[0,1]]) (L1:=[0,1,2,3,4,5,6,7,8,9,11]) (ex:=[10]) (by kernel_rfl) rfl (by kernel_rfl) (by kernel_rfl) (fun _ _ _ _ _ h=>h) ?_ ?_ ?_ ?_
   ·repeat' first|exact zW|refine zk ?_ ?_|exact fun _ _ _ _ h _=>h
   ·refine zk (zv rfl [] ?_) (zk (zv rfl [] ?_) (zk (zv rfl [] ?_) (zk (zv rfl [] ?_) (zk (zv rfl [] ?_) (zk (zv rfl [(3,some 50),(4,some 51)] ?_) (zk (zv rfl [(5,some 52)] ?_) (zk ?_ (zk (zv rfl [(7,some 54)] ?_) (zk (zv rfl [(8,some 46)] ?_) (zk (zv rfl [(0,some 47),(1,some 48)] ?_) zW))))))))));all_goals try (intro vs W hW hd K hK;(try simp only [qa,zl,and_true,List.getD_cons_succ,List.getD_cons_zero] at hd);(first | simp only [hd,zm,Act.put,zj,zi,zh,zg,zf,ze] at hK ⊢ | simp only [zm,Act.put,zj,zi,zh,zg,zf,ze] at hK ⊢ | skip);obtain ⟨m1,m2,m3,m4⟩:=HS.out W hW;go_simp;exact hK.out _ _ rfl (zx _ _) (qU rfl))
    ·refine zJ rfl [(2,some 49),(6,some 53)] ?_;intro vs W hW hd K hK;have d2:vs 2 = .agg #[.string (za sn),.string (za sd)]:=hd 2 (by decide);have d6:vs 6 = .agg #[.string (za ln),.string (za ld)]:=hd 6 (by decide);clear hd;try simp only [d2,d6,zm,Act.put,zj,zi,zh,zg,zf,ze] at hK ⊢
     go_simp;go_at_call 60;(with_reducible first | refine (HSB.out _).mono ?_);rintro e w9 ⟨rfl,hb9⟩;exact hK.out _ _ (rfl) hb9 (fun h=>absurd h (by decide))
   ·refine zk ?_ zW
    ·refine YieldOk.intro rfl [(8,some 46)] (by kernel_rfl) (fun _=>.bool true) rfl ?_;intro vs W hd;have d8:vs 8 = .tuple #[.agg #[.string (za en),.string (za ed)],.bool true]:=hd 8 (by decide);clear hd;refine ⟨rfl,fun w2=>?_⟩;try simp only [d8,zm,Act.put,zj,zi,zh,zg,zf,ze]
     go_simp
   refine qQ [(0,some 47),(1,some 48),(2,some 49),(3,some 50),(4,some 51),(5,some 52),(6,some 53),(7,some 54),(8,some 46),(9,some 55),(11,some 57),(10,some 56)] #[true,true,true,true,true,true,true,true,true,true,true,true,false] 1 ?_;intro vs Wf hW hd hbk hdis kf;simp only [qa,zl,and_true,List.getD_cons_succ,List.getD_cons_zero] at hd;obtain ⟨d0,d1,d2,d3,d4,d5,d6,d7,d8,d9,d11,d10⟩:=hd;clear hbk hdis;try simp only [d0,d1,d2,d3,d4,d5,d6,d7,d8,d9,d11,d10,zm,Act.put,zj,zi,zh,zg,zf,ze]
   clear d0 d1 d2 d3 d4 d5 d6 d7 d8 d9 d11 d10 vs;clear HS;have qf:=q6.below hW;have c0:=qf.hi.cell (i:=(k+1)*2) (by omega);have z0:=qf.hi.frozen ((k+1)*2);have c1:=qf.hi.cell (i:=(k+1)*2+1) (by omega);have z1:=qf.hi.frozen ((k+1)*2+1);refine zE 12 (by kernel_rfl) rfl (fun K hK=>?_);go_simp;refine hK.out _ _ ?_;clear hK K;try simp only [zm,Act.put,zj,zi,zh,zg,zf,ze]
   refine qc (by kernel_rfl) ?_ _;all_goals
    try go_wp2
    go_roundw
    case rel =>
     refine ⟨k+1,hlt,by go_num,?_⟩;rw [HLS2.out,HHS2.out];exact qf.high (en,ed) (k+1) (HHL.out k).symm
    case measure=>simp [intOf];omega
  ·have hle1:¬ ((k:Int)+1≤N.n):=by have:=HN9.out;omega
   have hle2:decide ((k:Int)+1≤N.n)=false:=decide_eq_false hle1;obtain rfl:k=n:=by omega
   go_wp2_with fail
   go_ret3;have h3:=Q3.out.bl.size;exact ⟨gl,gh,rfl,Nat.le_trans h3 HQ.out.a,Nat.le_trans h3 HQ.out.b,HQ.out.lo,HQ.out.hi,zw Q3.out.bl HQ.out.bl h3⟩
end Go.Proofs.YtmhllppjcilllaaGreatDoor
end
section
end
section
open Go Go.RowKit Cs
namespace Cs
section
variable {N:Nt} {n:Nat} {lo hi:List Pr}
theorem ptext_lp {p:Pr} (h:Lp p):Go.Proofs.YtmhllppjcilllaaGreatDoor.ptext p.1 p.2=zgp (qp p):=by
 obtain ⟨h1,h2⟩:=h;unfold qp;rcases h2 with h2 | ⟨e1,e2⟩
 ·rw [← ptext_q,← h1,← h2]
 ·rw [e1,e2];decide +kernel
end
end Cs
end
section
open Go Go.RowKit Cs
namespace Cs
open Go.Proofs.YtmhllppjcilllaaGreatDoor
theorem zdB (lw:Nat) (F:Nat→Nat) (v j:Nat):qs lw F v j≤6:=by
 unfold qs;split
 ·omega
 ·split <;> omega
theorem zew (n d m:Nat) (h1:n≤m) (h2:d≤m) (hm:1≤m):(pq (qq n d)).1≤m∧(pq (qq n d)).2≤m:=by
 constructor
 ·show qn (qq n d)≤m;rw [y8];exact Nat.le_trans (Nat.div_le_self _ _) h1
 ·show (qq n d).den≤m;rw [zhD];refine Nat.le_trans (Nat.div_le_self _ _) ?_;unfold qd;split <;> omega
theorem zfp (lw:Nat) (F:Nat→Nat) (v:Nat):(pD lw F v).1≤6∧(pD lw F v).2≤6:=zew _ _ 6 (zdB _ _ _ _) (zdB _ _ _ _) (by decide)
theorem zfq (lw:Nat) (F:Nat→Nat) (v:Nat):(pE lw F v).1≤6∧(pE lw F v).2≤6:=zew _ _ 6 (zdB _ _ _ _) (zdB _ _ _ _) (by decide)
theorem zdF {x m:Nat} (h:x≤7):nd 2 x≤3:=Nat.le_trans (zeV 2 (by decide) h) (by decide +kernel)
theorem zeS {p:Pr} (h1:p.1≤7) (h2:p.2≤7):yR p≤6:=by
 unfold yR;have a:=zdF (m:=0) h1;have b:nd 2 (qd p.2)≤3:=zdF (m:=0) (by unfold qd;split <;> omega);omega
theorem zf8 {l:List Pr} (h:∀ k,yR (l.getD k (0,0))≤6):∀ m,zK l m≤6*m
 | 0=>zu _
 | m+1=>by
   show zK l m+_≤_;have:=zf8 h m;have:=h (m+1);omega
theorem zck (f:Nat→Pr) (m k:Nat):((List.range m).map f).getD k (0,0)=if k<m then f k else (0,0):=zdq f (0,0) m k
theorem ziK {x:Nat} (h:x≤6):n8 x≤40000:=Nat.le_trans (ja (by omega)) (by decide)
theorem small_in {n:Nat} {f g:Nat→Pr} (hf:∀ v,Lp (f v)∧(f v).1≤6∧(f v).2≤6) (hg:∀ v,Lp (g v)∧(g v).1≤6∧(g v).2≤6):WtIn n ((List.range (n+1)).map f) ((List.range (n+1)).map g):=by
 have e:∀ (f:Nat→Pr),(∀ v,Lp (f v)∧(f v).1≤6∧(f v).2≤6)→∀ k,Lp (((List.range (n+1)).map f).getD k (0,0))∧S0 (((List.range (n+1)).map f).getD k (0,0)):=fun f hf k=>by
  rw [zck];split
  ·exact ⟨(hf k).1,ziK (hf k).2.1,ziK (hf k).2.2⟩
  ·exact ⟨Lp.zero,ziK (by omega),ziK (by omega)⟩
 exact ⟨by simp,by simp,fun k=>(e f hf k).1,fun k=>(e g hg k).1,(e f hf 0).2,(e g hg 0).2,fun k=>(e f hf k).2.sp,fun k=>(e g hg k).2.sp⟩
theorem aw_ok (lw:Nat) (F:Nat→Nat) (v:Nat):Lp (pD lw F v)∧(pD lw F v).1≤6∧(pD lw F v).2≤6:=⟨Lp.pq (zby _ _),zfp lw F v⟩
theorem aw_okh (lw:Nat) (F:Nat→Nat) (v:Nat):Lp (pE lw F v)∧(pE lw F v).1≤6∧(pE lw F v).2≤6:=⟨Lp.pq (zby _ _),zfq lw F v⟩
theorem aw_in (lw:Nat) (F:Nat→Nat) (n:Nat):WtIn n (qK lw F (n+1)) (qL lw F (n+1)):=small_in (aw_ok lw F) (aw_okh lw F)
theorem zjV {n:Nat} {f g:Nat→Pr} (hn:n≤128) (hf:∀ v,(f v).1≤6∧(f v).2≤6) (hg:∀ v,(g v).1≤6∧(g v).2≤6):¬ 16384<zK ((List.range (n+1)).map f) n+zK ((List.range (n+1)).map g) n:=by
 have e:∀ (f:Nat→Pr),(∀ v,(f v).1≤6∧(f v).2≤6)→zK ((List.range (n+1)).map f) n≤6*n:=fun f hf=>zf8 (fun k=>by
  rw [zck];split
  ·exact zeS (Nat.le_trans (hf k).1 (by decide)) (Nat.le_trans (hf k).2 (by decide))
  ·exact zeS (by decide) (by decide)) n
 have a:=e f hf;have b:=e g hg;omega
theorem oA (lw:Nat) (F:Nat→Nat) (n:Nat) (hn:n≤128):¬ 16384<zK (qK lw F (n+1)) n+zK (qL lw F (n+1)) n:=zjV hn (zfp lw F) (zfq lw F)
theorem zgS {N:Nt} {n:Nat} {lo hi:List Pr} (hb:¬ 16384<zK lo n+zK hi n):yc N n lo hi=qu N:=by
 unfold yc;rw [if_neg hb];split
 ·rename_i h;exact h.symm
 ·rfl
section
variable {N:Nt} {n:Nat} {lo hi:List Pr}
theorem zf6 (ok:WtOk n lo hi) (hv:zG N=true) (hd:qt N=true) (hs:qJ N=true) (hn:N.n=(n:Int)):Sm qP (qp ((RP n lo hi).sum N)):=by
 obtain ⟨hn0,hn1,hl0,hl1⟩:=qN hv;have:=zjg ok.wb hv hd hs hn N.l.length (zu _) (N.l.length-1) (by omega) (qo N.n) (fun x hx=>by
  have:=zds hv N.l.length (N.l.length-1) (by omega) (by omega) x hx;rw [p6];exact decide_eq_true (by omega)) 128
 rw [List.take_length,List.take_of_length_le (zct _)] at this;rw [zhM ok];exact this
theorem Sp.canon {p:Pr} (h:Lp p) (hs:Sp p):Sp (pq (qp p)):=by
 refine ⟨?_,?_⟩
 ·show n8 (qn (qq p.1 p.2))≤_;rw [← h.1];exact hs.1
 ·show n8 (qq p.1 p.2).den≤_;rcases h.2 with e | ⟨e1,e2⟩
  ·rw [← e];exact hs.2
  ·rw [e1,e2,show qq 0 0=0 from rfl];exact Nat.le_trans (ja (by decide)) (by decide)
theorem Sp.sm {q:Rat} (h:Sm (2*qP) q):Sp (pq q) :=
 ⟨zhx _ (2*qP) 100000 h.2.1 (by have:=zhb;omega),zhx _ (2*qP) 100000 h.2.2 (by have:=zhb;omega)⟩
theorem Sm.up {a b:Nat} {q:Rat} (h:Sm a q) (hab:a≤b):Sm b q:=⟨h.1,Nat.lt_of_lt_of_le h.2.1 (Nat.pow_le_pow_right (by decide) hab),Nat.lt_of_lt_of_le h.2.2 (Nat.pow_le_pow_right (by decide) hab)⟩
theorem zj4 {a b:Rat} (a0:0≤a) (b0:0≤b):a / b=qq (qn a*qd b.den) (qd a.den*qn b)∨a / b=0:=by
 by_cases hz:qn b=0
 ·refine Or.inr ?_;have:b=0:=by
   have h:=js b0;rw [← h,hz];simp [qq]
  rw [this,Rat.div_def,Rat.inv_zero,Rat.mul_zero]
 ·left;rw [jC (qn a) a.den (qn b) b.den (by omega),js a0,js b0]
theorem zfe {a b:Rat} (ha:0≤a) (hb:0≤b):0≤a / b:=by
 rcases zj4 ha hb with e | e
 ·rw [e];exact zby _ _
 ·rw [e];exact Rat.le_refl
theorem Sm.div {a b:Rat} (ha:Sm qP a) (hb:Sm qP b):Sm (2*qP) (a / b):=by
 obtain ⟨a0,a1,a2⟩:=ha;obtain ⟨b0,b1,b2⟩:=hb;have e:=zj4 a0 b0;rcases e with e | e
 ·rw [e];have two:(2:Nat)^(2*qP)=2^qP*2^qP:=by rw [← Nat.pow_add];congr 1;omega
  refine Sm.of ?_ ?_
  ·rw [two,qM b.den_pos];exact Nat.mul_lt_mul_of_lt_of_lt a1 b2
  ·have h1:qd (qd a.den*qn b)≤max 1 (qd a.den*qn b):=by
    generalize qd a.den*qn b=z;unfold qd;split <;> omega
   have h2:qd a.den*qn b<2^(2*qP):=by rw [two,qM a.den_pos];exact Nat.mul_lt_mul_of_lt_of_lt a2 b1
   have h3:1<2^(2*qP):=Nat.one_lt_two_pow (by have:=zhc;have:=jZ;omega);omega
 ·rw [e];exact ⟨Rat.le_refl,by show qn 0<_;exact Nat.two_pow_pos _,by show 1<_;exact Nat.one_lt_two_pow (by have:=zhc;have:=jZ;omega)⟩
theorem gS {k:Nat} (h1:1≤k) (h2:k≤n):(yM N n lo hi n).getD k (0,0)=(RP n (z6 n lo [-(k:Int)]) (z8 n hi [-(k:Int)])).sum N:=by
 unfold yM;rw [zck,if_pos (by omega),if_neg (by omega)]
theorem zj1 {k:Nat} (h1:1≤k) (h2:k≤n):(yw N n lo hi n).getD k (0,0)=pq (qp ((RP n lo hi).sum N)-qp ((RP n (z6 n lo [-(k:Int)]) (z8 n hi [-(k:Int)])).sum N)):=by
 unfold yw;rw [zck,if_pos (by omega),if_neg (by omega)]
theorem lh_sum (hW:WtIn n lo hi) (hb:¬ 16384<zK lo n+zK hi n) (hv:zG N=true) (hd:qt N=true) (hs:qJ N=true) (hn:N.n=(n:Int)) {k:Nat} (h1:1≤k) (h2:k≤n) :
  qp ((yM N n lo hi n).getD k (0,0))+qp ((yw N n lo hi n).getD k (0,0))=qp ((RP n lo hi).sum N)∧Sp ((yM N n lo hi n).getD k (0,0))∧Sp ((yw N n lo hi n).getD k (0,0)):=by
 rw [gS h1 h2,zj1 h1 h2];have ha:=zgs hW hb hv hd hn k h1 h2;have ok:=hW.okT hb [-(k:Int)];have ok2:=hW.okT hb [(k:Int)];have e:qp ((RP n lo hi).sum N)-qp ((RP n (z6 n lo [-(k:Int)]) (z8 n hi [-(k:Int)])).sum N)=qp ((RP n (z6 n lo [(k:Int)]) (z8 n hi [(k:Int)])).sum N):=by rw [ha];grind
 rw [e,zij (yY _)];exact ⟨by rw [ha];exact Rat.add_comm _ _,zeG ok hv hd hs hn,(zeG ok2 hv hd hs hn).canon (RP_Lp ok2 N)⟩
def yI (N:Nt) (n:Nat) (lo hi:List Pr) (t:List Int):Pr:=(RP n (z6 n lo t) (z8 n hi t)).sum N
def shP (N:Nt) (n:Nat) (lo hi:List Pr) (t:List Int):Pr:=pq (qp (yI N n lo hi t) / qp ((RP n lo hi).sum N))
theorem xI {t:List Int} (ht:yj N.n t=true) (hE:yc N n lo hi=0) (h0:((RP n lo hi).sum N).1≠0):yE N n lo hi t=(shP N n lo hi t,0):=by
 unfold yE;rw [if_pos ht,if_pos hE,if_neg h0];rfl
theorem zia {t:List Int} (ht:yj N.n t=true) (hE:yc N n lo hi=0) (h0:((RP n lo hi).sum N).1=0):yE N n lo hi t=((0,0),3):=by
 unfold yE;rw [if_pos ht,if_pos hE,if_pos h0]
theorem sh_sp (hW:WtIn n lo hi) (hb:¬ 16384<zK lo n+zK hi n) (hv:zG N=true) (hd:qt N=true) (hs:qJ N=true) (hn:N.n=(n:Int)) (t:List Int):Lp (shP N n lo hi t)∧Sp (shP N n lo hi t) :=
 ⟨Lp.pq (zfe (yY _) (yY _)),Sp.sm ((zf6 (hW.okT hb t) hv hd hs hn).div (zf6 (hW.ok hb) hv hd hs hn))⟩
theorem zeP {p:Pr} (h:Lp p):qp p=0↔p.1=0:=by
 constructor
 ·intro e;have h1:=h.1;have e2:qq p.1 p.2=0:=e;rw [e2] at h1;exact h1
 ·intro e;show qq p.1 p.2=0;unfold qq;rw [e];simp
end
end Cs
end
section
open Go Go.RowKit Cs
namespace Cs
theorem zh7 {w w':World} {a:Addr} (v:Value) (h:w'.heap[a.block]?=w.heap[a.block]?):(w'.setCell a v).heap[a.block]?=(w.setCell a v).heap[a.block]?:=by
 unfold World.setCell;simp only [Array.getElem?_modify,h]
theorem zjC {D:Nat} {w w':World} (h:Below D w w') (a:Addr) (v:Value):Below D (w.setCell a v) (w'.setCell a v) :=
 ⟨h.os,h.tape,h.output,by rw [yW,yW];exact h.size,fun k hk=>by
   by_cases e:k=a.block
   ·subst e;exact zh7 v (h.block _ hk)
   ·rw [Below.heap_setCell _ _ _ _ e,Below.heap_setCell _ _ _ _ e];exact h.block k hk⟩
theorem Bag.both {w wr:World} {D:Nat} {R:List (Nat×TypeId×Nat×Array Value)} (h:Bag w w D R wr) (b:Nat) (v:Value) (hR:∀ r∈R,r.1≠b):Bag (w.setCell ⟨b,0,none⟩ v) (w.setCell ⟨b,0,none⟩ v) D R (wr.setCell ⟨b,0,none⟩ v) :=
 ⟨fun r hr=>(h.rows r hr).setOther (hR r hr) _,zjC h.base _ _,by rw [yW];exact zjC h.bl _ _,by rw [yW];exact h.le,by rw [yW];exact h.wD⟩
end Cs
end
section
open Go Go.RowKit Cs
namespace Go
structure Kp (w:World) (l:List (Nat×TypeId×Nat×(Nat→Value))) (W:World):Prop where
 bl:Below w.heap.size w W
 rows:∀ r∈l,W.rowIs r.1 r.2.1 r.2.2.1 r.2.2.2
section
variable {w W W':World} {l:List (Nat×TypeId×Nat×(Nat→Value))} {g n:Nat} {t:TypeId} {f:Nat→Value}
theorem Kp.nil (w:World):Kp w [] w:=⟨zx _ _,fun _ h=>(nomatch h)⟩
theorem Kp.below (h:Kp w l W) (hb:Below W.heap.size W W'):Kp w l W':=⟨zw h.bl hb h.bl.size,fun r hr=>zo (h.rows r hr) hb⟩
theorem Kp.add (h:Kp w l W) (hr:W.rowIs g t n f):Kp w ((g,t,n,f)::l) W:=⟨h.bl,fun r hr'=>by
 rcases List.mem_cons.1 hr' with rfl | hr'
 ·exact hr
 ·exact h.rows r hr'⟩
theorem Kp.row (h:Kp w l W) (i:Nat) (hi:l[i]?=some (g,t,n,f)):W.rowIs g t n f:=h.rows _ (List.mem_of_getElem? hi)
theorem Kp.alloc (h:Kp w l W) (o:Obj):Kp w l (W.alloc o):=h.below ((zx _ _).alloc (zu _) _)
theorem Kp.new (h:Kp w l W) (cs:Array Value) (t:TypeId) (g k:Nat) (hg:W.heap.size=g) (hk:cs.size=k):Kp w ((g,t,k,zy cs)::l) (W.alloc (.cells cs t)):=(h.alloc _).add (zF W cs t g k hg hk)
end
end Go
end
