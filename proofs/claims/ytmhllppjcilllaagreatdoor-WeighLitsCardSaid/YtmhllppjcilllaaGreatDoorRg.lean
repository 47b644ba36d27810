import Derived.Test.YtmhllppjcilllaaGreatDoorRf
import Derived.Test.YtmhllppjcilllaaGreatDoorRE
set_option linter.unusedSimpArgs false
set_option linter.unusedVariables false
set_option maxRecDepth 100000
set_option maxHeartbeats 4000000
open Go Go.RowKit Cs
namespace Cs
def qb (q:Rat):Nat:=nd 2 (qn q)+nd 2 q.den
def qbs (lo hi:List Rat):Nat→Nat
 | 0=>0
 | k+1=>qbs lo hi k+qb (lo.getD (k+1) 0)+qb (hi.getD (k+1) 0)
end Cs
namespace Go.Proofs.YtmhllppjcilllaaGreatDoor
theorem zja (w:World) (q:Rat) (hq:Dg q):Calls Tryz.prog 83 #[zS q] w fun e w'=>e = .returned (.int .i64 ((qb q:Nat):Int))∧Below w.heap.size w w':=by
 have h1:=fun W=>ziW W (qn q) (by have:=hq.2.1;omega);have h2:=fun W=>ziW W q.den (by have:=hq.2.2;omega);have k1:=zio (qn q) 400000 hq.2.1;have k2:=zio q.den 400000 hq.2.2;unfold qb zS;generalize nd 2 (qn q)=x at *
 generalize nd 2 q.den=y at *
 generalize qn q=a at *
 generalize q.den=b at *
 have q0:=(Kp.nil w).new #[.string (zc a),.string (zc b)] 42 w.heap.size 2 rfl rfl;have s1:World.cell? _ ⟨w.heap.size,0,none⟩=some (.string (zc a)):=(q0.row 0 rfl).cell (i:=0) (by decide);have s2:World.cell? _ ⟨w.heap.size,1,none⟩=some (.string (zc b)):=(q0.row 0 rfl).cell (i:=1) (by decide);have hxy:IntKind.i64.wrap ((x:Int)+(y:Int))=((x+y:Nat):Int):=by rw [IntKind.wrap_i64];omega
 have H1:=zb h1;have H2:=zb h2;have BL:=zb q0.bl;clear h1 h2 hq q0 k1 k2;go_enter Tryz.func83, Tryz.ntmps83;go_upto_region 1 with (fail)
 obtain ⟨V,hV⟩:∃ V,w.alloc (.cells #[.string (zc a),.string (zc b)] 42)=V:=⟨_,rfl⟩;obtain ⟨b1,hb1⟩:∃ b,w.heap.size=b:=⟨_,rfl⟩;have g1:=World.block_lt_of_cell? _ _ s1;rw [hV] at s1 s2 g1 BL ⊢;simp only [hb1] at s1 s2 g1 ⊢;clear hV hb1;have HS:Hid (∀ W,Below V.heap.size V W→W.cell? ⟨b1,0,none⟩=some (.string (zc a))∧W.cell? ⟨b1,1,none⟩=some (.string (zc b))):=zb fun W hb=>⟨zC hb s1 g1,zC hb s2 g1⟩;refine yx (n:=_) (PX:=[zl (.pointer (some ⟨b1,0,none⟩)),
    zl (.string (zc a)),
    zl (.int .i64 (x:Int)),
    zl (.pointer (some ⟨b1,1,none⟩)),
    zl (.string (zc b)),
    zl (.int .i64 (y:Int)),
    zl (.int .i64 ((x+y:Nat):Int)),
    zl (.int .i64 ((x+y:Nat):Int))])
   (AL:=[]) (DP:=[[],[0],[1],[],[3],[4],[2,5],[6]]) (L1:=[0,1,2,3,4,5,6,7]) (ex:=[]) (by kernel_rfl) rfl (by kernel_rfl) ?_ ?_ (yH ?_)
 ·repeat' first|exact zW|refine zk ?_ ?_|exact fun _ _ _ _ h _=>h
 ·refine zk (zv rfl [] ?_) (zk (zv rfl [(0,some 3)] ?_) (zk ?_ (zk (zv rfl [] ?_) (zk (zv rfl [(3,some 6)] ?_) (zk ?_ (zk (zv rfl [(2,some 5),(5,some 8)] ?_) (zk (zv rfl [(6,some 9)] ?_) zW)))))));all_goals try (intro vs W hW hd K hK;(try simp only [qa,zl,and_true,List.getD_cons_succ,List.getD_cons_zero] at hd);(first | simp only [hd,zm,Act.put,zj,zi,zh,zg,zf,ze] at hK ⊢ | simp only [zm,Act.put,zj,zi,zh,zg,zf,ze] at hK ⊢ | skip);obtain ⟨m1,m2⟩:=HS.out W hW;go_simp;exact hK.out _ _ rfl (zx _ _) (qU rfl))
  ·refine zJ rfl [(1,some 4)] ?_;intro vs W hW hd K hK;have d1:vs 1 = .string (zc a):=hd 1 (by decide);clear hd;try simp only [d1,zm,Act.put,zj,zi,zh,zg,zf,ze] at hK ⊢
   go_simp;go_at_call 127;(with_reducible first | refine (H1.out _).mono ?_);rintro e w9 ⟨rfl,hb9⟩;exact hK.out _ _ (rfl) hb9 (fun h=>absurd h (by decide))
  ·refine zJ rfl [(4,some 7)] ?_;intro vs W hW hd K hK;have d4:vs 4 = .string (zc b):=hd 4 (by decide);clear hd;try simp only [d4,zm,Act.put,zj,zi,zh,zg,zf,ze] at hK ⊢
   go_simp;go_at_call 127;(with_reducible first | refine (H2.out _).mono ?_);rintro e w9 ⟨rfl,hb9⟩;exact hK.out _ _ (rfl) hb9 (fun h=>absurd h (by decide))
 refine qQ [(0,some 3),(1,some 4),(2,some 5),(3,some 6),(4,some 7),(5,some 8),(6,some 9),(7,some 2)] #[true,true,true,true,true,true,true,true] 0 ?_;intro vs Wf hW hd hbk hdis kf;simp only [qa,zl,and_true,List.getD_cons_succ,List.getD_cons_zero] at hd;obtain ⟨d0,d1,d2,d3,d4,d5,d6,d7⟩:=hd;clear hbk hdis;try simp only [d0,d1,d2,d3,d4,d5,d6,d7,zm,Act.put,zj,zi,zh,zg,zf,ze]
 clear d0 d1 d2 d3 d4 d5 d6 d7 vs;clear HS;refine qc (by kernel_rfl) ?_ _;all_goals
  try go_wp2
  go_ret;exact ⟨rfl,zw BL.out hW BL.out.size⟩
structure CkS (w:World) (N:Nt) (A:Option Addr) (c ll lh cl ch:Nat) (Al Ah:Option Addr) (W:World):Prop where
 fn:W.rowIs w.heap.size 24 2 (zy #[.int .i64 N.n,.slice A N.l.length c])
 fw:W.rowIs (w.heap.size+1) 47 2 (zy #[.slice Al ll cl,.slice Ah lh ch])
 bl:Below w.heap.size w W
section
variable {w W W':World} {N:Nt} {A Al Ah:Option Addr} {c ll lh cl ch:Nat}
theorem CkS.below (h:CkS w N A c ll lh cl ch Al Ah W) (hb:Below W.heap.size W W'):CkS w N A c ll lh cl ch Al Ah W':=⟨zo h.fn hb,zo h.fw hb,zw h.bl hb h.bl.size⟩
theorem CkS.cells (h:CkS w N A c ll lh cl ch Al Ah W):W.cell? ⟨w.heap.size,0,none⟩=some (.int .i64 N.n)∧W.cell? ⟨w.heap.size,1,none⟩=some (.slice A N.l.length c)∧W.cell? ⟨w.heap.size+1,0,none⟩=some (.slice Al ll cl)∧W.cell? ⟨w.heap.size+1,1,none⟩=some (.slice Ah lh ch) :=
 ⟨h.fn.cell (i:=0) (by decide),h.fn.cell (i:=1) (by decide),h.fw.cell (i:=0) (by decide),h.fw.cell (i:=1) (by decide)⟩
theorem CkS.new (w:World) (N:Nt) (A:Option Addr) (c ll lh cl ch:Nat) (Al Ah:Option Addr):CkS w N A c ll lh cl ch Al Ah ((w.alloc (.cells #[.int .i64 N.n,.slice A N.l.length c] 24)).alloc (.cells #[.slice Al ll cl,.slice Ah lh ch] 47)):=by
 have p0:=(Kp.nil w).new #[.int .i64 N.n,.slice A N.l.length c] 24 w.heap.size 2 rfl rfl;have p1:=p0.new #[.slice Al ll cl,.slice Ah lh ch] 47 (w.heap.size+1) 2 (by simp) rfl;exact ⟨p1.row 1 rfl,p1.row 0 rfl,p1.bl⟩
end
theorem gB (w:World) (N:Nt) (A:Option Addr) (c ll lh cl ch:Nat) (Al Ah:Option Addr) (hlen:N.l.length≤140737488355328) (hN:NtAt w w.heap.size A N.l)
  (hbad:zG N=false∨(zG N=true∧¬ (ll:Int)=N.n+1)∨(zG N=true∧(ll:Int)=N.n+1∧¬ (lh:Int)=N.n+1)) :
  Calls Tryz.prog 38 #[qg N A c,.agg #[.slice Al ll cl,.slice Ah lh ch]] w fun e w'=>e = .returned (.int .i64 1)∧Below w.heap.size w w':=by
 have x0:=CkS.new w N A c ll lh cl ch Al Ah;have hv:∀ W,Below w.heap.size w W→_:=fun W h=>zdn W N A c hlen ((hN.below h).more h.size);obtain ⟨c1,c2,c3,c4⟩:=x0.cells;have HV:=zb hv;have X0:=zb x0;clear hv x0 hN hlen;rcases hbad with h | ⟨h,h1⟩ | ⟨h,h1,h2⟩
 ·rw [h] at HV;clear h;go_enter Tryz.func38, Tryz.ntmps38;go_wp2_with (go_at_call 51;(with_reducible refine (HV.out _ X0.out.bl).mono ?_);rintro e w1 ⟨rfl,hb1⟩;have X1:=zb (X0.out.below hb1);clear hb1 X0 c1 c2 c3 c4;obtain ⟨c1,c2,c3,c4⟩:=X1.out.cells)
  go_ret;exact ⟨rfl,X1.out.bl⟩
 ·obtain ⟨hn0,hn1,_,_⟩:=qN h;rw [h] at HV;have hw1:IntKind.i64.wrap (N.n+1)=N.n+1:=by rw [IntKind.wrap_i64];omega
  have e1:((ll:Int) != N.n+1)=true:=by simpa using h1
  have e2:¬ ((ll:Int)=N.n+1):=h1;have e3:((ll:Int)==N.n+1)=false:=by simpa using h1
  clear h hn0 hn1;go_enter Tryz.func38, Tryz.ntmps38;go_wp2_with (go_at_call 51;(with_reducible refine (HV.out _ X0.out.bl).mono ?_);rintro e w1 ⟨rfl,hb1⟩;have X1:=zb (X0.out.below hb1);clear hb1 X0 c1 c2 c3 c4;obtain ⟨c1,c2,c3,c4⟩:=X1.out.cells)
  go_ret;exact ⟨rfl,X1.out.bl⟩
 ·obtain ⟨hn0,hn1,_,_⟩:=qN h;rw [h] at HV;have hw1:IntKind.i64.wrap (N.n+1)=N.n+1:=by rw [IntKind.wrap_i64];omega
  have e0:((ll:Int) != N.n+1)=false:=by simp [h1]
  have e1:((lh:Int) != N.n+1)=true:=by simpa using h2
  have e2:¬ ((lh:Int)=N.n+1):=h2;have e3:((lh:Int)==N.n+1)=false:=by simpa using h2
  clear h hn0 hn1 h1;go_enter Tryz.func38, Tryz.ntmps38;go_wp2_with (go_at_call 51;(with_reducible refine (HV.out _ X0.out.bl).mono ?_);rintro e w1 ⟨rfl,hb1⟩;have X1:=zb (X0.out.below hb1);clear hb1 X0 c1 c2 c3 c4;obtain ⟨c1,c2,c3,c4⟩:=X1.out.cells)
  go_ret;exact ⟨rfl,X1.out.bl⟩
theorem ck_step (n k:Nat) (h:k<n+1) (hn:n≤1000):Value.int .i64 (wrap64 ((k:Int)+1)) = .int .i64 ((k+1:Nat):Int):=by
 rw [IntWalk.wrap64_in _ (by omega)];rfl
theorem ck_meas (n k:Nat) (h:k<n+1) (hn:n≤1000):n+1-(intOf (.int .i64 (wrap64 ((k:Int)+1)))).toNat<n+1-(intOf (.int .i64 (k:Int))).toNat:=by
 rw [IntWalk.wrap64_in _ (by omega)];have h6:((k:Int)+1).toNat=k+1:=by omega
 simp only [intOf,h6,Int.toNat_natCast];omega
theorem gA (w:World) (N:Nt) (A:Option Addr) (c n cl ch:Nat) (lo hi:List Rat) (Al Ah:Option Addr) (hlen:N.l.length≤140737488355328) (hN:NtAt w w.heap.size A N.l) (hv:zG N=true) (hn:N.n=(n:Int))
  (hlo:Rd w w.heap.size Al ((n+1)*2) (zL lo)) (hhi:Rd w w.heap.size Ah ((n+1)*2) (zL hi)) (hc1:n+1≤cl) (hc2:n+1≤ch) (hdl:∀ k,Dg (lo.getD k 0)) (hdh:∀ k,Dg (hi.getD k 0)) (hb:∀ j,j≤n→qbs lo hi j≤16384) :
  Calls Tryz.prog 38 #[qg N A c,.agg #[.slice Al (n+1) cl,.slice Ah (n+1) ch]] w fun e w'=>e = .returned (.int .i64 (qu N))∧Below w.heap.size w w':=by
 have HNS:=zb (show n≤1000 by have:=(qN hv).2.1;omega);obtain ⟨l,ol,rfl,hbl,hcl⟩:=hlo (by omega);obtain ⟨h,oh,rfl,hbh,hch⟩:=hhi (by omega);obtain ⟨hn0,hn1,_,_⟩:=qN hv;have x0:=CkS.new w N A c (n+1) (n+1) cl ch (some ⟨l,ol,none⟩) (some ⟨h,oh,none⟩);have hva:∀ W,Below w.heap.size w W→_:=fun W h=>zdn W N A c hlen ((hN.below h).more h.size);have hca:∀ W,Below w.heap.size w W→_:=fun W h=>zkf W N A c hlen ((hN.below h).more h.size);rw [hv] at hva;have hlc:∀ W,Below w.heap.size w W→∀ k,k<n+1→W.cell? ⟨l,ol+k*2,none⟩=some (.string (zc (qn (lo.getD k 0))))∧W.cell? ⟨l,ol+k*2+1,none⟩=some (.string (zc (lo.getD k 0).den)):=fun W hW k hk =>
  ⟨(zB hW hbl (hcl (k*2) (by omega))).trans (by rw [oP]),(zB hW hbl (hcl (k*2+1) (by omega))).trans (by rw [oQ])⟩
 have hhc:∀ W,Below w.heap.size w W→∀ k,k<n+1→W.cell? ⟨h,oh+k*2,none⟩=some (.string (zc (qn (hi.getD k 0))))∧W.cell? ⟨h,oh+k*2+1,none⟩=some (.string (zc (hi.getD k 0).den)):=fun W hW k hk =>
  ⟨(zB hW hbh (hch (k*2) (by omega))).trans (by rw [oP]),(zB hW hbh (hch (k*2+1) (by omega))).trans (by rw [oQ])⟩
 obtain ⟨c1,c2,c3,c4⟩:=x0.cells;have hw1:IntKind.i64.wrap (N.n+1)=N.n+1:=by rw [IntKind.wrap_i64];omega
 have e0:((n:Int)+1 != N.n+1)=false:=by simp;omega
 have e00:(((n+1:Nat):Int) != N.n+1)=false:=by simp;omega
 have HLC:=zb hlc;have HHC:=zb hhc;have HV:=zb hva;have HC:=zb hca;have HDL:=zb hdl;have HDH:=zb hdh;have HBT:=zb hb;have HNN:=zb hn;have HN1:=zb hn1;have HC1:=zb hc1;have HC2:=zb hc2;have HBL:=zb hbl;have HBH:=zb hbh;have X0:=zb x0;clear hlc hhc hva hca hdl hdh hb hn hn0 hn1 hc1 hc2 hbl hbh x0 hN hlen hv hlo hhi hcl hch;obtain ⟨E,hE⟩:∃ E,qu N=E:=⟨_,rfl⟩;rw [hE] at HC ⊢;clear hE;by_cases h0:E=0
 case neg =>
  have e1:(E != 0)=true:=bne_iff_ne.2 h0;have e2:(E==0)=false:=beq_eq_false_iff_ne.2 h0;go_enter Tryz.func38, Tryz.ntmps38;go_wp2_with (first
   | (go_at_call 51;(with_reducible refine (HV.out _ X0.out.bl).mono ?_);rintro e w1 ⟨rfl,hb1⟩;have X1:=zb (X0.out.below hb1);clear hb1 X0 c1 c2 c3 c4;obtain ⟨c1,c2,c3,c4⟩:=X1.out.cells)
   | (go_at_call 82;(with_reducible refine (HC.out _ X1.out.bl).mono ?_);rintro e w2 ⟨rfl,hb2⟩;have X2:=zb (X1.out.below hb2);clear hb2 X1 c1 c2 c3 c4;obtain ⟨c1,c2,c3,c4⟩:=X2.out.cells))
  go_ret;exact ⟨rfl,X2.out.bl⟩
 subst h0;go_enter Tryz.func38, Tryz.ntmps38;go_wp2_with (first
  | (go_at_call 51;(with_reducible refine (HV.out _ X0.out.bl).mono ?_);rintro e w1 ⟨rfl,hb1⟩;have X1:=zb (X0.out.below hb1);clear hb1 X0 c1 c2 c3 c4;obtain ⟨c1,c2,c3,c4⟩:=X1.out.cells)
  | (go_at_call 82;(with_reducible refine (HC.out _ X1.out.bl).mono ?_);rintro e w2 ⟨rfl,hb2⟩;have X2:=zb (X1.out.below hb2);clear hb2 X1 c1 c2 c3 c4;obtain ⟨c1,c2,c3,c4⟩:=X2.out.cells))
 clear e0 e00 hw1;go_loopw [6,7] (fun u v wr=>∃ k:Nat,1≤k∧k≤n+1∧u = .int .i64 ((qbs lo hi (k-1):Nat):Int)∧v = .int .i64 (k:Int)∧CkS w N A c (n+1) (n+1) cl ch (some ⟨l,ol,none⟩) (some ⟨h,oh,none⟩) wr) (fun _ v _=>n+1-(intOf v).toNat)
 case atStart=>exact ⟨1,zu _,by omega,rfl,rfl,X2.out⟩
 case round =>
  clear X2 c1 c2 c3 c4;obtain ⟨k,hk1,hk,rfl,rfl,hq⟩:=hrel;obtain ⟨c1,c2,c3,c4⟩:=hq.cells;by_cases hlt:k<n+1
  ·have hc:decide ((k:Int)≤N.n)=true:=decide_eq_true (by have:=HNN.out;omega);obtain ⟨j,hj⟩:∃ j,k=j+1:=⟨k-1,by omega⟩;have hst:qbs lo hi k=qbs lo hi (k-1)+qb (lo.getD k 0)+qb (hi.getD k 0):=by rw [hj];rfl
   have hbk:=HBT.out k (by omega);have hdl:=fun W=>zja W (lo.getD k 0) (HDL.out k);have hdh:=fun W=>zja W (hi.getD k 0) (HDH.out k);obtain ⟨s3,s4⟩:=HLC.out wr hq.bl k hlt;obtain ⟨s5,s6⟩:=HHC.out wr hq.bl k hlt;unfold zS at hdl hdh;obtain ⟨t,ht⟩:∃ t,qbs lo hi (k-1)=t:=⟨_,rfl⟩;obtain ⟨dl,hdl'⟩:∃ t,qb (lo.getD k 0)=t:=⟨_,rfl⟩;obtain ⟨dh,hdh'⟩:∃ t,qb (hi.getD k 0)=t:=⟨_,rfl⟩;rw [ht,hdl',hdh'] at hst;rw [hst] at hbk;rw [ht];simp only [hdl'] at hdl;simp only [hdh'] at hdh;obtain ⟨la,e1⟩:∃ x,qn (lo.getD k 0)=x:=⟨_,rfl⟩;obtain ⟨lb,e2⟩:∃ x,(lo.getD k 0).den=x:=⟨_,rfl⟩;obtain ⟨pa,e3⟩:∃ x,qn (hi.getD k 0)=x:=⟨_,rfl⟩;obtain ⟨pb,e4⟩:∃ x,(hi.getD k 0).den=x:=⟨_,rfl⟩;simp only [e1,e2] at hdl s3 s4;simp only [e3,e4] at hdh s5 s6;have hw2:IntKind.i64.wrap ((t:Int)+(dl:Int))=(t:Int)+(dl:Int):=by rw [IntKind.wrap_i64];omega
   have hw4:IntKind.i64.wrap ((t:Int)+(dl:Int)+(dh:Int))=(t:Int)+(dl:Int)+(dh:Int):=by rw [IntKind.wrap_i64];omega
   have HDL2:=zb hdl;have HDH2:=zb hdh;have HST:=zb hst;have X3:=zb hq;have HLT:=zb hlt;have g3:=hq.fw.lt;have gl:=World.block_lt_of_cell? _ _ s3;have gh:=World.block_lt_of_cell? _ _ s5;have hkn:(k:Int)<(n:Int)+1:=by omega
   clear hdl hdh hst hq hlt ht hdl' hdh' e1 e2 e3 e4 hj;go_upto_region 10 with (fail)
   have s1:=c3;have s2:=c4;clear c1 c2 c3 c4;go_cut [6] from 40 to 54 (fun p wx=>p = .int .i64 ((t:Int)+(dl:Int)+(dh:Int))∧Below wr.heap.size wr wx)
   case first =>
    have HS:Hid (∀ W,Below wr.heap.size wr W→W.cell? ⟨w.heap.size+1,0,none⟩=some (.slice (some ⟨l,ol,none⟩) (n+1) cl)∧W.cell? ⟨w.heap.size+1,1,none⟩=some (.slice (some ⟨h,oh,none⟩) (n+1) ch)∧W.cell? ⟨l,ol+k*2,none⟩=some (.string (zc la))∧W.cell? ⟨l,ol+k*2+1,none⟩=some (.string (zc lb))∧W.cell? ⟨h,oh+k*2,none⟩=some (.string (zc pa))∧W.cell? ⟨h,oh+k*2+1,none⟩=some (.string (zc pb))):=zb fun W hb=>⟨zC hb s1 g3,zC hb s2 g3,zC hb s3 gl,zC hb s4 gl,zC hb s5 gh,zC hb s6 gh⟩;refine yx (n:=_) (PX:=[zl (.int .i64 (t:Int)),
       zl (.pointer (some ⟨w.heap.size+1,0,none⟩)),
       zl (.slice (some ⟨l,ol,none⟩) (n+1) cl),
       zl (.int .i64 (k:Int)),
       zl (.pointer (some ⟨l,ol+k*2,none⟩)),
       zl (.agg #[.string (zc la),.string (zc lb)]),
       zl (.int .i64 (dl:Int)),
       zl (.int .i64 ((t:Int)+(dl:Int))),
       zl (.pointer (some ⟨w.heap.size+1,1,none⟩)),
       zl (.slice (some ⟨h,oh,none⟩) (n+1) ch),
       zl (.int .i64 (k:Int)),
       zl (.pointer (some ⟨h,oh+k*2,none⟩)),
       zl (.agg #[.string (zc pa),.string (zc pb)]),
       zl (.int .i64 (dh:Int)),
       zl (.int .i64 ((t:Int)+(dl:Int)+(dh:Int)))])
      (AL:=[]) (DP:=[[],[],[1],[],[2,3],[4],[5],[0,6],[],[8],[],[9,10],[11],[12],[7,13]]) (L1:=[0,1,2,3,4,5,6,7,8,9,10,11,12,13,14]) (ex:=[]) (by kernel_rfl) rfl (by kernel_rfl) ?_ ?_ (yH ?_)
    ·repeat' first|exact zW|refine zk ?_ ?_|exact fun _ _ _ _ h _=>h
    ·refine zk (zv rfl [] ?_) (zk (zv rfl [] ?_) (zk (zv rfl [(1,some 41)] ?_) (zk (zv rfl [] ?_) (zk (zv rfl [(2,some 42),(3,some 43)] ?_) (zk (zv rfl [(4,some 44)] ?_) (zk ?_ (zk (zv rfl [(0,some 40),(6,some 46)] ?_) (zk (zv rfl [] ?_) (zk (zv rfl [(8,some 48)] ?_) (zk (zv rfl [] ?_) (zk (zv rfl [(9,some 49),(10,some 50)] ?_) (zk (zv rfl [(11,some 51)] ?_) (zk ?_ (zk (zv rfl [(7,some 47),(13,some 53)] ?_) zW))))))))))))));all_goals try (intro vs W hW hd K hK;(try simp only [qa,zl,and_true,List.getD_cons_succ,List.getD_cons_zero] at hd);(first | simp only [hd,zm,Act.put,zj,zi,zh,zg,zf,ze] at hK ⊢ | simp only [zm,Act.put,zj,zi,zh,zg,zf,ze] at hK ⊢ | skip);obtain ⟨m1,m2,m3,m4,m5,m6⟩:=HS.out W hW;go_simp;exact hK.out _ _ rfl (zx _ _) (qU rfl))
     ·refine zJ rfl [(5,some 45)] ?_;intro vs W hW hd K hK;have d5:vs 5 = .agg #[.string (zc la),.string (zc lb)]:=hd 5 (by decide);clear hd;try simp only [d5,zm,Act.put,zj,zi,zh,zg,zf,ze] at hK ⊢
      go_simp;go_at_call 83;(with_reducible first | refine (HDL2.out _).mono ?_);rintro e w9 ⟨rfl,hb9⟩;exact hK.out _ _ (rfl) hb9 (fun h=>absurd h (by decide))
     ·refine zJ rfl [(12,some 52)] ?_;intro vs W hW hd K hK;have d12:vs 12 = .agg #[.string (zc pa),.string (zc pb)]:=hd 12 (by decide);clear hd;try simp only [d12,zm,Act.put,zj,zi,zh,zg,zf,ze] at hK ⊢
      go_simp;go_at_call 83;(with_reducible first | refine (HDH2.out _).mono ?_);rintro e w9 ⟨rfl,hb9⟩;exact hK.out _ _ (rfl) hb9 (fun h=>absurd h (by decide))
    refine qQ [(0,some 40),(1,some 41),(2,some 42),(3,some 43),(4,some 44),(5,some 45),(6,some 46),(7,some 47),(8,some 48),(9,some 49),(10,some 50),(11,some 51),(12,some 52),(13,some 53),(14,some 54)] #[true,true,true,true,true,true,true,true,true,true,true,true,true,true,true,false] 1 ?_;intro vs Wf hW hd hbk hdis kf;simp only [qa,zl,and_true,List.getD_cons_succ,List.getD_cons_zero] at hd;obtain ⟨d0,d1,d2,d3,d4,d5,d6,d7,d8,d9,d10,d11,d12,d13,d14⟩:=hd;clear hbk hdis;try simp only [d0,d1,d2,d3,d4,d5,d6,d7,d8,d9,d10,d11,d12,d13,d14,zm,Act.put,zj,zi,zh,zg,zf,ze]
    clear d0 d1 d2 d3 d4 d5 d6 d7 d8 d9 d10 d11 d12 d13 d14 vs;clear HS;refine zE 15 (by kernel_rfl) rfl (fun K hK=>?_);go_simp;refine hK.out _ _ ?_;clear hK K;try simp only [zm,Act.put,zj,zi,zh,zg,zf,ze]
    refine qc (by kernel_rfl) ?_ _;all_goals
     go_wp2;go_meet;exact ⟨rfl,hW⟩
   case rest =>
   obtain ⟨rfl,hb5⟩:=hcut;have hz:(t:Int)+(dl:Int)+(dh:Int)=((t+dl+dh:Nat):Int):=by omega
   rw [hz];have hgt:decide ((16384:Int)<((t+dl+dh:Nat):Int))=false:=decide_eq_false (by omega);clear s1 s2 s3 s4 s5 s6 hz hw2 hw4;obtain ⟨T,hTT⟩:∃ T,t+dl+dh=T:=⟨_,rfl⟩;rw [hTT] at hgt ⊢;have HTT:=zb hTT;clear hTT;go_wp2;go_roundw
   case rel=>exact ⟨k+1,Nat.le_add_left 1 k,Nat.succ_le_of_lt HLT.out,by rw [Nat.add_sub_cancel,HST.out,HTT.out],ck_step n k HLT.out HNS.out,X3.out.below hb5⟩
   case measure=>exact ck_meas n k HLT.out HNS.out
  ·have hc:decide ((k:Int)≤N.n)=false:=decide_eq_false (by have:=HNN.out;omega);have XQ:=zb hq;clear hq;go_wp2_with fail
   go_ret;exact ⟨rfl,XQ.out.bl⟩
end Go.Proofs.YtmhllppjcilllaaGreatDoor
