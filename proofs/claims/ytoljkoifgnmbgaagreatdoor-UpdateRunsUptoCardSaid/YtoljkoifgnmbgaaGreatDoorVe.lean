import Derived.Test.YtoljkoifgnmbgaaGreatDoorV2
import Derived.WalkMore
import Derived.Deep.CutBlock
import Derived.Deep.CutRange
set_option linter.unusedSimpArgs false
set_option linter.unusedVariables false
set_option maxRecDepth 100000
set_option maxHeartbeats 8000000
open Go Go.RowKit Cs
namespace Go.Proofs.YtoljkoifgnmbgaaGreatDoor
theorem new1_any (w:World) (i:Int):Calls Tryz.prog 53 #[.int .i64 i] w fun e w'=>e = .returned (.bool true)∧Below w.heap.size w w':=by
 go_enter Tryz.func53, Tryz.ntmps53;go_wp2;go_ret;exact ⟨rfl,zA _ _⟩
section
variable {D E:Nat} {g:Sg} {N:Nt} {n:Nat} {lo hi:List Pr} {tv:Value} {T:List Int} {k:Int} {C1 C2 C3:List Nat} {P1 P2 P3:List Pr}
theorem set1_any (w:World) (sb vb v i:Nat) (h:SsAt w D E g N n lo hi tv T k C1 C2 C3 P1 P2 P3) (hsb:w.cell? ⟨sb,0,none⟩=some (.pointer (some ⟨g.b,0,none⟩))) (hvb:w.cell? ⟨vb,0,none⟩=some (.int .i64 (v:Int))) (hil:i<N.l.length) :
  Calls Tryz.prog 105 #[.int .i64 (i:Int),.pointer (some ⟨sb,0,none⟩),.pointer (some ⟨vb,0,none⟩)] w fun e w'=>e = .returned (.bool (pH ((own N.l).getD i 0) (v:Int)))∧Below w.heap.size w w':=by
 have hbw:=h.lt;have s1:=hsb;have c2:w.cell? ⟨g.b,2,none⟩=some (.slice g.O N.l.length g.cO):=h.cell 2 (by decide) _ rfl;obtain ⟨bO,oO,eO,hbO,hcO⟩:=h.ro.now.2.1 (by omega);rw [eO] at c2;have s2:=c2;have s3:w.cell? ⟨bO,oO+i*2,none⟩=some (.int .u64 (Cs.lo ((own N.l).getD i 0):Int)):=(hcO (i*2) (by omega)).trans (by rw [zfv]);have s4:w.cell? ⟨bO,oO+i*2+1,none⟩=some (.int .u64 (Cs.hi ((own N.l).getD i 0):Int)):=(hcO (i*2+1) (by omega)).trans (by rw [zfu]);have s5:=hvb;have hsbl:=World.block_lt_of_cell? _ _ hsb;have hvbl:=World.block_lt_of_cell? _ _ hvb;generalize (own N.l).getD i 0=s at *
 have i1:(0:Int)≤(i:Int):=by omega
 have i2:(i:Int)<(N.l.length:Int):=by omega
 clear h c2 hcO hsb hvb eO;go_enter Tryz.func105, Tryz.ntmps105;go_wp2_with fail
 have HS:Hid (∀ W,Below w.heap.size w W→W.cell? ⟨sb,0,none⟩=some (.pointer (some ⟨g.b,0,none⟩))∧W.cell? ⟨g.b,2,none⟩=some (.slice (some ⟨bO,oO,none⟩) N.l.length g.cO)∧W.cell? ⟨bO,oO+i*2,none⟩=some (.int .u64 (Cs.lo s:Int))∧W.cell? ⟨bO,oO+i*2+1,none⟩=some (.int .u64 (Cs.hi s:Int))∧W.cell? ⟨vb,0,none⟩=some (.int .i64 (v:Int))):=za fun W hb=>⟨zy hb s1 hsbl,zy hb s2 hbw,zy hb s3 hbO,zy hb s4 hbO,zy hb s5 hvbl⟩;refine yc (n:=_) (PX:=[zc (.pointer (some ⟨g.b,0,none⟩)),
    zc (.pointer (some ⟨g.b,0,none⟩)),
    zc (.pointer (some ⟨g.b,2,none⟩)),
    zc (.slice (some ⟨bO,oO,none⟩) N.l.length g.cO),
    zc (.int .i64 (i:Int)),
    zc (.pointer (some ⟨bO,oO+i*2,none⟩)),
    zc (zY s),
    zc (.int .i64 (v:Int)),
    zc (.bool (pH s v)),
    zc (.bool (pH s v))])
   (AL:=[]) (DP:=[[],[0],[1],[2],[],[3,4],[5],[],[6,7],[8]]) (L1:=[0,1,2,3,4,5,6,7,8,9]) (ex:=[]) (by kernel_rfl) rfl (by kernel_rfl) ?_ ?_ (yf ?_)
 ·repeat' first|exact zO|refine ze ?_ ?_|exact fun _ _ _ _ h _=>h
 ·refine ze (zg rfl [] ?_) (ze (zg rfl [(0,some 5)] ?_) (ze (zg rfl [(1,some 6)] ?_) (ze (zg rfl [(2,some 7)] ?_) (ze (zg rfl [] ?_) (ze (zg rfl [(3,some 8),(4,some 9)] ?_) (ze (zg rfl [(5,some 10)] ?_) (ze (zg rfl [] ?_) (ze ?_ (ze (zg rfl [(8,some 13)] ?_) zO)))))))));all_goals try (intro vs W hW hd K hK;(try simp only [zR,zc,and_true,List.getD_cons_succ,List.getD_cons_zero] at hd);(first | simp only [hd,zo,Act.put,zx,zw,zv,zm,zl,zk] at hK ⊢ | simp only [zo,Act.put,zx,zw,zv,zm,zl,zk] at hK ⊢ | skip);obtain ⟨m1,m2,m3,m4,m5⟩:=HS.out W hW;go_simp;exact hK.out _ _ rfl (zA _ _) (qS rfl))
  ·refine qo rfl [(6,some 11),(7,some 12)] ?_;intro vs W hW hd K hK;have d6:vs 6=zY s:=hd 6 (by decide);have d7:vs 7 = .int .i64 (v:Int):=hd 7 (by decide);clear hd;try simp only [d6,d7,zo,Act.put,zx,zw,zv,zm,zl,zk] at hK ⊢
   go_simp;go_at_call 106;(with_reducible first | refine (has_any _ _ _).mono ?_);rintro e w9 ⟨rfl,hb9⟩;exact hK.out _ _ (rfl) hb9 (fun h=>absurd h (by decide))
 refine qT [(0,some 5),(1,some 6),(2,some 7),(3,some 8),(4,some 9),(5,some 10),(6,some 11),(7,some 12),(8,some 13),(9,some 4)] #[true,true,true,true,true,true,true,true,true,true] 0 ?_;intro vs Wf hW hd hbk hdis kf;simp only [zR,zc,and_true,List.getD_cons_succ,List.getD_cons_zero] at hd;obtain ⟨d0,d1,d2,d3,d4,d5,d6,d7,d8,d9⟩:=hd;clear hbk hdis;try simp only [d0,d1,d2,d3,d4,d5,d6,d7,d8,d9,zo,Act.put,zx,zw,zv,zm,zl,zk]
 clear d0 d1 d2 d3 d4 d5 d6 d7 d8 d9 vs;clear HS;refine qV (by kernel_rfl) ?_ _;all_goals
  try go_wp2
  go_ret;exact ⟨rfl,hW⟩
theorem zjy (w:World) (h:SsAt w D E g N n lo hi tv T k C1 C2 C3 P1 P2 P3) (hT:Tab w) (hTb:1<D) (hv:zC N=true) (hd:qv N=true) (hs:qQ N=true) (hn:N.n=(n:Int))
  (h1:∀ k,C1.getD k 0≤1) (h2:∀ k,C2.getD k 0≤1) (hW:WtOk n P1 P2) (hp1:∀ k,Sp (P1.getD k (0,0))) (hp2:∀ k,Sp (P2.getD k (0,0))) (sel:Nat→Bool) (hsel:sel=fun _=>true)
  (CA:List Nat) (PA:List Pr) (hCA:CA=(RL n C1 C2).all (own N.l) N.l) (hPA:PA=(RP n P1 P2).all (own N.l) N.l) (hs3:∀ j,n8 (C3.getD j 0)≤100000) (hsp:∀ j,Sp (P3.getD j (0,0)))
  (hC:∀ j,j<N.l.length→sel j=false→C3.getD j 0=CA.getD j 0) (hP:∀ j,j<N.l.length→sel j=false→P3.getD j (0,0)=PA.getD j (0,0)) :
  Calls Tryz.prog 52 #[.pointer (some ⟨g.b,0,none⟩),.func (.func 53) #[] #[]] w fun e w'=>e = .returned (.tuple #[])∧SsAt w' D E g N n lo hi tv T (qU sel N.l.length:Nat) C1 C2 CA P1 P2 PA∧Keep [g.b,g.bL,g.pL] w w':=by
 obtain ⟨hn0,hn1,hl0,hl1⟩:=qD hv;have hn128:=yF hv hn;have hac:∀ j,n8 (CA.getD j 0)≤100000:=fun j=>by rw [hCA];exact n8_s (zgQ h1 h2 hs j)
 have hap:∀ j,Sp (PA.getD j (0,0)):=fun j=>by
  rw [hPA];have e:(RP n P1 P2).all (own N.l) N.l=scan ((RP n P1 P2).step (own N.l)) [] (N.l.take N.l.length):=by rw [List.take_length];rfl
  rw [e];exact p_at hW hv hd hs hn N.l.length (zi _) j
 have hcl:CA.length=N.l.length:=by rw [hCA];exact zhG _ _
 have hpl:PA.length=N.l.length:=by rw [hPA];exact zhG _ _
 have hnn:∀ (i:Nat) (hil:i<N.l.length) W k X Y,SsAt W D E g N n lo hi tv T k C1 C2 X P1 P2 Y→Tab W→(∀ j,j<i→X.getD j 0=CA.getD j 0)→(∀ j,i≤j→X.getD j 0=C3.getD j 0) →
   Calls Tryz.prog 95 #[.pointer (some ⟨g.b,5,none⟩),.agg #[.int .i64 (n:Int),.slice g.A N.l.length g.cA],.slice g.O N.l.length g.cO,.int .i64 (i:Int)] W fun e w'=>e = .returned (zD (CA.getD i 0))∧Below W.heap.size W w':=fun i hil W k X Y hq hTW ha hb=>by
  rw [← hn];exact zkm hq hTW hv hs hn h1 h2 i hil (fun j hj=>by rw [ha j hj,hCA]) (fun j=>by
   rcases Nat.lt_or_ge j i with hj | hj
   ·rw [ha j hj];exact hac j
   ·rw [hb j hj];exact hs3 j) _ (by rw [hCA])
 have hqn:∀ (i:Nat) (hil:i<N.l.length) W k X Y,SsAt W D E g N n lo hi tv T k C1 C2 X P1 P2 Y→Tab W→(∀ j,j<i→Y.getD j (0,0)=PA.getD j (0,0))→(∀ j,i≤j→Y.getD j (0,0)=P3.getD j (0,0)) →
   Calls Tryz.prog 96 #[.pointer (some ⟨g.b,11,none⟩),.agg #[.int .i64 (n:Int),.slice g.A N.l.length g.cA],.slice g.O N.l.length g.cO,.int .i64 (i:Int)] W fun e w'=>e = .returned (zZ (PA.getD i (0,0)).1 (PA.getD i (0,0)).2)∧Below W.heap.size W w':=fun i hil W k X Y hq hTW ha hb=>by
  rw [← hn];exact zjX hq hTW hv hd hs hn hW hp1 hp2 i hil (fun j hj=>by rw [ha j hj,hPA]) (fun j=>by
   rcases Nat.lt_or_ge j i with hj | hj
   ·rw [ha j hj];exact hap j
   ·rw [hb j hj];exact hsp j) _ (by rw [hPA])
 have HNQ:=za hnn;have HQQ:=za hqn;have HSEL:=za hsel;have HC:=za hC;have HP:=za hP;have HNN:=za hn;have HCL:=za hcl;have HPL:=za hpl;have hk0:w.cell? ⟨g.b,4,none⟩=some (.int .i64 k):=h.cell 4 (by decide) _ rfl;have hkf:=h.row.frozen 4;have c1:w.cell? ⟨g.b,1,none⟩=some (.slice g.A N.l.length g.cA):=h.cell 1 (by decide) _ rfl;have q0:=h.setK ((0:Nat):Int);have kp0:Keep [g.b,g.bL,g.pL] w (w.setCell ⟨g.b,4,none⟩ (.int .i64 ((0:Nat):Int))):=(Keep.refl _ _).set (Or.inl (by simp)) _;have HT:Hid (∀ W,Keep [g.b,g.bL,g.pL] w W→Tab W):=za fun W hk j hj=>(zej (hk.block _ hT.lt (by
  have a1:=h.ok.bD;have a2:=h.ok.bE;have a3:=h.ok.rE g.bL (by simp [Sg.rows]);have a4:=h.ok.rE g.pL (by simp [Sg.rows]);simp;omega))).trans (hT j hj)
 have hbw:=h.lt


 clear hnn hqn hsel hC hP hcl hpl hCA hPA hac hap hn hn0 hl0 h;go_enter Tryz.func52, Tryz.ntmps52;go_upto_region 1 with (fail)
 go_cut [13,14] from 8 to 14 (fun x y wx=>x = .int .i64 (N.l.length:Int)∧y = .int .i64 0∧SsAt wx D E g N n lo hi tv T ((0:Nat):Int) C1 C2 C3 P1 P2 P3∧Keep [g.b,g.bL,g.pL] w wx)
 case first =>
  go_wp2_with fail
  go_meet;exact ⟨by go_num,rfl,q0,kp0⟩
 case rest =>
 obtain ⟨rfl,rfl,q0,kp0⟩:=hcut;go_wp2_with fail
 go_loopw [14] (fun t wr=>∃ i:Nat,i≤N.l.length∧t = .int .i64 (i:Int)∧∃ X Y,SsAt wr D E g N n lo hi tv T (qU sel i:Nat) C1 C2 X P1 P2 Y∧(∀ j,j<i→X.getD j 0=CA.getD j 0)∧(∀ j,i≤j→X.getD j 0=C3.getD j 0)∧(∀ j,j<i→Y.getD j (0,0)=PA.getD j (0,0))∧(∀ j,i≤j→Y.getD j (0,0)=P3.getD j (0,0))∧Keep [g.b,g.bL,g.pL] w wr) (fun t _=>N.l.length-(intOf t).toNat)
 case atStart=>exact ⟨0,Nat.zero_le _,rfl,C3,P3,q0,fun _ hj=>absurd hj (by omega),fun _ _=>rfl,fun _ hj=>absurd hj (by omega),fun _ _=>rfl,kp0⟩
 case round =>
 clear q0 kp0;obtain ⟨i,hil,rfl,X,Y,q,hX,hX',hY,hY',kp⟩:=hrel;by_cases hlt:i<N.l.length
 ·have hcs:∀ W,Below wr.heap.size wr W→Calls Tryz.prog 53 #[.int .i64 (i:Int)] W fun e w'=>e = .returned (.bool (sel i))∧Below W.heap.size W w':=fun W hb=>by rw [HSEL.out];exact new1_any W _
  have i1:(0:Int)≤(i:Int):=by omega
  have i2:(i:Int)<(N.l.length:Int):=by omega
  by_cases hsel:sel i=true
  ·have hk2:qU sel (i+1)=qU sel i+1:=by show qU sel i+(if sel i=true then 1 else 0)=_;rw [if_pos hsel]
   have hcs:∀ W,Below wr.heap.size wr W→Calls Tryz.prog 53 #[.int .i64 (i:Int)] W fun e w'=>e = .returned (.bool true)∧Below W.heap.size W w':=by rw [← hsel];exact hcs
   have hbn:qU sel i≤i:=zhc sel i;obtain ⟨m,hm⟩:∃ m,qU sel i=m:=⟨_,rfl⟩;rw [hm] at q hbn hk2;have hkc:wr.cell? ⟨g.b,4,none⟩=some (.int .i64 (m:Int)):=q.cell 4 (by decide) _ rfl;have hbw:=q.lt;have hw1:IntKind.i64.wrap ((m:Int)+1)=(m:Int)+1:=by rw [IntKind.wrap_i64];omega
   have q1:=q.setK ((m:Int)+1);have HCS:=za hcs;have HQ:=za q;have HI:=za (And.intro hX (And.intro hX' (And.intro hY (And.intro hY' (And.intro hlt hk2)))));have HKP:=za kp;clear hcs q hX hX' hY hY' kp hk2 q1 hsel hm;go_upto_region 4 with (fail)
   go_cut [19] from 17 to 19 (fun x wx=>x = .bool true∧Below wr.heap.size wr wx)
   case first =>
    go_wp2_with fail
    refine (HCS.out _ (zA _ _)).mono ?_;rintro e w9 ⟨rfl,hb9⟩;go_wp2;go_meet;exact ⟨rfl,hb9⟩
   case rest =>
   obtain ⟨rfl,hb1⟩:=hcut;have q:=HQ.out.below hb1;have kp:=HKP.out.below hb1;have hkc:wc.cell? ⟨g.b,4,none⟩=some (.int .i64 (m:Int)):=q.cell 4 (by decide) _ rfl;have hkf:=q.row.frozen 4;have hbw:=q.lt;have q1:=q.setK ((m:Int)+1);have kp1:=kp.set (p:=⟨g.b,4,none⟩) (Or.inl (by simp)) (.int .i64 ((m:Int)+1));have HQ1:=za q1;have HKP1:=za kp1;have HTB:=za hT;clear q kp q1 kp1;go_upto_region 5 with (fail)
   go_cut [] from 20 to 26 (fun wx=>SsAt wx D E g N n lo hi tv T ((m:Int)+1) C1 C2 X P1 P2 Y∧Keep [g.b,g.bL,g.pL] w wx)
   case first =>
    go_wp2_with fail
    go_meet;exact ⟨HQ1.out,HKP1.out⟩
   case rest =>
   obtain ⟨q,kp⟩:=hcut;clear HQ1 HKP1 hkc hkf hb1 hbw;have HLX:=za q.l3;have HLY:=za q.q3;obtain ⟨y,hy⟩:∃ y,CA.getD i 0=y:=⟨_,rfl⟩;obtain ⟨z,hz⟩:∃ z,PA.getD i (0,0)=z:=⟨_,rfl⟩;have HY0:=za hy;have HZ0:=za hz;have hnc:=fun W (hb:Below wc.heap.size wc W)=>HNQ.out i hlt W _ X Y (q.below hb) ((HT.out _ kp).below hb) HI.out.1 HI.out.2.1;rw [hy] at hnc;have HNC:=za hnc;clear hnc hy;have s2:wc.cell? ⟨g.b,0,none⟩=some (.int .i64 (n:Int)):=by rw [← HNN.out];exact q.cell 0 (by decide) _ rfl
   have s1:wc.cell? ⟨g.b,10,none⟩=some (.slice (some ⟨g.bL,0,none⟩) N.l.length g.cL):=q.cell 10 (by decide) _ rfl;have s3:wc.cell? ⟨g.b,1,none⟩=some (.slice g.A N.l.length g.cA):=q.cell 1 (by decide) _ rfl;have s4:wc.cell? ⟨g.b,2,none⟩=some (.slice g.O N.l.length g.cO):=q.cell 2 (by decide) _ rfl;have hbw:=q.lt;have HQ:=za q;have HKP2:=za kp;go_upto_region 6 with (fail)
   go_cut [] from 27 to 46 (fun wx=>SsAt wx D E g N n lo hi tv T ((m:Int)+1) C1 C2 (X.set i y) P1 P2 Y∧Keep [g.b,g.bL,g.pL] w wx)
   case first =>
    have HS:Hid (∀ W,Below wc.heap.size wc W→W.cell? ⟨g.b,10,none⟩=some (.slice (some ⟨g.bL,0,none⟩) N.l.length g.cL)∧W.cell? ⟨g.b,0,none⟩=some (.int .i64 (n:Int))∧W.cell? ⟨g.b,1,none⟩=some (.slice g.A N.l.length g.cA)∧W.cell? ⟨g.b,2,none⟩=some (.slice g.O N.l.length g.cO)):=za fun W hb=>⟨zy hb s1 hbw,zy hb s2 hbw,zy hb s3 hbw,zy hb s4 hbw⟩;refine yc (n:=_) (PX:=[zc (.pointer (some ⟨g.b,0,none⟩)),
       zc (.pointer (some ⟨g.b,0,none⟩)),
       zc (.pointer (some ⟨g.b,5,none⟩)),
       zc (.pointer (some ⟨g.b,10,none⟩)),
       zc (.slice (some ⟨g.bL,0,none⟩) N.l.length g.cL),
       zc (.int .i64 (i:Int)),
       zc (.pointer (some ⟨g.b,0,none⟩)),
       zc (.pointer (some ⟨g.b,0,none⟩)),
       zc (.pointer (some ⟨g.b,5,none⟩)),
       zc (.pointer (some ⟨g.b,0,none⟩)),
       zc (.pointer (some ⟨g.b,0,none⟩)),
       zc (.pointer (some ⟨g.b,0,none⟩)),
       zc (.agg #[.int .i64 (n:Int),.slice g.A N.l.length g.cA]),
       zc (.pointer (some ⟨g.b,0,none⟩)),
       zc (.pointer (some ⟨g.b,0,none⟩)),
       zc (.pointer (some ⟨g.b,2,none⟩)),
       zc (.slice g.O N.l.length g.cO),
       zc (.int .i64 (i:Int)),
       zc (zD y),
       zc (.pointer (some ⟨g.bL,i,none⟩))])
      (AL:=[]) (DP:=[[],[0],[1],[2],[3],[],[],[6],[7],[],[9],[10],[11],[],[13],[14],[15],[],[8,12,16,17],[4,5]]) (L1:=[0,1,2,3,4,5,6,7,8,9,10,11,12,13,14,15,16,17,18,19]) (ex:=[]) (by kernel_rfl) rfl (by kernel_rfl) ?_ ?_ (yf ?_)
    ·repeat' first|exact zO|refine ze ?_ ?_|exact fun _ _ _ _ h _=>h
    ·refine ze (zg rfl [] ?_) (ze (zg rfl [(0,some 27)] ?_) (ze (zg rfl [(1,some 28)] ?_) (ze (zg rfl [(2,some 29)] ?_) (ze (zg rfl [(3,some 30)] ?_) (ze (zg rfl [] ?_) (ze (zg rfl [] ?_) (ze (zg rfl [(6,some 33)] ?_) (ze (zg rfl [(7,some 34)] ?_) (ze (zg rfl [] ?_) (ze (zg rfl [(9,some 36)] ?_) (ze (zg rfl [(10,some 37)] ?_) (ze (zg rfl [(11,some 38)] ?_) (ze (zg rfl [] ?_) (ze (zg rfl [(13,some 40)] ?_) (ze (zg rfl [(14,some 41)] ?_) (ze (zg rfl [(15,some 42)] ?_) (ze (zg rfl [] ?_) (ze ?_ (ze (zg rfl [(4,some 31),(5,some 32)] ?_) zO)))))))))))))))))));all_goals try (intro vs W hW hd K hK;(try simp only [zR,zc,and_true,List.getD_cons_succ,List.getD_cons_zero] at hd);(first | simp only [hd,zo,Act.put,zx,zw,zv,zm,zl,zk] at hK ⊢ | simp only [zo,Act.put,zx,zw,zv,zm,zl,zk] at hK ⊢ | skip);obtain ⟨m1,m2,m3,m4⟩:=HS.out W hW;go_simp;exact hK.out _ _ rfl (zA _ _) (qS rfl))
     ·refine qo rfl [(8,some 35),(12,some 39),(16,some 43),(17,some 44)] ?_;intro vs W hW hd K hK;have d8:vs 8 = .pointer (some ⟨g.b,5,none⟩):=hd 8 (by decide);have d12:vs 12 = .agg #[.int .i64 (n:Int),.slice g.A N.l.length g.cA]:=hd 12 (by decide);have d16:vs 16 = .slice g.O N.l.length g.cO:=hd 16 (by decide);have d17:vs 17 = .int .i64 (i:Int):=hd 17 (by decide);clear hd;try simp only [d8,d12,d16,d17,zo,Act.put,zx,zw,zv,zm,zl,zk] at hK ⊢
      go_simp;go_at_call 95;(with_reducible first | refine (HNC.out _ hW).mono ?_);rintro e w9 ⟨rfl,hb9⟩;exact hK.out _ _ (rfl) hb9 (fun h=>absurd h (by decide))
    refine qT [(0,some 27),(1,some 28),(2,some 29),(3,some 30),(4,some 31),(5,some 32),(6,some 33),(7,some 34),(8,some 35),(9,some 36),(10,some 37),(11,some 38),(12,some 39),(13,some 40),(14,some 41),(15,some 42),(16,some 43),(17,some 44),(18,some 45),(19,some 46)] #[true,true,true,true,true,true,true,true,true,true,true,true,true,true,true,true,true,true,true,true,false] 1 ?_;intro vs Wf hW hd hbk hdis kf;simp only [zR,zc,and_true,List.getD_cons_succ,List.getD_cons_zero] at hd;obtain ⟨d0,d1,d2,d3,d4,d5,d6,d7,d8,d9,d10,d11,d12,d13,d14,d15,d16,d17,d18,d19⟩:=hd;clear hbk hdis;try simp only [d0,d1,d2,d3,d4,d5,d6,d7,d8,d9,d10,d11,d12,d13,d14,d15,d16,d17,d18,d19,zo,Act.put,zx,zw,zv,zm,zl,zk]
    clear d0 d1 d2 d3 d4 d5 d6 d7 d8 d9 d10 d11 d12 d13 d14 d15 d16 d17 d18 d19 vs;clear HS;have qf:=q.below hW;have kf:=qf.c3.cells qf.ok.hcL i hlt;obtain ⟨c0,z0⟩:=kf;refine qt 20 (by kernel_rfl) rfl (fun K hK=>?_);go_simp;refine hK.out _ _ ?_;clear hK K;try simp only [zo,Act.put,zx,zw,zv,zm,zl,zk]
    refine qV (by kernel_rfl) ?_ _;all_goals
     try go_wp2
     go_meet;exact ⟨qf.setC3 i y (by rw [qf.l3];exact hlt),(HKP2.out.below hW).set (Or.inl (by simp)) _⟩
   case rest =>
   obtain ⟨q,kp⟩:=hcut;clear s1 s2 s3 s4 HQ HKP2 HNC hbw;have hnc:=fun W (hb:Below wc.heap.size wc W)=>HQQ.out i hlt W _ (X.set i y) Y (q.below hb) ((HT.out _ kp).below hb) HI.out.2.2.1 HI.out.2.2.2.1;rw [hz] at hnc;obtain ⟨yn,yd⟩:=z;have HNC:=za hnc;clear hnc hz;have s2:wc.cell? ⟨g.b,0,none⟩=some (.int .i64 (n:Int)):=by rw [← HNN.out];exact q.cell 0 (by decide) _ rfl
   have s1:wc.cell? ⟨g.b,17,none⟩=some (.slice (some ⟨g.pL,0,none⟩) N.l.length g.dL):=q.cell 17 (by decide) _ rfl;have s3:wc.cell? ⟨g.b,1,none⟩=some (.slice g.A N.l.length g.cA):=q.cell 1 (by decide) _ rfl;have s4:wc.cell? ⟨g.b,2,none⟩=some (.slice g.O N.l.length g.cO):=q.cell 2 (by decide) _ rfl;have hbw:=q.lt;have HQ:=za q;have HKP2:=za kp;clear q kp;go_wp2_with fail
   have HS:Hid (∀ W,Below wc.heap.size wc W→W.cell? ⟨g.b,17,none⟩=some (.slice (some ⟨g.pL,0,none⟩) N.l.length g.dL)∧W.cell? ⟨g.b,0,none⟩=some (.int .i64 (n:Int))∧W.cell? ⟨g.b,1,none⟩=some (.slice g.A N.l.length g.cA)∧W.cell? ⟨g.b,2,none⟩=some (.slice g.O N.l.length g.cO)):=za fun W hb=>⟨zy hb s1 hbw,zy hb s2 hbw,zy hb s3 hbw,zy hb s4 hbw⟩;refine yc (n:=_) (PX:=[zc (.pointer (some ⟨g.b,0,none⟩)),
      zc (.pointer (some ⟨g.b,0,none⟩)),
      zc (.pointer (some ⟨g.b,11,none⟩)),
      zc (.pointer (some ⟨g.b,17,none⟩)),
      zc (.slice (some ⟨g.pL,0,none⟩) N.l.length g.dL),
      zc (.int .i64 (i:Int)),
      zc (.pointer (some ⟨g.b,0,none⟩)),
      zc (.pointer (some ⟨g.b,0,none⟩)),
      zc (.pointer (some ⟨g.b,11,none⟩)),
      zc (.pointer (some ⟨g.b,0,none⟩)),
      zc (.pointer (some ⟨g.b,0,none⟩)),
      zc (.pointer (some ⟨g.b,0,none⟩)),
      zc (.agg #[.int .i64 (n:Int),.slice g.A N.l.length g.cA]),
      zc (.pointer (some ⟨g.b,0,none⟩)),
      zc (.pointer (some ⟨g.b,0,none⟩)),
      zc (.pointer (some ⟨g.b,2,none⟩)),
      zc (.slice g.O N.l.length g.cO),
      zc (.int .i64 (i:Int)),
      zc (zZ yn yd),
      zc (.pointer (some ⟨g.pL,i*2,none⟩))])
     (AL:=[]) (DP:=[[],[0],[1],[2],[3],[],[],[6],[7],[],[9],[10],[11],[],[13],[14],[15],[],[8,12,16,17],[4,5]]) (L1:=[0,1,2,3,4,5,6,7,8,9,10,11,12,13,14,15,16,17,18,19]) (ex:=[]) (by kernel_rfl) rfl (by kernel_rfl) ?_ ?_ (yf ?_)
   ·repeat' first|exact zO|refine ze ?_ ?_|exact fun _ _ _ _ h _=>h
   ·refine ze (zg rfl [] ?_) (ze (zg rfl [(0,some 47)] ?_) (ze (zg rfl [(1,some 48)] ?_) (ze (zg rfl [(2,some 49)] ?_) (ze (zg rfl [(3,some 50)] ?_) (ze (zg rfl [] ?_) (ze (zg rfl [] ?_) (ze (zg rfl [(6,some 53)] ?_) (ze (zg rfl [(7,some 54)] ?_) (ze (zg rfl [] ?_) (ze (zg rfl [(9,some 56)] ?_) (ze (zg rfl [(10,some 57)] ?_) (ze (zg rfl [(11,some 58)] ?_) (ze (zg rfl [] ?_) (ze (zg rfl [(13,some 60)] ?_) (ze (zg rfl [(14,some 61)] ?_) (ze (zg rfl [(15,some 62)] ?_) (ze (zg rfl [] ?_) (ze ?_ (ze (zg rfl [(4,some 51),(5,some 52)] ?_) zO)))))))))))))))))));all_goals try (intro vs W hW hd K hK;(try simp only [zR,zc,and_true,List.getD_cons_succ,List.getD_cons_zero] at hd);(first | simp only [hd,zo,Act.put,zx,zw,zv,zm,zl,zk] at hK ⊢ | simp only [zo,Act.put,zx,zw,zv,zm,zl,zk] at hK ⊢ | skip);obtain ⟨m1,m2,m3,m4⟩:=HS.out W hW;go_simp;exact hK.out _ _ rfl (zA _ _) (qS rfl))
    ·refine qo rfl [(8,some 55),(12,some 59),(16,some 63),(17,some 64)] ?_;intro vs W hW hd K hK;have d8:vs 8 = .pointer (some ⟨g.b,11,none⟩):=hd 8 (by decide);have d12:vs 12 = .agg #[.int .i64 (n:Int),.slice g.A N.l.length g.cA]:=hd 12 (by decide);have d16:vs 16 = .slice g.O N.l.length g.cO:=hd 16 (by decide);have d17:vs 17 = .int .i64 (i:Int):=hd 17 (by decide);clear hd;try simp only [d8,d12,d16,d17,zo,Act.put,zx,zw,zv,zm,zl,zk] at hK ⊢
     go_simp;go_at_call 96;(with_reducible first | refine (HNC.out _ hW).mono ?_);rintro e w9 ⟨rfl,hb9⟩;exact hK.out _ _ (rfl) hb9 (fun h=>absurd h (by decide))
   refine qT [(0,some 47),(1,some 48),(2,some 49),(3,some 50),(4,some 51),(5,some 52),(6,some 53),(7,some 54),(8,some 55),(9,some 56),(10,some 57),(11,some 58),(12,some 59),(13,some 60),(14,some 61),(15,some 62),(16,some 63),(17,some 64),(18,some 65),(19,some 66)] #[true,true,true,true,true,true,true,true,true,true,true,true,true,true,true,true,true,true,true,true,false] 1 ?_;intro vs Wf hW hd hbk hdis kf;simp only [zR,zc,and_true,List.getD_cons_succ,List.getD_cons_zero] at hd;obtain ⟨d0,d1,d2,d3,d4,d5,d6,d7,d8,d9,d10,d11,d12,d13,d14,d15,d16,d17,d18,d19⟩:=hd;clear hbk hdis;try simp only [d0,d1,d2,d3,d4,d5,d6,d7,d8,d9,d10,d11,d12,d13,d14,d15,d16,d17,d18,d19,zo,Act.put,zx,zw,zv,zm,zl,zk]
   clear d0 d1 d2 d3 d4 d5 d6 d7 d8 d9 d10 d11 d12 d13 d14 d15 d16 d17 d18 d19 vs;clear HS;have qf:=HQ.out.below hW;have kf:=qf.p3.cells (Nat.mul_le_mul_right 2 qf.ok.hdL) i hlt;obtain ⟨c0,c1,z0,z1⟩:=kf;refine qt 20 (by kernel_rfl) rfl (fun K hK=>?_);go_simp;refine hK.out _ _ ?_;clear hK K;try simp only [zo,Act.put,zx,zw,zv,zm,zl,zk]
   refine qV (by kernel_rfl) ?_ _;have q:=qf.setP3 i (yn,yd) (by rw [qf.q3];exact hlt);have kp:=((HKP2.out.below hW).set (p:=⟨g.pL,i*2,none⟩) (Or.inl (by simp)) (.string (zb yn))).set (p:=⟨g.pL,i*2+1,none⟩) (Or.inl (by simp)) (.string (zb yd));try go_wp2
   go_roundw
   case rel =>
    refine ⟨i+1,by omega,by go_num,X.set i y,Y.set i (yn,yd),?_,?_,?_,?_,?_,kp⟩
    ·rw [HI.out.2.2.2.2.2];exact q
    ·intro j hj;rw [zbD _ _ _ _ (by rw [← HLX.out] at hlt;exact hlt)];split
     ·rename_i e;rw [e,← HY0.out]
     ·exact HI.out.1 j (by omega)
    ·intro j hj;rw [zbD _ _ _ _ (by rw [← HLX.out] at hlt;exact hlt),if_neg (by omega)];exact HI.out.2.1 j (by omega)
    ·intro j hj;rw [zbD _ _ _ _ (by rw [← HLY.out] at hlt;exact hlt)];split
     ·rename_i e;rw [e,← HZ0.out]
     ·exact HI.out.2.2.1 j (by omega)
    ·intro j hj;rw [zbD _ _ _ _ (by rw [← HLY.out] at hlt;exact hlt),if_neg (by omega)];exact HI.out.2.2.2.1 j (by omega)
   case measure=>simp [intOf];omega
  ·have hk2:qU sel (i+1)=qU sel i:=by show qU sel i+(if sel i=true then 1 else 0)=_;rw [if_neg hsel];rfl
   have hf:sel i=false:=by simpa using hsel
   have hcs:∀ W,Below wr.heap.size wr W→Calls Tryz.prog 53 #[.int .i64 (i:Int)] W fun e w'=>e = .returned (.bool false)∧Below W.heap.size W w':=by rw [← hf];exact hcs
   have HCS:=za hcs;have HQ:=za q;have HI:=za (And.intro hX (And.intro hX' (And.intro hY (And.intro hY' (And.intro hlt (And.intro hk2 hf))))));have HKP:=za kp;clear hcs q hX hX' hY hY' kp hk2 hsel hf;go_upto_region 4 with (fail)
   go_cut [19] from 17 to 19 (fun x wx=>x = .bool false∧Below wr.heap.size wr wx)
   case first =>
    go_wp2_with fail
    refine (HCS.out _ (zA _ _)).mono ?_;rintro e w9 ⟨rfl,hb9⟩;go_wp2;go_meet;exact ⟨rfl,hb9⟩
   case rest =>
   obtain ⟨rfl,hb1⟩:=hcut;go_wp2;go_roundw
   case rel =>
    refine ⟨i+1,by omega,by go_num,X,Y,?_,fun j hj=>?_,fun j hj=>HI.out.2.1 j (by omega),fun j hj=>?_,fun j hj=>HI.out.2.2.2.1 j (by omega),HKP.out.below hb1⟩
    ·rw [HI.out.2.2.2.2.2.1];exact HQ.out.below hb1
    ·rcases Nat.lt_or_ge j i with h2 | h2
     ·exact HI.out.1 j h2
     ·obtain rfl:j=i:=by omega
      rw [HI.out.2.1 j h2];exact HC.out j hlt HI.out.2.2.2.2.2.2
    ·rcases Nat.lt_or_ge j i with h2 | h2
     ·exact HI.out.2.2.1 j h2
     ·obtain rfl:j=i:=by omega
      rw [HI.out.2.2.2.1 j h2];exact HP.out j hlt HI.out.2.2.2.2.2.2
   case measure=>simp [intOf];omega
 ·obtain rfl:i=N.l.length:=by omega
  have e1:X=CA:=zfe 0 (by rw [q.l3,HCL.out]) fun j hj=>hX j (by rw [q.l3] at hj;exact hj);have e2:Y=PA:=zfe (0,0) (by rw [q.q3,HPL.out]) fun j hj=>hY j (by rw [q.q3] at hj;exact hj);rw [e1,e2] at q;have HQ:=za q;have HKP:=za kp;clear q kp hX hX' hY hY' e1 e2;go_wp2_with fail
  refine bodyPost_end (results_none rfl _ _ _) rfl ?_;exact ⟨rfl,HQ.out,HKP.out⟩
theorem zfQ (w:World) (sb vb v:Nat) (hv1:1≤v) (hv2:v≤n) (hsb:w.cell? ⟨sb,0,none⟩=some (.pointer (some ⟨g.b,0,none⟩))) (hvb:w.cell? ⟨vb,0,none⟩=some (.int .i64 (v:Int))) (hS1:sb ∉ [g.b,g.bL,g.pL]) (hS2:vb ∉ [g.b,g.bL,g.pL])
  (h:SsAt w D E g N n lo hi tv T k C1 C2 C3 P1 P2 P3) (hT:Tab w) (hTb:1<D) (hv:zC N=true) (hd:qv N=true) (hs:qQ N=true) (hn:N.n=(n:Int))
  (h1:∀ k,C1.getD k 0≤1) (h2:∀ k,C2.getD k 0≤1) (hW:WtOk n P1 P2) (hp1:∀ k,Sp (P1.getD k (0,0))) (hp2:∀ k,Sp (P2.getD k (0,0))) (sel:Nat→Bool) (hsel:sel=fun j=>((own N.l).getD j 0).testBit (v-1))
  (CA:List Nat) (PA:List Pr) (hCA:CA=(RL n C1 C2).all (own N.l) N.l) (hPA:PA=(RP n P1 P2).all (own N.l) N.l) (hs3:∀ j,n8 (C3.getD j 0)≤100000) (hsp:∀ j,Sp (P3.getD j (0,0)))
  (hC:∀ j,j<N.l.length→sel j=false→C3.getD j 0=CA.getD j 0) (hP:∀ j,j<N.l.length→sel j=false→P3.getD j (0,0)=PA.getD j (0,0)) :
  Calls Tryz.prog 52 #[.pointer (some ⟨g.b,0,none⟩),.func (.func 105) #[] #[.pointer (some ⟨sb,0,none⟩),.pointer (some ⟨vb,0,none⟩)]] w fun e w'=>e = .returned (.tuple #[])∧SsAt w' D E g N n lo hi tv T (qU sel N.l.length:Nat) C1 C2 CA P1 P2 PA∧Keep [g.b,g.bL,g.pL] w w':=by
 obtain ⟨hn0,hn1,hl0,hl1⟩:=qD hv;have hn128:=yF hv hn;have hac:∀ j,n8 (CA.getD j 0)≤100000:=fun j=>by rw [hCA];exact n8_s (zgQ h1 h2 hs j)
 have hap:∀ j,Sp (PA.getD j (0,0)):=fun j=>by
  rw [hPA];have e:(RP n P1 P2).all (own N.l) N.l=scan ((RP n P1 P2).step (own N.l)) [] (N.l.take N.l.length):=by rw [List.take_length];rfl
  rw [e];exact p_at hW hv hd hs hn N.l.length (zi _) j
 have hcl:CA.length=N.l.length:=by rw [hCA];exact zhG _ _
 have hpl:PA.length=N.l.length:=by rw [hPA];exact zhG _ _
 have hnn:∀ (i:Nat) (hil:i<N.l.length) W k X Y,SsAt W D E g N n lo hi tv T k C1 C2 X P1 P2 Y→Tab W→(∀ j,j<i→X.getD j 0=CA.getD j 0)→(∀ j,i≤j→X.getD j 0=C3.getD j 0) →
   Calls Tryz.prog 95 #[.pointer (some ⟨g.b,5,none⟩),.agg #[.int .i64 (n:Int),.slice g.A N.l.length g.cA],.slice g.O N.l.length g.cO,.int .i64 (i:Int)] W fun e w'=>e = .returned (zD (CA.getD i 0))∧Below W.heap.size W w':=fun i hil W k X Y hq hTW ha hb=>by
  rw [← hn];exact zkm hq hTW hv hs hn h1 h2 i hil (fun j hj=>by rw [ha j hj,hCA]) (fun j=>by
   rcases Nat.lt_or_ge j i with hj | hj
   ·rw [ha j hj];exact hac j
   ·rw [hb j hj];exact hs3 j) _ (by rw [hCA])
 have hqn:∀ (i:Nat) (hil:i<N.l.length) W k X Y,SsAt W D E g N n lo hi tv T k C1 C2 X P1 P2 Y→Tab W→(∀ j,j<i→Y.getD j (0,0)=PA.getD j (0,0))→(∀ j,i≤j→Y.getD j (0,0)=P3.getD j (0,0)) →
   Calls Tryz.prog 96 #[.pointer (some ⟨g.b,11,none⟩),.agg #[.int .i64 (n:Int),.slice g.A N.l.length g.cA],.slice g.O N.l.length g.cO,.int .i64 (i:Int)] W fun e w'=>e = .returned (zZ (PA.getD i (0,0)).1 (PA.getD i (0,0)).2)∧Below W.heap.size W w':=fun i hil W k X Y hq hTW ha hb=>by
  rw [← hn];exact zjX hq hTW hv hd hs hn hW hp1 hp2 i hil (fun j hj=>by rw [ha j hj,hPA]) (fun j=>by
   rcases Nat.lt_or_ge j i with hj | hj
   ·rw [ha j hj];exact hap j
   ·rw [hb j hj];exact hsp j) _ (by rw [hPA])
 have HNQ:=za hnn;have HQQ:=za hqn;have HSEL:=za hsel;have HC:=za hC;have HP:=za hP;have HNN:=za hn;have HCL:=za hcl;have HPL:=za hpl;have hk0:w.cell? ⟨g.b,4,none⟩=some (.int .i64 k):=h.cell 4 (by decide) _ rfl;have hkf:=h.row.frozen 4;have c1:w.cell? ⟨g.b,1,none⟩=some (.slice g.A N.l.length g.cA):=h.cell 1 (by decide) _ rfl;have q0:=h.setK ((0:Nat):Int);have kp0:Keep [g.b,g.bL,g.pL] w (w.setCell ⟨g.b,4,none⟩ (.int .i64 ((0:Nat):Int))):=(Keep.refl _ _).set (Or.inl (by simp)) _;have HT:Hid (∀ W,Keep [g.b,g.bL,g.pL] w W→Tab W):=za fun W hk j hj=>(zej (hk.block _ hT.lt (by
  have a1:=h.ok.bD;have a2:=h.ok.bE;have a3:=h.ok.rE g.bL (by simp [Sg.rows]);have a4:=h.ok.rE g.pL (by simp [Sg.rows]);simp;omega))).trans (hT j hj)
 have hbw:=h.lt;have hsbl:=World.block_lt_of_cell? _ _ hsb;have hvbl:=World.block_lt_of_cell? _ _ hvb;clear hnn hqn hsel hC hP hcl hpl hCA hPA hac hap hn hn0 hl0 h;go_enter Tryz.func52, Tryz.ntmps52;go_upto_region 1 with (fail)
 go_cut [13,14] from 8 to 14 (fun x y wx=>x = .int .i64 (N.l.length:Int)∧y = .int .i64 0∧SsAt wx D E g N n lo hi tv T ((0:Nat):Int) C1 C2 C3 P1 P2 P3∧Keep [g.b,g.bL,g.pL] w wx)
 case first =>
  go_wp2_with fail
  go_meet;exact ⟨by go_num,rfl,q0,kp0⟩
 case rest =>
 obtain ⟨rfl,rfl,q0,kp0⟩:=hcut;go_wp2_with fail
 go_loopw [14] (fun t wr=>∃ i:Nat,i≤N.l.length∧t = .int .i64 (i:Int)∧∃ X Y,SsAt wr D E g N n lo hi tv T (qU sel i:Nat) C1 C2 X P1 P2 Y∧(∀ j,j<i→X.getD j 0=CA.getD j 0)∧(∀ j,i≤j→X.getD j 0=C3.getD j 0)∧(∀ j,j<i→Y.getD j (0,0)=PA.getD j (0,0))∧(∀ j,i≤j→Y.getD j (0,0)=P3.getD j (0,0))∧Keep [g.b,g.bL,g.pL] w wr) (fun t _=>N.l.length-(intOf t).toNat)
 case atStart=>exact ⟨0,Nat.zero_le _,rfl,C3,P3,q0,fun _ hj=>absurd hj (by omega),fun _ _=>rfl,fun _ hj=>absurd hj (by omega),fun _ _=>rfl,kp0⟩
 case round =>
 clear q0 kp0;obtain ⟨i,hil,rfl,X,Y,q,hX,hX',hY,hY',kp⟩:=hrel;by_cases hlt:i<N.l.length
 ·have hsbw:wr.cell? ⟨sb,0,none⟩=some (.pointer (some ⟨g.b,0,none⟩)):=(zej (kp.block sb hsbl hS1)).trans hsb;have hvbw:wr.cell? ⟨vb,0,none⟩=some (.int .i64 (v:Int)):=(zej (kp.block vb hvbl hS2)).trans hvb;have hsbl':=World.block_lt_of_cell? _ _ hsbw;have hvbl':=World.block_lt_of_cell? _ _ hvbw;have hcs:∀ W,Below wr.heap.size wr W→Calls Tryz.prog 105 #[.int .i64 (i:Int),.pointer (some ⟨sb,0,none⟩),.pointer (some ⟨vb,0,none⟩)] W fun e w'=>e = .returned (.bool (sel i))∧Below W.heap.size W w':=fun W hb=>by
   rw [HSEL.out];have:=set1_any W sb vb v i (q.below hb) (zy hb hsbw hsbl') (zy hb hvbw hvbl') hlt;rwa [oE _ _ (by omega) (by omega),show ((v:Nat):Int).toNat=v from rfl] at this
  have i1:(0:Int)≤(i:Int):=by omega
  have i2:(i:Int)<(N.l.length:Int):=by omega
  by_cases hsel:sel i=true
  ·have hk2:qU sel (i+1)=qU sel i+1:=by show qU sel i+(if sel i=true then 1 else 0)=_;rw [if_pos hsel]
   have hcs:∀ W,Below wr.heap.size wr W→Calls Tryz.prog 105 #[.int .i64 (i:Int),.pointer (some ⟨sb,0,none⟩),.pointer (some ⟨vb,0,none⟩)] W fun e w'=>e = .returned (.bool true)∧Below W.heap.size W w':=by rw [← hsel];exact hcs
   have hbn:qU sel i≤i:=zhc sel i;obtain ⟨m,hm⟩:∃ m,qU sel i=m:=⟨_,rfl⟩;rw [hm] at q hbn hk2;have hkc:wr.cell? ⟨g.b,4,none⟩=some (.int .i64 (m:Int)):=q.cell 4 (by decide) _ rfl;have hbw:=q.lt;have hw1:IntKind.i64.wrap ((m:Int)+1)=(m:Int)+1:=by rw [IntKind.wrap_i64];omega
   have q1:=q.setK ((m:Int)+1);have HCS:=za hcs;have HQ:=za q;have HI:=za (And.intro hX (And.intro hX' (And.intro hY (And.intro hY' (And.intro hlt hk2)))));have HKP:=za kp;clear hcs q hX hX' hY hY' kp hk2 q1 hsel hm;go_upto_region 4 with (fail)
   go_cut [19] from 17 to 19 (fun x wx=>x = .bool true∧Below wr.heap.size wr wx)
   case first =>
    go_wp2_with fail
    refine (HCS.out _ (zA _ _)).mono ?_;rintro e w9 ⟨rfl,hb9⟩;go_wp2;go_meet;exact ⟨rfl,hb9⟩
   case rest =>
   obtain ⟨rfl,hb1⟩:=hcut;have q:=HQ.out.below hb1;have kp:=HKP.out.below hb1;have hkc:wc.cell? ⟨g.b,4,none⟩=some (.int .i64 (m:Int)):=q.cell 4 (by decide) _ rfl;have hkf:=q.row.frozen 4;have hbw:=q.lt;have q1:=q.setK ((m:Int)+1);have kp1:=kp.set (p:=⟨g.b,4,none⟩) (Or.inl (by simp)) (.int .i64 ((m:Int)+1));have HQ1:=za q1;have HKP1:=za kp1;have HTB:=za hT;clear q kp q1 kp1;go_upto_region 5 with (fail)
   go_cut [] from 20 to 26 (fun wx=>SsAt wx D E g N n lo hi tv T ((m:Int)+1) C1 C2 X P1 P2 Y∧Keep [g.b,g.bL,g.pL] w wx)
   case first =>
    go_wp2_with fail
    go_meet;exact ⟨HQ1.out,HKP1.out⟩
   case rest =>
   obtain ⟨q,kp⟩:=hcut;clear HQ1 HKP1 hkc hkf hb1 hbw;have HLX:=za q.l3;have HLY:=za q.q3;obtain ⟨y,hy⟩:∃ y,CA.getD i 0=y:=⟨_,rfl⟩;obtain ⟨z,hz⟩:∃ z,PA.getD i (0,0)=z:=⟨_,rfl⟩;have HY0:=za hy;have HZ0:=za hz;have hnc:=fun W (hb:Below wc.heap.size wc W)=>HNQ.out i hlt W _ X Y (q.below hb) ((HT.out _ kp).below hb) HI.out.1 HI.out.2.1;rw [hy] at hnc;have HNC:=za hnc;clear hnc hy;have s2:wc.cell? ⟨g.b,0,none⟩=some (.int .i64 (n:Int)):=by rw [← HNN.out];exact q.cell 0 (by decide) _ rfl
   have s1:wc.cell? ⟨g.b,10,none⟩=some (.slice (some ⟨g.bL,0,none⟩) N.l.length g.cL):=q.cell 10 (by decide) _ rfl;have s3:wc.cell? ⟨g.b,1,none⟩=some (.slice g.A N.l.length g.cA):=q.cell 1 (by decide) _ rfl;have s4:wc.cell? ⟨g.b,2,none⟩=some (.slice g.O N.l.length g.cO):=q.cell 2 (by decide) _ rfl;have hbw:=q.lt;have HQ:=za q;have HKP2:=za kp;go_upto_region 6 with (fail)
   go_cut [] from 27 to 46 (fun wx=>SsAt wx D E g N n lo hi tv T ((m:Int)+1) C1 C2 (X.set i y) P1 P2 Y∧Keep [g.b,g.bL,g.pL] w wx)
   case first =>
    have HS:Hid (∀ W,Below wc.heap.size wc W→W.cell? ⟨g.b,10,none⟩=some (.slice (some ⟨g.bL,0,none⟩) N.l.length g.cL)∧W.cell? ⟨g.b,0,none⟩=some (.int .i64 (n:Int))∧W.cell? ⟨g.b,1,none⟩=some (.slice g.A N.l.length g.cA)∧W.cell? ⟨g.b,2,none⟩=some (.slice g.O N.l.length g.cO)):=za fun W hb=>⟨zy hb s1 hbw,zy hb s2 hbw,zy hb s3 hbw,zy hb s4 hbw⟩;refine yc (n:=_) (PX:=[zc (.pointer (some ⟨g.b,0,none⟩)),
       zc (.pointer (some ⟨g.b,0,none⟩)),
       zc (.pointer (some ⟨g.b,5,none⟩)),
       zc (.pointer (some ⟨g.b,10,none⟩)),
       zc (.slice (some ⟨g.bL,0,none⟩) N.l.length g.cL),
       zc (.int .i64 (i:Int)),
       zc (.pointer (some ⟨g.b,0,none⟩)),
       zc (.pointer (some ⟨g.b,0,none⟩)),
       zc (.pointer (some ⟨g.b,5,none⟩)),
       zc (.pointer (some ⟨g.b,0,none⟩)),
       zc (.pointer (some ⟨g.b,0,none⟩)),
       zc (.pointer (some ⟨g.b,0,none⟩)),
       zc (.agg #[.int .i64 (n:Int),.slice g.A N.l.length g.cA]),
       zc (.pointer (some ⟨g.b,0,none⟩)),
       zc (.pointer (some ⟨g.b,0,none⟩)),
       zc (.pointer (some ⟨g.b,2,none⟩)),
       zc (.slice g.O N.l.length g.cO),
       zc (.int .i64 (i:Int)),
       zc (zD y),
       zc (.pointer (some ⟨g.bL,i,none⟩))])
      (AL:=[]) (DP:=[[],[0],[1],[2],[3],[],[],[6],[7],[],[9],[10],[11],[],[13],[14],[15],[],[8,12,16,17],[4,5]]) (L1:=[0,1,2,3,4,5,6,7,8,9,10,11,12,13,14,15,16,17,18,19]) (ex:=[]) (by kernel_rfl) rfl (by kernel_rfl) ?_ ?_ (yf ?_)
    ·repeat' first|exact zO|refine ze ?_ ?_|exact fun _ _ _ _ h _=>h
    ·refine ze (zg rfl [] ?_) (ze (zg rfl [(0,some 27)] ?_) (ze (zg rfl [(1,some 28)] ?_) (ze (zg rfl [(2,some 29)] ?_) (ze (zg rfl [(3,some 30)] ?_) (ze (zg rfl [] ?_) (ze (zg rfl [] ?_) (ze (zg rfl [(6,some 33)] ?_) (ze (zg rfl [(7,some 34)] ?_) (ze (zg rfl [] ?_) (ze (zg rfl [(9,some 36)] ?_) (ze (zg rfl [(10,some 37)] ?_) (ze (zg rfl [(11,some 38)] ?_) (ze (zg rfl [] ?_) (ze (zg rfl [(13,some 40)] ?_) (ze (zg rfl [(14,some 41)] ?_) (ze (zg rfl [(15,some 42)] ?_) (ze (zg rfl [] ?_) (ze ?_ (ze (zg rfl [(4,some 31),(5,some 32)] ?_) zO)))))))))))))))))));all_goals try (intro vs W hW hd K hK;(try simp only [zR,zc,and_true,List.getD_cons_succ,List.getD_cons_zero] at hd);(first | simp only [hd,zo,Act.put,zx,zw,zv,zm,zl,zk] at hK ⊢ | simp only [zo,Act.put,zx,zw,zv,zm,zl,zk] at hK ⊢ | skip);obtain ⟨m1,m2,m3,m4⟩:=HS.out W hW;go_simp;exact hK.out _ _ rfl (zA _ _) (qS rfl))
     ·refine qo rfl [(8,some 35),(12,some 39),(16,some 43),(17,some 44)] ?_;intro vs W hW hd K hK;have d8:vs 8 = .pointer (some ⟨g.b,5,none⟩):=hd 8 (by decide);have d12:vs 12 = .agg #[.int .i64 (n:Int),.slice g.A N.l.length g.cA]:=hd 12 (by decide);have d16:vs 16 = .slice g.O N.l.length g.cO:=hd 16 (by decide);have d17:vs 17 = .int .i64 (i:Int):=hd 17 (by decide);clear hd;try simp only [d8,d12,d16,d17,zo,Act.put,zx,zw,zv,zm,zl,zk] at hK ⊢
      go_simp;go_at_call 95;(with_reducible first | refine (HNC.out _ hW).mono ?_);rintro e w9 ⟨rfl,hb9⟩;exact hK.out _ _ (rfl) hb9 (fun h=>absurd h (by decide))
    refine qT [(0,some 27),(1,some 28),(2,some 29),(3,some 30),(4,some 31),(5,some 32),(6,some 33),(7,some 34),(8,some 35),(9,some 36),(10,some 37),(11,some 38),(12,some 39),(13,some 40),(14,some 41),(15,some 42),(16,some 43),(17,some 44),(18,some 45),(19,some 46)] #[true,true,true,true,true,true,true,true,true,true,true,true,true,true,true,true,true,true,true,true,false] 1 ?_;intro vs Wf hW hd hbk hdis kf;simp only [zR,zc,and_true,List.getD_cons_succ,List.getD_cons_zero] at hd;obtain ⟨d0,d1,d2,d3,d4,d5,d6,d7,d8,d9,d10,d11,d12,d13,d14,d15,d16,d17,d18,d19⟩:=hd;clear hbk hdis;try simp only [d0,d1,d2,d3,d4,d5,d6,d7,d8,d9,d10,d11,d12,d13,d14,d15,d16,d17,d18,d19,zo,Act.put,zx,zw,zv,zm,zl,zk]
    clear d0 d1 d2 d3 d4 d5 d6 d7 d8 d9 d10 d11 d12 d13 d14 d15 d16 d17 d18 d19 vs;clear HS;have qf:=q.below hW;have kf:=qf.c3.cells qf.ok.hcL i hlt;obtain ⟨c0,z0⟩:=kf;refine qt 20 (by kernel_rfl) rfl (fun K hK=>?_);go_simp;refine hK.out _ _ ?_;clear hK K;try simp only [zo,Act.put,zx,zw,zv,zm,zl,zk]
    refine qV (by kernel_rfl) ?_ _;all_goals
     try go_wp2
     go_meet;exact ⟨qf.setC3 i y (by rw [qf.l3];exact hlt),(HKP2.out.below hW).set (Or.inl (by simp)) _⟩
   case rest =>
   obtain ⟨q,kp⟩:=hcut;clear s1 s2 s3 s4 HQ HKP2 HNC hbw;have hnc:=fun W (hb:Below wc.heap.size wc W)=>HQQ.out i hlt W _ (X.set i y) Y (q.below hb) ((HT.out _ kp).below hb) HI.out.2.2.1 HI.out.2.2.2.1;rw [hz] at hnc;obtain ⟨yn,yd⟩:=z;have HNC:=za hnc;clear hnc hz;have s2:wc.cell? ⟨g.b,0,none⟩=some (.int .i64 (n:Int)):=by rw [← HNN.out];exact q.cell 0 (by decide) _ rfl
   have s1:wc.cell? ⟨g.b,17,none⟩=some (.slice (some ⟨g.pL,0,none⟩) N.l.length g.dL):=q.cell 17 (by decide) _ rfl;have s3:wc.cell? ⟨g.b,1,none⟩=some (.slice g.A N.l.length g.cA):=q.cell 1 (by decide) _ rfl;have s4:wc.cell? ⟨g.b,2,none⟩=some (.slice g.O N.l.length g.cO):=q.cell 2 (by decide) _ rfl;have hbw:=q.lt;have HQ:=za q;have HKP2:=za kp;clear q kp;go_wp2_with fail
   have HS:Hid (∀ W,Below wc.heap.size wc W→W.cell? ⟨g.b,17,none⟩=some (.slice (some ⟨g.pL,0,none⟩) N.l.length g.dL)∧W.cell? ⟨g.b,0,none⟩=some (.int .i64 (n:Int))∧W.cell? ⟨g.b,1,none⟩=some (.slice g.A N.l.length g.cA)∧W.cell? ⟨g.b,2,none⟩=some (.slice g.O N.l.length g.cO)):=za fun W hb=>⟨zy hb s1 hbw,zy hb s2 hbw,zy hb s3 hbw,zy hb s4 hbw⟩;refine yc (n:=_) (PX:=[zc (.pointer (some ⟨g.b,0,none⟩)),
      zc (.pointer (some ⟨g.b,0,none⟩)),
      zc (.pointer (some ⟨g.b,11,none⟩)),
      zc (.pointer (some ⟨g.b,17,none⟩)),
      zc (.slice (some ⟨g.pL,0,none⟩) N.l.length g.dL),
      zc (.int .i64 (i:Int)),
      zc (.pointer (some ⟨g.b,0,none⟩)),
      zc (.pointer (some ⟨g.b,0,none⟩)),
      zc (.pointer (some ⟨g.b,11,none⟩)),
      zc (.pointer (some ⟨g.b,0,none⟩)),
      zc (.pointer (some ⟨g.b,0,none⟩)),
      zc (.pointer (some ⟨g.b,0,none⟩)),
      zc (.agg #[.int .i64 (n:Int),.slice g.A N.l.length g.cA]),
      zc (.pointer (some ⟨g.b,0,none⟩)),
      zc (.pointer (some ⟨g.b,0,none⟩)),
      zc (.pointer (some ⟨g.b,2,none⟩)),
      zc (.slice g.O N.l.length g.cO),
      zc (.int .i64 (i:Int)),
      zc (zZ yn yd),
      zc (.pointer (some ⟨g.pL,i*2,none⟩))])
     (AL:=[]) (DP:=[[],[0],[1],[2],[3],[],[],[6],[7],[],[9],[10],[11],[],[13],[14],[15],[],[8,12,16,17],[4,5]]) (L1:=[0,1,2,3,4,5,6,7,8,9,10,11,12,13,14,15,16,17,18,19]) (ex:=[]) (by kernel_rfl) rfl (by kernel_rfl) ?_ ?_ (yf ?_)
   ·repeat' first|exact zO|refine ze ?_ ?_|exact fun _ _ _ _ h _=>h
   ·refine ze (zg rfl [] ?_) (ze (zg rfl [(0,some 47)] ?_) (ze (zg rfl [(1,some 48)] ?_) (ze (zg rfl [(2,some 49)] ?_) (ze (zg rfl [(3,some 50)] ?_) (ze (zg rfl [] ?_) (ze (zg rfl [] ?_) (ze (zg rfl [(6,some 53)] ?_) (ze (zg rfl [(7,some 54)] ?_) (ze (zg rfl [] ?_) (ze (zg rfl [(9,some 56)] ?_) (ze (zg rfl [(10,some 57)] ?_) (ze (zg rfl [(11,some 58)] ?_) (ze (zg rfl [] ?_) (ze (zg rfl [(13,some 60)] ?_) (ze (zg rfl [(14,some 61)] ?_) (ze (zg rfl [(15,some 62)] ?_) (ze (zg rfl [] ?_) (ze ?_ (ze (zg rfl [(4,some 51),(5,some 52)] ?_) zO)))))))))))))))))));all_goals try (intro vs W hW hd K hK;(try simp only [zR,zc,and_true,List.getD_cons_succ,List.getD_cons_zero] at hd);(first | simp only [hd,zo,Act.put,zx,zw,zv,zm,zl,zk] at hK ⊢ | simp only [zo,Act.put,zx,zw,zv,zm,zl,zk] at hK ⊢ | skip);obtain ⟨m1,m2,m3,m4⟩:=HS.out W hW;go_simp;exact hK.out _ _ rfl (zA _ _) (qS rfl))
    ·refine qo rfl [(8,some 55),(12,some 59),(16,some 63),(17,some 64)] ?_;intro vs W hW hd K hK;have d8:vs 8 = .pointer (some ⟨g.b,11,none⟩):=hd 8 (by decide);have d12:vs 12 = .agg #[.int .i64 (n:Int),.slice g.A N.l.length g.cA]:=hd 12 (by decide);have d16:vs 16 = .slice g.O N.l.length g.cO:=hd 16 (by decide);have d17:vs 17 = .int .i64 (i:Int):=hd 17 (by decide);clear hd;try simp only [d8,d12,d16,d17,zo,Act.put,zx,zw,zv,zm,zl,zk] at hK ⊢
     go_simp;go_at_call 96;(with_reducible first | refine (HNC.out _ hW).mono ?_);rintro e w9 ⟨rfl,hb9⟩;exact hK.out _ _ (rfl) hb9 (fun h=>absurd h (by decide))
   refine qT [(0,some 47),(1,some 48),(2,some 49),(3,some 50),(4,some 51),(5,some 52),(6,some 53),(7,some 54),(8,some 55),(9,some 56),(10,some 57),(11,some 58),(12,some 59),(13,some 60),(14,some 61),(15,some 62),(16,some 63),(17,some 64),(18,some 65),(19,some 66)] #[true,true,true,true,true,true,true,true,true,true,true,true,true,true,true,true,true,true,true,true,false] 1 ?_;intro vs Wf hW hd hbk hdis kf;simp only [zR,zc,and_true,List.getD_cons_succ,List.getD_cons_zero] at hd;obtain ⟨d0,d1,d2,d3,d4,d5,d6,d7,d8,d9,d10,d11,d12,d13,d14,d15,d16,d17,d18,d19⟩:=hd;clear hbk hdis;try simp only [d0,d1,d2,d3,d4,d5,d6,d7,d8,d9,d10,d11,d12,d13,d14,d15,d16,d17,d18,d19,zo,Act.put,zx,zw,zv,zm,zl,zk]
   clear d0 d1 d2 d3 d4 d5 d6 d7 d8 d9 d10 d11 d12 d13 d14 d15 d16 d17 d18 d19 vs;clear HS;have qf:=HQ.out.below hW;have kf:=qf.p3.cells (Nat.mul_le_mul_right 2 qf.ok.hdL) i hlt;obtain ⟨c0,c1,z0,z1⟩:=kf;refine qt 20 (by kernel_rfl) rfl (fun K hK=>?_);go_simp;refine hK.out _ _ ?_;clear hK K;try simp only [zo,Act.put,zx,zw,zv,zm,zl,zk]
   refine qV (by kernel_rfl) ?_ _;have q:=qf.setP3 i (yn,yd) (by rw [qf.q3];exact hlt);have kp:=((HKP2.out.below hW).set (p:=⟨g.pL,i*2,none⟩) (Or.inl (by simp)) (.string (zb yn))).set (p:=⟨g.pL,i*2+1,none⟩) (Or.inl (by simp)) (.string (zb yd));try go_wp2
   go_roundw
   case rel =>
    refine ⟨i+1,by omega,by go_num,X.set i y,Y.set i (yn,yd),?_,?_,?_,?_,?_,kp⟩
    ·rw [HI.out.2.2.2.2.2];exact q
    ·intro j hj;rw [zbD _ _ _ _ (by rw [← HLX.out] at hlt;exact hlt)];split
     ·rename_i e;rw [e,← HY0.out]
     ·exact HI.out.1 j (by omega)
    ·intro j hj;rw [zbD _ _ _ _ (by rw [← HLX.out] at hlt;exact hlt),if_neg (by omega)];exact HI.out.2.1 j (by omega)
    ·intro j hj;rw [zbD _ _ _ _ (by rw [← HLY.out] at hlt;exact hlt)];split
     ·rename_i e;rw [e,← HZ0.out]
     ·exact HI.out.2.2.1 j (by omega)
    ·intro j hj;rw [zbD _ _ _ _ (by rw [← HLY.out] at hlt;exact hlt),if_neg (by omega)];exact HI.out.2.2.2.1 j (by omega)
   case measure=>simp [intOf];omega
  ·have hk2:qU sel (i+1)=qU sel i:=by show qU sel i+(if sel i=true then 1 else 0)=_;rw [if_neg hsel];rfl
   have hf:sel i=false:=by simpa using hsel
   have hcs:∀ W,Below wr.heap.size wr W→Calls Tryz.prog 105 #[.int .i64 (i:Int),.pointer (some ⟨sb,0,none⟩),.pointer (some ⟨vb,0,none⟩)] W fun e w'=>e = .returned (.bool false)∧Below W.heap.size W w':=by rw [← hf];exact hcs
   have HCS:=za hcs;have HQ:=za q;have HI:=za (And.intro hX (And.intro hX' (And.intro hY (And.intro hY' (And.intro hlt (And.intro hk2 hf))))));have HKP:=za kp;clear hcs q hX hX' hY hY' kp hk2 hsel hf;go_upto_region 4 with (fail)
   go_cut [19] from 17 to 19 (fun x wx=>x = .bool false∧Below wr.heap.size wr wx)
   case first =>
    go_wp2_with fail
    refine (HCS.out _ (zA _ _)).mono ?_;rintro e w9 ⟨rfl,hb9⟩;go_wp2;go_meet;exact ⟨rfl,hb9⟩
   case rest =>
   obtain ⟨rfl,hb1⟩:=hcut;go_wp2;go_roundw
   case rel =>
    refine ⟨i+1,by omega,by go_num,X,Y,?_,fun j hj=>?_,fun j hj=>HI.out.2.1 j (by omega),fun j hj=>?_,fun j hj=>HI.out.2.2.2.1 j (by omega),HKP.out.below hb1⟩
    ·rw [HI.out.2.2.2.2.2.1];exact HQ.out.below hb1
    ·rcases Nat.lt_or_ge j i with h2 | h2
     ·exact HI.out.1 j h2
     ·obtain rfl:j=i:=by omega
      rw [HI.out.2.1 j h2];exact HC.out j hlt HI.out.2.2.2.2.2.2
    ·rcases Nat.lt_or_ge j i with h2 | h2
     ·exact HI.out.2.2.1 j h2
     ·obtain rfl:j=i:=by omega
      rw [HI.out.2.2.2.1 j h2];exact HP.out j hlt HI.out.2.2.2.2.2.2
   case measure=>simp [intOf];omega
 ·obtain rfl:i=N.l.length:=by omega
  have e1:X=CA:=zfe 0 (by rw [q.l3,HCL.out]) fun j hj=>hX j (by rw [q.l3] at hj;exact hj);have e2:Y=PA:=zfe (0,0) (by rw [q.q3,HPL.out]) fun j hj=>hY j (by rw [q.q3] at hj;exact hj);rw [e1,e2] at q;have HQ:=za q;have HKP:=za kp;clear q kp hX hX' hY hY' e1 e2;go_wp2_with fail
  refine bodyPost_end (results_none rfl _ _ _) rfl ?_;exact ⟨rfl,HQ.out,HKP.out⟩
end
end Go.Proofs.YtoljkoifgnmbgaaGreatDoor
