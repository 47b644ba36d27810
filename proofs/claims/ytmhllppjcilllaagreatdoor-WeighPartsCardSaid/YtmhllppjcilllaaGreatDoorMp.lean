import Derived.Test.YtmhllppjcilllaaGreatDoorMq
set_option linter.unusedSimpArgs false
set_option linter.unusedVariables false
set_option maxRecDepth 100000
set_option maxHeartbeats 8000000
open Go Go.RowKit Cs
namespace Go.Proofs.YtmhllppjcilllaaGreatDoor
theorem mods_no (w:World) (hT:Tab w) (N:Nt) (A:Option Addr) (c:Nat) (Aw:Option Addr) (lw cw:Nat) (At:Option Addr) (lt ct:Nat) (hlen:N.l.length≤140737488355328) (hN:NtAt w w.heap.size A N.l) (hgo:∀ W,Below w.heap.size w W→Calls Tryz.prog 48 #[yE N A c Aw lw cw At lt ct] W fun e w'=>∃ r,e = .returned (.bool r)∧(r=true→False)∧Below W.heap.size W w') :
  Calls Tryz.prog 12 #[yE N A c Aw lw cw At lt ct] w fun e w'=>e = .returned (.bool true)∧Below w.heap.size w w':=by
 have q0:Kp w [yR w.heap.size N A c Aw lw cw At lt ct] (w.alloc (.cells #[.int .i64 N.n,.slice A N.l.length c,.slice Aw lw cw,.slice At lt ct] 28)):=(Kp.nil w).new _ _ w.heap.size 4 rfl rfl;obtain ⟨s1,s2,s3,s4⟩:=jv (q0.row 0 rfl);have HGO:=zc hgo;have HT:=zc hT;have Q0:=zc q0;clear hgo hT q0 hN;go_enter Tryz.func12, Tryz.ntmps12;go_upto_region 1 with (fail)
 go_cut [19] from 17 to 19 (fun p wx=>∃ r,p = .bool (!r)∧Hid (r=true→False)∧Kp w [yR w.heap.size N A c Aw lw cw At lt ct] wx)
 case first =>
  go_wp2_with (go_at_call 48;(with_reducible refine (HGO.out _ Q0.out.bl).mono ?_);rintro e w1 ⟨r,rfl,hr,hb1⟩)
  all_goals
   go_meet;exact ⟨r,rfl,zc hr,Q0.out.below hb1⟩
 case rest =>
 obtain ⟨r,rfl,hr,hq⟩:=hcut;have Q1:=zc hq;clear hq s1 s2 s3 s4;cases r
 case false =>
  simp only [Bool.not_false];clear hr;go_wp2_with (go_at_call 15;(with_reducible refine (zbV _ (HT.out.below Q1.out.bl)).mono ?_);rintro e w2 ⟨rfl,hb2⟩;have Q2:=zc (Q1.out.below hb2))
  all_goals
   go_ret;exact ⟨rfl,Q2.out.bl⟩
 case true=>exact absurd (hr.out rfl) (fun h=>h)
theorem xM (w:World) (hT:Tab w) (N:Nt) (A:Option Addr) (c:Nat) (Aw:Option Addr) (lw cw:Nat) (At:Option Addr) (lt ct:Nat) (hlen:N.l.length≤140737488355328) (hN:NtAt w w.heap.size A N.l) (n M:Nat) (L H:List Pr) (hM9:M≤129) (hMn:M=n+1) (hnn:N.n=(n:Int)) (hn8:n≤8)
  (haw:∀ W,Below w.heap.size w W→Calls Tryz.prog 17 #[yE N A c Aw lw cw At lt ct] W fun e w'=>∃ v g1 c1 g2 c2 F1 F2,e = .returned v∧WtV W.heap.size M L H v g1 c1 g2 c2 F1 F2 w'∧Below W.heap.size W w')
  (hgo:∀ W,Below w.heap.size w W→Calls Tryz.prog 48 #[yE N A c Aw lw cw At lt ct] W fun e w'=>∃ r,e = .returned (.bool r)∧(r=true→True)∧Below W.heap.size W w') (T:Pr) (LP HP:List Pr)
  (hto:∀ W b9 b10 g1 c1 g2 c2,WnS N A c b9 b10 g1 c1 g2 c2 M L H W→M≤c1→M≤c2→Calls Tryz.prog 16 #[qB N A c,yw (some ⟨g1,0,none⟩) (some ⟨g2,0,none⟩) M M c1 c2] W fun e w'=>e = .returned (.tuple #[zD T.1 T.2,.int .i64 0])∧Below W.heap.size W w')
  (hby:∀ W b9 b10 g1 c1 g2 c2,WnS N A c b9 b10 g1 c1 g2 c2 M L H W→M≤c1→M≤c2→Calls Tryz.prog 21 #[qB N A c,yw (some ⟨g1,0,none⟩) (some ⟨g2,0,none⟩) M M c1 c2] W fun e w'=>∃ gl gh,e = .returned (.tuple #[.slice (some ⟨gl,0,none⟩) M M,.slice (some ⟨gh,0,none⟩) M M,.int .i64 0])∧w'.rowIs gl 33 (M*2) (zB LP)∧w'.rowIs gh 33 (M*2) (zB HP)∧Below W.heap.size W w')
  (hl0:LP.getD 0 (0,0)=(0,0)) (hh0:HP.getD 0 (0,0)=(0,0)) (hsz:∀ W,Calls Tryz.prog 26 #[zD 0 0,zD 0 1] W fun e w'=>e = .returned (.bool true)∧Below W.heap.size W w')
  (ev:Nat→Bool) (f:Nat→Pr) (hev:∀ k:Nat,k<2^n→∀ W,Below w.heap.size w W→Calls Tryz.prog 49 #[qB N A c,.agg #[.int .u64 (k:Int),.int .u64 0]] W fun e w'=>e = .returned (.bool (ev k))∧Below W.heap.size W w')
  (hwt:∀ k:Nat,k<2^n→∀ W b9 b10 g1 c1 g2 c2,WnS N A c b9 b10 g1 c1 g2 c2 M L H W→Calls Tryz.prog 50 #[yw (some ⟨g1,0,none⟩) (some ⟨g2,0,none⟩) M M c1 c2,.int .i64 N.n,.int .u64 (k:Int)] W fun e w'=>e = .returned (zD (f k).1 (f k).2)∧Below W.heap.size W w')
  (had:∀ k:Nat,k<2^n→∀ (p:Nat→Bool) (z:Pr),(z=(0,0)∨z=(0,1))→∀ W,Calls Tryz.prog 27 #[zD (zP p f z k).1 (zP p f z k).2,zD (f k).1 (f k).2] W fun e w'=>e = .returned (zD (pq (qp (zP p f z k)+qp (f k))).1 (pq (qp (zP p f z k)+qp (f k))).2)∧Below W.heap.size W w')
  (hsl:∀ v,1≤v→v≤n→∀ W,Calls Tryz.prog 26 #[zD (lM ev f (2^n) v).1 (lM ev f (2^n) v).2,zD (LP.getD v (0,0)).1 (LP.getD v (0,0)).2] W fun e w'=>e = .returned (.bool true)∧Below W.heap.size W w')
  (hsh:∀ v,1≤v→v≤n→∀ W,Calls Tryz.prog 26 #[zD (hM ev f (2^n) v).1 (hM ev f (2^n) v).2,zD (HP.getD v (0,0)).1 (HP.getD v (0,0)).2] W fun e w'=>e = .returned (.bool true)∧Below W.heap.size W w')
  (hst:∀ W,Calls Tryz.prog 26 #[zD T.1 T.2,zD (zP ev f (0,1) (2^n)).1 (zP ev f (0,1) (2^n)).2] W fun e w'=>e = .returned (.bool true)∧Below W.heap.size W w') :
  Calls Tryz.prog 12 #[yE N A c Aw lw cw At lt ct] w fun e w'=>e = .returned (.bool true)∧Below w.heap.size w w':=by
 have q0:Kp w [yR w.heap.size N A c Aw lw cw At lt ct] (w.alloc (.cells #[.int .i64 N.n,.slice A N.l.length c,.slice Aw lw cw,.slice At lt ct] 28)):=(Kp.nil w).new _ _ w.heap.size 4 rfl rfl;obtain ⟨s1,s2,s3,s4⟩:=jv (q0.row 0 rfl);have HGO:=zc hgo;have HAW:=zc haw;have HTO:=zc hto;have HNN:=zc hnn;have HMN:=zc hMn;have HM9:=zc hM9;have HN8:=zc hn8;have HBY:=zc hby
 have HSZ:=zc hsz;have HL0:=zc hl0;have HH0:=zc hh0;obtain ⟨K,hK⟩:∃ K,2^n=K:=⟨_,rfl⟩;rw [hK] at hev hwt had hsl hsh hst;have HKE:=zc hK;have HK9:=zc (show K≤256 by rw [← hK];exact Nat.pow_le_pow_right (by decide) hn8);have HEV:=zc hev;have HWT:=zc hwt;have HAD:=zc had;have HSL:=zc hsl;have HSH:=zc hsh;have HST:=zc hst;have HT:=zc hT;have HN:=zc hN;have HMK:=zc (zjq M (by omega));have Q0:=zc q0;clear hgo hT q0 hN haw hto hby hsz hl0 hh0 hev hwt had hsl hsh hst hnn hMn hM9 hn8 hK;go_enter Tryz.func12, Tryz.ntmps12;go_upto_region 1 with (fail)
 go_cut [19] from 17 to 19 (fun p wx=>∃ r,p = .bool (!r)∧Hid (r=true→True)∧Kp w [yR w.heap.size N A c Aw lw cw At lt ct] wx)
 case first =>
  go_wp2_with (go_at_call 48;(with_reducible refine (HGO.out _ Q0.out.bl).mono ?_);rintro e w1 ⟨r,rfl,hr,hb1⟩)
  all_goals
   go_meet;exact ⟨r,rfl,zc hr,Q0.out.below hb1⟩
 case rest =>
 obtain ⟨r,rfl,hr,hq⟩:=hcut;have Q1:=zc hq;clear hq s1 s2 s3 s4;cases r
 case false =>
  simp only [Bool.not_false];clear hr;go_wp2_with (go_at_call 15;(with_reducible refine (zbV _ (HT.out.below Q1.out.bl)).mono ?_);rintro e w2 ⟨rfl,hb2⟩;have Q2:=zc (Q1.out.below hb2))
  all_goals
   go_ret;exact ⟨rfl,Q2.out.bl⟩
 case true =>
 simp only [Bool.not_true];clear hr HGO;obtain ⟨V0,rfl⟩:∃ V,V=wc:=⟨wc,rfl⟩;obtain ⟨s1,s2,s3,s4⟩:=jv (Q1.out.row 0 rfl);go_upto_region 3 with (fail)
 go_cut [3,4] from 21 to 24 (fun p q wx=>∃ b3 b4 g1 c1 g2 c2 F1 F2,p = .pointer (some ⟨b3,0,none⟩)∧q = .pointer (some ⟨b4,0,none⟩)∧wx.rowIs b3 24 2 (zC #[.int .i64 N.n,.slice A N.l.length c])∧wx.rowIs b4 39 2 (zC #[.slice (some ⟨g1,0,none⟩) M c1,.slice (some ⟨g2,0,none⟩) M c2])∧WtV w.heap.size M L H (.agg #[.slice (some ⟨g1,0,none⟩) M c1,.slice (some ⟨g2,0,none⟩) M c2]) g1 c1 g2 c2 F1 F2 wx∧Below w.heap.size w wx)
 case first =>
  have BL:=zc Q1.out.bl;have hbx:=(Q1.out.row 0 rfl).lt;have HS:Hid (∀ W,Below V0.heap.size V0 W→W.cell? ⟨w.heap.size,0,none⟩=some (.int .i64 N.n)∧W.cell? ⟨w.heap.size,1,none⟩=some (.slice A N.l.length c)∧W.cell? ⟨w.heap.size,2,none⟩=some (.slice Aw lw cw)∧W.cell? ⟨w.heap.size,3,none⟩=some (.slice At lt ct)):=zc fun W hb=>⟨zG hb s1 hbx,zG hb s2 hbx,zG hb s3 hbx,zG hb s4 hbx⟩;refine yT (n:=_) (PX:=[zm (.pointer (some ⟨w.heap.size,0,none⟩)),
     zm (.agg #[.int .i64 N.n,.slice A N.l.length c]),
     zm (.agg #[.int .i64 N.n,.slice A N.l.length c,.slice Aw lw cw,.slice At lt ct]),
     fun xl xv xw=>∃ g1 c1 g2 c2 F1 F2,xv = .agg #[.slice (some ⟨g1,0,none⟩) M c1,.slice (some ⟨g2,0,none⟩) M c2]∧WtV V0.heap.size M L H (.agg #[.slice (some ⟨g1,0,none⟩) M c1,.slice (some ⟨g2,0,none⟩) M c2]) g1 c1 g2 c2 F1 F2 xw,
     fun xl xv xw=>∃ X,xv = .pointer (some ⟨X,0,none⟩)∧V0.heap.size≤X∧World.rowIs xw X 24 2 (zC #[.int .i64 0,.slice none 0 0]),
     fun xl xv xw=>∃ X,xv = .pointer (some ⟨X,0,none⟩)∧V0.heap.size≤X∧World.rowIs xw X 39 2 (zC #[.slice none 0 0,.slice none 0 0])])
    (AL:=[4,5]) (DP:=[[],[0],[],[2],[],[]]) (L1:=[0,1,2,3,4,5]) (ex:=[]) (by kernel_rfl) rfl (by kernel_rfl) ?_ ?_ (ji ?_)
  ·repeat' first|exact qi|refine zo ?_ ?_|exact fun _ _ _ _ h _=>h|fail
   ·exact fun l v w w2 h hb=>by obtain ⟨g1,c1,g2,c2,F1,F2,h1,h2⟩:=h;exact ⟨g1,c1,g2,c2,F1,F2,h1,h2.below hb⟩
   ·exact fun l v w w2 h hb=>by obtain ⟨X,h1,h2,h3⟩:=h;exact ⟨X,h1,h2,zh h3 hb⟩
   ·exact fun l v w w2 h hb=>by obtain ⟨X,h1,h2,h3⟩:=h;exact ⟨X,h1,h2,zh h3 hb⟩
  ·refine zo (zw rfl [] ?_) (zo (zw rfl [(0,some 21)] ?_) (zo (zw rfl [] ?_) (zo ?_ (zo ?_ (zo ?_ qi)))));all_goals try (intro vs W hW hd K hK;(try simp only [qh,zm,and_true,List.getD_cons_succ,List.getD_cons_zero] at hd);(first | simp only [hd,zu,Act.put,zk,zj,zi,zg,zf,ze] at hK ⊢ | simp only [zu,Act.put,zk,zj,zi,zg,zf,ze] at hK ⊢ | skip);obtain ⟨m1,m2,m3,m4⟩:=HS.out W hW;go_simp;exact hK.out _ _ rfl (zy _ _) (yM rfl))
   ·refine zZ rfl [(2,some 23)] ?_;intro vs W hW hd K hK;have d2:vs 2 = .agg #[.int .i64 N.n,.slice A N.l.length c,.slice Aw lw cw,.slice At lt ct]:=hd 2 (by decide);clear hd;try simp only [d2,zu,Act.put,zk,zj,zi,zg,zf,ze] at hK ⊢
    go_simp;go_at_call 17;(with_reducible first | refine (HAW.out _ (zx BL.out hW BL.out.size)).mono ?_);rintro e w9 ⟨v,g1,c1,g2,c2,F1,F2,rfl,hq9,hb9⟩;obtain rfl:=hq9.v;exact hK.out _ _ (⟨g1,c1,g2,c2,F1,F2,rfl,hq9.more hW.size⟩) hb9 (fun h=>absurd h (by decide))
   ·refine zZ rfl [] ?_;intro vs W hW hd K hK;clear hd;try simp only [zu,Act.put,zk,zj,zi,zg,zf,ze] at hK ⊢
    go_simp;exact hK.out _ _ ⟨W.heap.size,rfl,hW.size,zI _ _ _ _ _ rfl rfl⟩ ((zy _ _).alloc (zv _) _) (fun _ b hb=>by simp [zW] at hb;subst hb;exact ⟨zv _,by simp⟩)
   ·refine zZ rfl [] ?_;intro vs W hW hd K hK;clear hd;try simp only [zu,Act.put,zk,zj,zi,zg,zf,ze] at hK ⊢
    go_simp;exact hK.out _ _ ⟨W.heap.size,rfl,hW.size,zI _ _ _ _ _ rfl rfl⟩ ((zy _ _).alloc (zv _) _) (fun _ b hb=>by simp [zW] at hb;subst hb;exact ⟨zv _,by simp⟩)
  refine yp [(0,some 21),(1,some 22),(2,some 23),(3,some 24),(4,some 3),(5,some 4)] #[true,true,true,true,true,true,false,false] 2 ?_;intro vs Wf hW hd hbk hdis kf;simp only [qh,zm,and_true,List.getD_cons_succ,List.getD_cons_zero] at hd;obtain ⟨d0,d1,d2,⟨g1,c1,g2,c2,F1,F2,d3,hq8⟩,⟨X3,d4,b3,r3⟩,⟨X4,d5,b4,r4⟩⟩:=hd;have n3_4:X3≠X4:=fun h=>hdis 4 (by decide) 5 (by decide) (by decide) rfl rfl X3 (by rw [d4];rfl) (by rw [d5,h];rfl);have n4_3:=Ne.symm n3_4;clear hbk hdis;try simp only [d0,d1,d2,d3,d4,d5,zu,Act.put,zk,zj,zi,zg,zf,ze]
  clear d0 d1 d2 d3 d4 d5 vs;clear HS;have l3:=r3.lt;have y3_0:=r3.frozen 0;have k3_0:=r3.cell (i:=0) (by decide);have y3_1:=r3.frozen 1;have k3_1:=r3.cell (i:=1) (by decide);have l4:=r4.lt;have y4_0:=r4.frozen 0;have k4_0:=r4.cell (i:=0) (by decide);have y4_1:=r4.frozen 1;have k4_1:=r4.cell (i:=1) (by decide);refine zL 6 (by kernel_rfl) rfl (fun K hK=>?_);go_simp;refine hK.out _ _ ?_;clear hK K;try simp only [zu,Act.put,zk,zj,zi,zg,zf,ze]
  refine zL 7 (by kernel_rfl) rfl (fun K hK=>?_);go_simp;refine hK.out _ _ ?_;clear hK K;try simp only [zu,Act.put,zk,zj,zi,zg,zf,ze]
  refine z8 (by kernel_rfl) ?_ _;all_goals
   try go_wp2
   go_meet;have z:=zdh r3 r4 (by decide);have z1:=zdh r3 hq8.r1 (by decide);have z2:=zdh r3 hq8.r2 (by decide);have z3:=zdh r4 hq8.r1 (by decide);have z4:=zdh r4 hq8.r2 (by decide);exact ⟨X3,X4,g1,c1,g2,c2,F1,F2,rfl,rfl,((qx r3 _ _).setOther z _).setOther z _,qx ((r4.setOther (Ne.symm z) _).setOther (Ne.symm z) _) _ _,
    ((hq8.more BL.out.size).far z1.symm z2.symm _ _).far z3.symm z4.symm _ _,oZ (oZ (zx BL.out hW BL.out.size) (Nat.le_trans BL.out.size b3) _ _) (Nat.le_trans BL.out.size b4) _ _⟩
 case rest =>
 obtain ⟨V1,rfl⟩:∃ V,V=wc:=⟨wc,rfl⟩;obtain ⟨b3,b4,g1,c1,g2,c2,F1,F2,rfl,rfl,r3,r4,hq,hbl⟩:=hcut;have hm1:=hq.m1;have hm2:=hq.m2;have hs1:=wn_of (c:=c) HN.out HT.out hbl r3 r4 hq;have HS1:=zc hs1;have BL1:=zc hbl;have X1:=zc (Kp.nil V1);have hx:=hs1 V1 (zy _ _);have M1:=zc hm1;have M2:=zc hm2;obtain ⟨t1,t2,t3,t4⟩:=hx.cells;clear r3 r4 hq hbl hs1 hx HAW Q0 Q1 s1 s2 s3 s4 hm1 hm2;go_upto_region 4 with (fail)
 go_cut [5,6] from 25 to 30 (fun p q wx=>∃ b5,p = .pointer (some ⟨b5,0,none⟩)∧q = .int .i64 0∧Kp V1 [qT b5 T] wx)
 case first =>
  go_wp2_with (go_at_call 16;(with_reducible refine (HTO.out _ _ _ _ _ _ _ (HS1.out _ X1.out.bl) M1.out M2.out).mono ?_);rintro e w3 ⟨rfl,hb3⟩)
  all_goals
   go_meet;exact ⟨w3.heap.size,rfl,rfl,zgL ((X1.out.below hb3).new _ _ w3.heap.size 2 rfl rfl) (ye T.1 T.2)⟩
 case rest =>
 obtain ⟨b5,rfl,rfl,hq⟩:=hcut;clear t1 t2 t3 t4 X1 HTO;obtain ⟨t1,t2,t3,t4⟩:=(HS1.out _ hq.bl).cells;have X2:=zc hq;clear hq;go_upto_region 5 with (fail)
 go_cut [7,8,9] from 31 to 37 (fun p q r wx=>∃ gl gh,p = .slice (some ⟨gl,0,none⟩) M M∧q = .slice (some ⟨gh,0,none⟩) M M∧r = .int .i64 0∧Kp V1 [qP gl M LP,qP gh M HP,qT b5 T] wx)
 case first =>
  go_wp2_with (go_at_call 21;(with_reducible refine (HBY.out _ _ _ _ _ _ _ (HS1.out _ X2.out.bl) M1.out M2.out).mono ?_);rintro e w4 ⟨gl,gh,rfl,rl,rh,hb4⟩)
  all_goals
   go_meet;exact ⟨gl,gh,rfl,rfl,rfl,((X2.out.below hb4).add rh).add rl⟩
 case rest =>
 obtain ⟨V4,rfl⟩:∃ V,V=wc:=⟨wc,rfl⟩;obtain ⟨gl,gh,rfl,rfl,rfl,hq⟩:=hcut;clear t1 t2 t3 t4 X2 HBY;obtain ⟨t1,t2,t3,t4⟩:=(HS1.out _ hq.bl).cells;have X3:=zc hq;have hw1:IntKind.i64.wrap (N.n+1)=(M:Int):=by have:=HNN.out;have:=HMN.out;have:=HM9.out;rw [IntKind.wrap_i64];omega
 have hM0:0<M:=by have:=HMN.out;omega
 have hM1:(0:Int)<(M:Int):=by omega
 go_upto_region 6 with (fail)
 go_cut [75] from 38 to 75 (fun p wx=>p = .bool false∧Below V4.heap.size V4 wx)
 case first =>
  obtain ⟨s2,s3⟩:=jV (hq.row 0 rfl) 0 hM0;obtain ⟨s4,s5⟩:=jV (hq.row 1 rfl) 0 hM0;rw [HL0.out,Nat.zero_mul] at s2 s3;rw [HH0.out,Nat.zero_mul] at s4 s5;have s1:=t1;have gb3:=World.block_lt_of_cell? _ _ t1;have ggl:=(hq.row 0 rfl).lt;have ggh:=(hq.row 1 rfl).lt;clear t1 t2 t3 t4 hq;have HS:Hid (∀ W,Below V4.heap.size V4 W→W.cell? ⟨b3,0,none⟩=some (.int .i64 N.n)∧W.cell? ⟨gl,0,none⟩=some (.string (zb 0))∧W.cell? ⟨gl,1,none⟩=some (.string (zb 0))∧W.cell? ⟨gh,0,none⟩=some (.string (zb 0))∧W.cell? ⟨gh,1,none⟩=some (.string (zb 0))):=zc fun W hb=>⟨zG hb s1 gb3,zG hb s2 ggl,zG hb s3 ggl,zG hb s4 ggh,zG hb s5 ggh⟩;refine yT (n:=_) (PX:=[zm (.int .i64 0),
     zm (.bool false),
     zm (.bool false),
     zm (.int .i64 0),
     zm (.bool false),
     zm (.bool false),
     zm (.bool false),
     zm (.slice (some ⟨gl,0,none⟩) M M),
     zm (.int .i64 (M:Int)),
     zm (.pointer (some ⟨b3,0,none⟩)),
     zm (.int .i64 N.n),
     zm (.int .i64 (M:Int)),
     zm (.bool false),
     zm (.bool false),
     zm (.bool false),
     zm (.slice (some ⟨gh,0,none⟩) M M),
     zm (.int .i64 (M:Int)),
     zm (.pointer (some ⟨b3,0,none⟩)),
     zm (.int .i64 N.n),
     zm (.int .i64 (M:Int)),
     zm (.bool false),
     zm (.bool false),
     zm (.bool false),
     zm (.slice (some ⟨gl,0,none⟩) M M),
     zm (.pointer (some ⟨gl,0,none⟩)),
     zm (.agg #[.string (zb 0),.string (zb 0)]),
     zm (.agg #[.string (zb 0),.string (zb 1)]),
     zm (.bool true),
     zm (.bool false),
     zm (.bool false),
     zm (.bool false),
     zm (.slice (some ⟨gh,0,none⟩) M M),
     zm (.pointer (some ⟨gh,0,none⟩)),
     zm (.agg #[.string (zb 0),.string (zb 0)]),
     zm (.agg #[.string (zb 0),.string (zb 1)]),
     zm (.bool true),
     zm (.bool false),
     zm (.bool false)])
    (AL:=[]) (DP:=[[],[0],[1],[2],[2,3],[2,4],[5],[6],[6,7],[6],[6,9],[6,10],[6,8,11],[6,12],[13],[14],[14,15],[14],[14,17],[14,18],[14,16,19],[14,20],[21],[22],[22,23],[22,24],[22],[22,25,26],[22,27],[22,28],[29],[30],[30,31],[30,32],[30],[30,33,34],[30,35],[30,36]]) (L1:=[0,1,2,3,4,5,6,7,8,9,10,11,12,13,14,15,16,17,18,19,20,21,22,23,24,25,26,27,28,29,30,31,32,33,34,35,36,37]) (ex:=[]) (by kernel_rfl) rfl (by kernel_rfl) ?_ ?_ (ji ?_)
  ·repeat' first|exact qi|refine zo ?_ ?_|exact fun _ _ _ _ h _=>h
  ·refine zo (zw rfl [] ?_) (zo (zw rfl [(0,some 38)] ?_) (zo (zw rfl [(1,some 39)] ?_) (zo (zw rfl [(2,some 40)] ?_) (zo (zw rfl [(2,some 40),(3,some 41)] ?_) (zo (zw rfl [(2,some 40),(4,some 42)] ?_) (zo (zw rfl [(5,some 43)] ?_) (zo (zw rfl [(6,some 44)] ?_) (zo (zw rfl [(6,some 44),(7,some 45)] ?_) (zo (zw rfl [(6,some 44)] ?_) (zo (zw rfl [(6,some 44),(9,some 47)] ?_) (zo (zw rfl [(6,some 44),(10,some 48)] ?_) (zo (zw rfl [(6,some 44),(8,some 46),(11,some 49)] ?_) (zo (zw rfl [(6,some 44),(12,some 50)] ?_) (zo (zw rfl [(13,some 51)] ?_) (zo (zw rfl [(14,some 52)] ?_) (zo (zw rfl [(14,some 52),(15,some 53)] ?_) (zo (zw rfl [(14,some 52)] ?_) (zo (zw rfl [(14,some 52),(17,some 55)] ?_) (zo (zw rfl [(14,some 52),(18,some 56)] ?_) (zo (zw rfl [(14,some 52),(16,some 54),(19,some 57)] ?_) (zo (zw rfl [(14,some 52),(20,some 58)] ?_) (zo (zw rfl [(21,some 59)] ?_) (zo (zw rfl [(22,some 60)] ?_) (zo (zw rfl [(22,some 60),(23,some 61)] ?_) (zo (zw rfl [(22,some 60),(24,some 62)] ?_) (zo ?_ (zo ?_ (zo (zw rfl [(22,some 60),(27,some 65)] ?_) (zo (zw rfl [(22,some 60),(28,some 66)] ?_) (zo (zw rfl [(29,some 67)] ?_) (zo (zw rfl [(30,some 68)] ?_) (zo (zw rfl [(30,some 68),(31,some 69)] ?_) (zo (zw rfl [(30,some 68),(32,some 70)] ?_) (zo ?_ (zo ?_ (zo (zw rfl [(30,some 68),(35,some 73)] ?_) (zo (zw rfl [(30,some 68),(36,some 74)] ?_) qi)))))))))))))))))))))))))))))))))))));all_goals try (intro vs W hW hd K hK;(try simp only [qh,zm,and_true,List.getD_cons_succ,List.getD_cons_zero] at hd);(first | simp only [hd,zu,Act.put,zk,zj,zi,zg,zf,ze] at hK ⊢ | simp only [zu,Act.put,zk,zj,zi,zg,zf,ze] at hK ⊢ | skip);obtain ⟨m1,m2,m3,m4,m5⟩:=HS.out W hW;go_simp;exact hK.out _ _ rfl (zy _ _) (yM rfl))
   ·refine zZ rfl [(22,some 60)] ?_;intro vs W hW hd K hK;have d22:vs 22 = .bool false:=hd 22 (by decide);clear hd;try simp only [d22,zu,Act.put,zk,zj,zi,zg,zf,ze] at hK ⊢
    go_simp;go_at_call 29;(with_reducible first | refine (zc1 _).mono ?_);rintro e w9 ⟨rfl,hb9⟩;exact hK.out _ _ (rfl) hb9 (fun h=>absurd h (by decide))
   ·refine zZ rfl [(22,some 60),(25,some 63),(26,some 64)] ?_;intro vs W hW hd K hK;have d22:vs 22 = .bool false:=hd 22 (by decide);have d25:vs 25 = .agg #[.string (zb 0),.string (zb 0)]:=hd 25 (by decide);have d26:vs 26 = .agg #[.string (zb 0),.string (zb 1)]:=hd 26 (by decide);clear hd;try simp only [d22,d25,d26,zu,Act.put,zk,zj,zi,zg,zf,ze] at hK ⊢
    go_simp;go_at_call 26;(with_reducible first | refine (HSZ.out _).mono ?_);rintro e w9 ⟨rfl,hb9⟩;exact hK.out _ _ (rfl) hb9 (fun h=>absurd h (by decide))
   ·refine zZ rfl [(30,some 68)] ?_;intro vs W hW hd K hK;have d30:vs 30 = .bool false:=hd 30 (by decide);clear hd;try simp only [d30,zu,Act.put,zk,zj,zi,zg,zf,ze] at hK ⊢
    go_simp;go_at_call 29;(with_reducible first | refine (zc1 _).mono ?_);rintro e w9 ⟨rfl,hb9⟩;exact hK.out _ _ (rfl) hb9 (fun h=>absurd h (by decide))
   ·refine zZ rfl [(30,some 68),(33,some 71),(34,some 72)] ?_;intro vs W hW hd K hK;have d30:vs 30 = .bool false:=hd 30 (by decide);have d33:vs 33 = .agg #[.string (zb 0),.string (zb 0)]:=hd 33 (by decide);have d34:vs 34 = .agg #[.string (zb 0),.string (zb 1)]:=hd 34 (by decide);clear hd;try simp only [d30,d33,d34,zu,Act.put,zk,zj,zi,zg,zf,ze] at hK ⊢
    go_simp;go_at_call 26;(with_reducible first | refine (HSZ.out _).mono ?_);rintro e w9 ⟨rfl,hb9⟩;exact hK.out _ _ (rfl) hb9 (fun h=>absurd h (by decide))
  refine yp [(0,some 38),(1,some 39),(2,some 40),(3,some 41),(4,some 42),(5,some 43),(6,some 44),(7,some 45),(8,some 46),(9,some 47),(10,some 48),(11,some 49),(12,some 50),(13,some 51),(14,some 52),(15,some 53),(16,some 54),(17,some 55),(18,some 56),(19,some 57),(20,some 58),(21,some 59),(22,some 60),(23,some 61),(24,some 62),(25,some 63),(26,some 64),(27,some 65),(28,some 66),(29,some 67),(30,some 68),(31,some 69),(32,some 70),(33,some 71),(34,some 72),(35,some 73),(36,some 74),(37,some 75)] #[true,true,true,true,true,true,true,true,true,true,true,true,true,true,true,true,true,true,true,true,true,true,true,true,true,true,true,true,true,true,true,true,true,true,true,true,true,true] 0 ?_;intro vs Wf hW hd hbk hdis kf;simp only [qh,zm,and_true,List.getD_cons_succ,List.getD_cons_zero] at hd;obtain ⟨d0,d1,d2,d3,d4,d5,d6,d7,d8,d9,d10,d11,d12,d13,d14,d15,d16,d17,d18,d19,d20,d21,d22,d23,d24,d25,d26,d27,d28,d29,d30,d31,d32,d33,d34,d35,d36,d37⟩:=hd;clear hbk hdis;try simp only [d0,d1,d2,d3,d4,d5,d6,d7,d8,d9,d10,d11,d12,d13,d14,d15,d16,d17,d18,d19,d20,d21,d22,d23,d24,d25,d26,d27,d28,d29,d30,d31,d32,d33,d34,d35,d36,d37,zu,Act.put,zk,zj,zi,zg,zf,ze]
  clear d0 d1 d2 d3 d4 d5 d6 d7 d8 d9 d10 d11 d12 d13 d14 d15 d16 d17 d18 d19 d20 d21 d22 d23 d24 d25 d26 d27 d28 d29 d30 d31 d32 d33 d34 d35 d36 d37 vs;clear HS;refine z8 (by kernel_rfl) ?_ _;all_goals
   try go_wp2
   go_meet;exact ⟨rfl,hW⟩
 case rest =>
 obtain ⟨rfl,hb5⟩:=hcut;replace X3:=zc (X3.out.below hb5);clear hb5 hq t1 t2 t3 t4 HSZ HL0 HH0;obtain ⟨t1,t2,t3,t4⟩:=(HS1.out _ X3.out.bl).cells;go_upto_region 8 with (fail)
 go_cut [10] from 76 to 76 (fun p wx=>∃ b10,p = .pointer (some ⟨b10,0,none⟩)∧V1.heap.size≤b10∧(∀ r∈[qP gl M LP,qP gh M HP,qT b5 T],r.1≠b10)∧wx.rowIs b10 33 2 (qo 0 1)∧Kp V1 [qP gl M LP,qP gh M HP,qT b5 T] wx)
 case first =>
  go_wp2_with (go_at_call 29;(with_reducible refine (zc1 _).mono ?_);rintro e w5 ⟨rfl,hb5⟩)
  all_goals
   go_meet;have x4:=X3.out.below hb5;exact ⟨w5.heap.size,rfl,x4.bl.size,fun r hr=>by have:=(x4.rows r hr).lt;omega,(zI w5 _ _ w5.heap.size 2 rfl rfl).congr (ye 0 1),x4.alloc _⟩
 case rest =>
 obtain ⟨V5,rfl⟩:∃ V,V=wc:=⟨wc,rfl⟩;obtain ⟨b10,rfl,hb10,hne10,hr10,hq⟩:=hcut;clear t1 t2 t3 t4 X3;obtain ⟨t1,t2,t3,t4⟩:=(HS1.out _ hq.bl).cells;have X4:=zc hq;have H10:=zc (And.intro hb10 (And.intro hne10 hr10));clear hq hb10 hne10 hr10;go_upto_region 9 with (fail)
 go_cut [11,12] from 77 to 84 (fun p q wx=>∃ gL gH,p = .slice (some ⟨gL,0,none⟩) M M∧q = .slice (some ⟨gH,0,none⟩) M M∧MdN V1 [qP gl M LP,qP gh M HP,qT b5 T] b10 gL gH∧MdS V1 [qP gl M LP,qP gh M HP,qT b5 T] M b10 gL gH (qL M (lM ev f 0)) (qL M (hM ev f 0)) (zP ev f (0,1) 0) wx)
 case first =>
  have hmk:=HMK.out;have c1':V5.drew.cell? ⟨b3,0,none⟩=some (.int .i64 N.n):=t1;clear t2 t3 t4;go_region_held3 (fun w'=>w'.cell? ⟨b3,0,none⟩=some (.int .i64 N.n)) (first | go_keep) (fail)
  all_goals
   try go_wp2
   go_meet
   case rel =>
    have l10:=H10.out.2.2.lt;have z1:∀ r∈[qP gl M LP,qP gh M HP,qT b5 T],r.1<V5.heap.size:=fun r hr=>(X4.out.rows r hr).lt;have hsz5:=X4.out.bl.size;have r1:=zdq V5 M 33 V5.heap.size rfl;have r2:=zdq (V5.alloc (.cells (madeCells #[.string ⟨#[]⟩,.string ⟨#[]⟩] (M*2)) 33)) M 33 (V5.heap.size+1) (by simp);have bw:Below V5.heap.size V5 ((V5.alloc (.cells (madeCells #[.string ⟨#[]⟩,.string ⟨#[]⟩] (M*2)) 33)).alloc (.cells (madeCells #[.string ⟨#[]⟩,.string ⟨#[]⟩] (M*2)) 33)).drew:=qY (((zy _ _).alloc (zv _) (.cells (madeCells #[.string ⟨#[]⟩,.string ⟨#[]⟩] (M*2)) 33)).alloc (by simp) (.cells (madeCells #[.string ⟨#[]⟩,.string ⟨#[]⟩] (M*2)) 33)) 1;have na:∀ r∈[qP gl M LP,qP gh M HP,qT b5 T],r.1≠b10∧r.1≠V5.heap.size∧r.1≠V5.heap.size+1:=fun r hr=>⟨H10.out.2.1 r hr,by have:=z1 r hr;omega,by have:=z1 r hr;omega⟩;first
     | exact ⟨_,_,rfl,rfl,⟨H10.out.1,by omega,by omega,by omega,by omega,by omega,na⟩,⟨X4.out.below bw,zh H10.out.2.2 bw,(r1.alloc _).drew.congr (fun i _=>(zdw M i).1),r2.drew.congr (fun i _=>(zdw M i).2)⟩⟩
     | exact ⟨_,_,rfl,rfl,⟨H10.out.1,by omega,by omega,by omega,by omega,by omega,fun r hr=>⟨(na r hr).1,(na r hr).2.2,(na r hr).2.1⟩⟩,⟨X4.out.below bw,zh H10.out.2.2 bw,r2.drew.congr (fun i _=>(zdw M i).1),(r1.alloc _).drew.congr (fun i _=>(zdw M i).2)⟩⟩
 case rest =>
 obtain ⟨gL,gH,rfl,rfl,hnn,hs0⟩:=hcut;have NN:=zc hnn;clear t1 t2 t3 t4 X4 H10 HMK;obtain ⟨t1,t2,t3,t4⟩:=(HS1.out _ hs0.q.bl).cells;have S0:=zc hs0;clear hnn hs0;go_upto_region 10 with (fail)
 go_cut [88,89] from 85 to 88 (fun p q wx=>p = .int .u64 (K:Int)∧q = .int .u64 0∧MdS V1 [qP gl M LP,qP gh M HP,qT b5 T] M b10 gL gH (qL M (lM ev f 0)) (qL M (hM ev f 0)) (zP ev f (0,1) 0) wx)
 case first =>
  have hcv:IntKind.u64.wrap (n:Int)=(n:Int):=by have:=HN8.out;rw [IntKind.wrap_u64];omega
  have hmn:min n 64=n:=by have:=HN8.out;omega
  have hsh2:IntKind.u64.wrap ((2:Int)^n)=(K:Int):=by
   have h9:=HK9.out;have e:(2:Int)^n=((2^n:Nat):Int):=by rw [Int.natCast_pow];rfl
   rw [e,HKE.out,IntKind.wrap_u64];omega
  rw [HNN.out] at t1;go_wp2;go_meet;exact ⟨rfl,rfl,S0.out⟩
 case rest =>
 obtain ⟨rfl,rfl,hs0⟩:=hcut;clear t1 t2 t3 t4 S0 hw1;have S0:=zc hs0;clear hs0;go_wp2_with fail
 go_loopw [89] (fun t wr=>∃ k:Nat,k≤K∧t = .int .u64 (k:Int)∧MdS V1 [qP gl M LP,qP gh M HP,qT b5 T] M b10 gL gH (qL M (lM ev f k)) (qL M (hM ev f k)) (zP ev f (0,1) k) wr) (fun t _=>K-(intOf t).toNat)
 case atStart=>exact ⟨0,Nat.zero_le _,rfl,S0.out⟩
 case round =>
  clear S0;obtain ⟨k,hk,rfl,s0⟩:=hrel;obtain ⟨t1,t2,t3,t4⟩:=(HS1.out _ s0.q.bl).cells;by_cases hlt:k<K
  ·have hc:decide ((k:Int)<(K:Int))=true:=decide_eq_true (by omega);have hc2:decide (k<K)=true:=decide_eq_true hlt;have hnx:IntKind.u64.wrap ((k:Int)+1)=(k:Int)+1:=by have:=HK9.out;rw [IntKind.wrap_u64];omega
   have he2:=fun W hb=>HEV.out k hlt W (zx BL1.out hb BL1.out.size);have S1:=zc s0;have HLT:=zc hlt;cases he:ev k with
   | false =>
     rw [he] at he2;have HE2:=zc he2;have HZ:=zc (And.intro (lM_none (f:=f) he) (And.intro (hM_none (f:=f) he) (zdo (f:=f) (z:=(0,1)) he)));clear he he2 s0 hlt hk;go_wp2_with (go_at_call 49;(with_reducible refine (HE2.out _ S1.out.q.bl).mono ?_);rintro e w5 ⟨rfl,hb5⟩;replace S1:=zc (S1.out.below hb5);clear hb5 t1 t2 t3 t4)
     go_roundw
     case rel=>exact ⟨k+1,Nat.succ_le_of_lt HLT.out,by go_num,by rw [HZ.out.1,HZ.out.2.1,HZ.out.2.2];exact S1.out⟩
     case measure=>have:=HLT.out;simp [intOf];omega
   | true =>
     rw [he] at he2;have HE2:=zc he2;have HE:=zc he;clear he he2 s0 hlt hk;go_upto_region 14 with (go_at_call 49;(with_reducible refine (HE2.out _ S1.out.q.bl).mono ?_);rintro e w5 ⟨rfl,hb5⟩;replace S1:=zc (S1.out.below hb5);clear hb5 t1 t2 t3 t4;obtain ⟨t1,t2,t3,t4⟩:=(HS1.out _ S1.out.q.bl).cells)
     go_cut [14] from 97 to 101 (fun p wx=>∃ b14,p = .pointer (some ⟨b14,0,none⟩)∧MdN V1 (qT b14 (f k)::[qP gl M LP,qP gh M HP,qT b5 T]) b10 gL gH∧MdS V1 (qT b14 (f k)::[qP gl M LP,qP gh M HP,qT b5 T]) M b10 gL gH (qL M (lM ev f k)) (qL M (hM ev f k)) (zP ev f (0,1) k) wx)
     case first =>
      have hw2:=HWT.out k HLT.out _ _ _ _ _ _ _ (HS1.out _ S1.out.q.bl);have HW2:=zc hw2;clear hw2;go_wp2_with (go_at_call 50;(with_reducible refine (HW2.out).mono ?_);rintro e w6 ⟨rfl,hb6⟩)
      all_goals
       go_meet;have s2:=S1.out.below hb6;have r1:=s2.rt.lt;have r2:=s2.rl.lt;have r3:=s2.rh.lt;exact ⟨w6.heap.size,rfl,NN.out.add ⟨by omega,by omega,by omega⟩,(s2.below ((zy _ _).alloc (zv _) _)).add ((zI w6 _ _ w6.heap.size 2 rfl rfl).congr (ye (f k).1 (f k).2))⟩
     case rest =>
     obtain ⟨b14,rfl,hn2,hs2⟩:=hcut;clear t1 t2 t3 t4 S1;obtain ⟨t1,t2,t3,t4⟩:=(HS1.out _ hs2.q.bl).cells;have NN2:=zc hn2;obtain ⟨a1,a2⟩:=zN hs2.rt;obtain ⟨a3,a4⟩:=zN (hs2.q.row 0 rfl);have S2:=zc hs2;clear hn2 hs2;have ha2:∀ W,_:=fun W=>HAD.out k HLT.out ev (0,1) (.inr rfl) W;rw [← zcS (p:=ev) (f:=f) (z:=(0,1)) HE.out] at ha2;obtain ⟨T2,hT2⟩:∃ p,zP ev f (0,1) (k+1)=p:=⟨_,rfl⟩;rw [hT2] at ha2;have HT2:=zc hT2;have HA2:=zc ha2;clear ha2 hT2;go_upto_region 16 with (go_at_call 27;(with_reducible refine (HA2.out _).mono ?_);rintro e w7 ⟨rfl,hb7⟩;replace S2:=zc (S2.out.below hb7);clear hb7 t1 t2 t3 t4 a1 a2 a3 a4;obtain ⟨a1,a2⟩:=zN S2.out.rt;have f1:=S2.out.rt.frozen 0;have f2:=S2.out.rt.frozen 1)
     have S3:=zc (S2.out.setT NN2.out T2);clear S2 a1 a2 f1 f2 HA2;obtain ⟨W3,hW3⟩:∃ W,(w7.setCell ⟨b10,0,none⟩ (.string (zb T2.1))).setCell ⟨b10,1,none⟩ (.string (zb T2.2))=W:=⟨_,rfl⟩;rw [hW3] at S3 ⊢;clear hW3;go_wp2_with fail
     go_loopw [15] (fun t wr=>∃ i:Nat,i≤n∧t = .int .i64 ((i:Int)+1)∧MdS V1 (qT b14 (f k)::[qP gl M LP,qP gh M HP,qT b5 T]) M b10 gL gH (yo M (i+1) (lM ev f (k+1)) (lM ev f k)) (yo M (i+1) (hM ev f (k+1)) (hM ev f k)) T2 wr) (fun t _=>n+1-(intOf t).toNat)
     case atStart=>exact ⟨0,Nat.zero_le _,rfl,by rw [zjs (f:=lM ev f (k+1)) (g:=lM ev f k) rfl,zjs (f:=hM ev f (k+1)) (g:=hM ev f k) rfl];exact S3.out⟩
     case round =>
      clear S3;obtain ⟨i,hi,rfl,s5⟩:=hrel;obtain ⟨t1,t2,t3,t4⟩:=(HS1.out _ s5.q.bl).cells;have S5:=zc s5;by_cases hli:i<n
      ·have hd:decide ((i:Int)+1≤N.n)=true:=decide_eq_true (by have:=HNN.out;omega);have hj:IntKind.i64.wrap ((i:Int)+1-1)=(i:Int):=by have:=HN8.out;rw [IntKind.wrap_i64];omega
       have hj2:IntKind.u64.wrap (i:Int)=(i:Int):=by have:=HN8.out;rw [IntKind.wrap_u64];omega
       have hmin:min i 64=i:=by have:=HN8.out;omega
       have hnx2:IntKind.i64.wrap ((i:Int)+1+1)=(i:Int)+1+1:=by have:=HN8.out;rw [IntKind.wrap_i64];omega
       have HIM:=zc (show i+1<M by have:=HMN.out;omega);have HLI:=zc hli;have hiM:((i:Int)+1)<(M:Int):=by have:=HIM.out;omega
       have hi0:(0:Int)≤(i:Int)+1:=by omega
       have hof:((i:Int)+1).toNat=i+1:=by omega
       have hbit:=j2 k i (by have:=HK9.out;have:=HLT.out;omega);clear hli hi s5;cases hb:k.testBit i with
       | true =>
         rw [hb] at hbit;have hyes:hM ev f (k+1) (i+1)=pq (qp (hM ev f k (i+1))+qp (f k)):=hM_yes (Nat.succ_ne_zero i) (by rw [HE.out,Nat.add_sub_cancel,hb];rfl);have hno:lM ev f (k+1) (i+1)=lM ev f k (i+1):=oc (by rw [HE.out,Nat.add_sub_cancel,hb];rfl);have hrs:(yo M (i+1) (hM ev f (k+1)) (hM ev f k)).getD (i+1) (0,0)=hM ev f k (i+1):=zju HIM.out;obtain ⟨s1,s2⟩:=jV S5.out.rh (i+1) HIM.out;rw [hrs] at s1 s2;obtain ⟨s3,s4⟩:=zN (S5.out.q.row 0 rfl);have ha2:∀ W,_:=fun W=>HAD.out k HLT.out (fun s=>ev s&&s.testBit i) (0,0) (.inl rfl) W;rw [← show hM ev f k (i+1)=zP (fun s=>ev s&&s.testBit i) f (0,0) k from rfl,← hyes] at ha2;obtain ⟨⟨ya,yd⟩,hy⟩:∃ p,hM ev f k (i+1)=p:=⟨_,rfl⟩;obtain ⟨⟨xa,xd⟩,hxx⟩:∃ p,f k=p:=⟨_,rfl⟩;obtain ⟨⟨za,zd⟩,hz⟩:∃ p,hM ev f (k+1) (i+1)=p:=⟨_,rfl⟩;rw [hy,hxx,hz] at ha2;rw [hy] at s1 s2;rw [hxx] at s3 s4;have HA2:=zc ha2;have HZ:=zc (show (yo M (i+1) (hM ev f (k+1)) (hM ev f k)).set (i+1) (za,zd)=yo M (i+1+1) (hM ev f (k+1)) (hM ev f k) from by rw [← hz];exact zjr);have HO:=zc (show yo M (i+1) (lM ev f (k+1)) (lM ev f k)=yo M (i+1+1) (lM ev f (k+1)) (lM ev f k) from zh3 hno);have lg:=S5.out.rh.lt;have l14:=(S5.out.q.row 0 rfl).lt;clear ha2 hyes hno hrs hy hxx hz hb;go_upto_region 20 with (fail)
         have HS:Hid (∀ W,Below wr.heap.size wr W→W.cell? ⟨gH,(i+1)*2,none⟩=some (.string (zb ya))∧W.cell? ⟨gH,(i+1)*2+1,none⟩=some (.string (zb yd))∧W.cell? ⟨b14,0,none⟩=some (.string (zb xa))∧W.cell? ⟨b14,1,none⟩=some (.string (zb xd))):=zc fun W hb=>⟨zG hb s1 lg,zG hb s2 lg,zG hb s3 l14,zG hb s4 l14⟩;refine yT (n:=_) (PX:=[zm (.slice (some ⟨gH,0,none⟩) M M),
            zm (.int .i64 ((i:Int)+1)),
            zm (.slice (some ⟨gH,0,none⟩) M M),
            zm (.int .i64 ((i:Int)+1)),
            zm (.pointer (some ⟨gH,(i+1)*2,none⟩)),
            zm (.agg #[.string (zb ya),.string (zb yd)]),
            zm (.agg #[.string (zb xa),.string (zb xd)]),
            zm (.agg #[.string (zb za),.string (zb zd)]),
            zm (.pointer (some ⟨gH,(i+1)*2,none⟩))])
           (AL:=[]) (DP:=[[],[],[],[],[2,3],[4],[],[5,6],[0,1]]) (L1:=[0,1,2,3,4,5,6,7,8]) (ex:=[]) (by kernel_rfl) rfl (by kernel_rfl) ?_ ?_ (ji ?_)
         ·repeat' first|exact qi|refine zo ?_ ?_|exact fun _ _ _ _ h _=>h
         ·refine zo (zw rfl [] ?_) (zo (zw rfl [] ?_) (zo (zw rfl [] ?_) (zo (zw rfl [] ?_) (zo (zw rfl [(2,some 120),(3,some 121)] ?_) (zo (zw rfl [(4,some 122)] ?_) (zo (zw rfl [] ?_) (zo ?_ (zo (zw rfl [(0,some 118),(1,some 119)] ?_) qi))))))));all_goals try (intro vs W hW hd K hK;(try simp only [qh,zm,and_true,List.getD_cons_succ,List.getD_cons_zero] at hd);(first | simp only [hd,zu,Act.put,zk,zj,zi,zg,zf,ze] at hK ⊢ | simp only [zu,Act.put,zk,zj,zi,zg,zf,ze] at hK ⊢ | skip);obtain ⟨m1,m2,m3,m4⟩:=HS.out W hW;go_simp;exact hK.out _ _ rfl (zy _ _) (yM rfl))
          ·refine zZ rfl [(5,some 123),(6,some 124)] ?_;intro vs W hW hd K hK;have d5:vs 5 = .agg #[.string (zb ya),.string (zb yd)]:=hd 5 (by decide);have d6:vs 6 = .agg #[.string (zb xa),.string (zb xd)]:=hd 6 (by decide);clear hd;try simp only [d5,d6,zu,Act.put,zk,zj,zi,zg,zf,ze] at hK ⊢
           go_simp;go_at_call 27;(with_reducible first | refine (HA2.out _).mono ?_);rintro e w9 ⟨rfl,hb9⟩;exact hK.out _ _ (rfl) hb9 (fun h=>absurd h (by decide))
         refine yp [(0,some 118),(1,some 119),(2,some 120),(3,some 121),(4,some 122),(5,some 123),(6,some 124),(7,some 125),(8,some 126)] #[true,true,true,true,true,true,true,true,true,false] 1 ?_;intro vs Wf hW hd hbk hdis kf;simp only [qh,zm,and_true,List.getD_cons_succ,List.getD_cons_zero] at hd;obtain ⟨d0,d1,d2,d3,d4,d5,d6,d7,d8⟩:=hd;clear hbk hdis;try simp only [d0,d1,d2,d3,d4,d5,d6,d7,d8,zu,Act.put,zk,zj,zi,zg,zf,ze]
         clear d0 d1 d2 d3 d4 d5 d6 d7 d8 vs;clear HS;have qf:=S5.out.below hW;obtain ⟨m0,m1⟩:=jV qf.rh (i+1) HIM.out;have f0:=qf.rh.frozen ((i+1)*2);have f1:=qf.rh.frozen ((i+1)*2+1);have HQF:=zc qf;clear qf;refine zL 9 (by kernel_rfl) rfl (fun K hK=>?_);go_simp;refine hK.out _ _ ?_;clear hK K;try simp only [zu,Act.put,zk,zj,zi,zg,zf,ze]
         refine z8 (by kernel_rfl) ?_ _;all_goals
          go_wp2;go_roundw
         case rel=>exact ⟨i+1,Nat.succ_le_of_lt HLI.out,by go_num,by rw [← HZ.out,← HO.out];exact HQF.out.setH NN2.out (by rw [zjt];exact HIM.out) (za,zd)⟩
         case measure=>have:=HLI.out;simp [intOf];omega
       | false =>
         rw [hb] at hbit;have hyes:lM ev f (k+1) (i+1)=pq (qp (lM ev f k (i+1))+qp (f k)):=lM_yes (Nat.succ_ne_zero i) (by rw [HE.out,Nat.add_sub_cancel,hb];rfl);have hno:hM ev f (k+1) (i+1)=hM ev f k (i+1):=og (by rw [HE.out,Nat.add_sub_cancel,hb];rfl);have hrs:(yo M (i+1) (lM ev f (k+1)) (lM ev f k)).getD (i+1) (0,0)=lM ev f k (i+1):=zju HIM.out;obtain ⟨s1,s2⟩:=jV S5.out.rl (i+1) HIM.out;rw [hrs] at s1 s2;obtain ⟨s3,s4⟩:=zN (S5.out.q.row 0 rfl);have ha2:∀ W,_:=fun W=>HAD.out k HLT.out (fun s=>ev s && !s.testBit i) (0,0) (.inl rfl) W;rw [← show lM ev f k (i+1)=zP (fun s=>ev s && !s.testBit i) f (0,0) k from rfl,← hyes] at ha2;obtain ⟨⟨ya,yd⟩,hy⟩:∃ p,lM ev f k (i+1)=p:=⟨_,rfl⟩;obtain ⟨⟨xa,xd⟩,hxx⟩:∃ p,f k=p:=⟨_,rfl⟩;obtain ⟨⟨za,zd⟩,hz⟩:∃ p,lM ev f (k+1) (i+1)=p:=⟨_,rfl⟩;rw [hy,hxx,hz] at ha2;rw [hy] at s1 s2;rw [hxx] at s3 s4;have HA2:=zc ha2;have HZ:=zc (show (yo M (i+1) (lM ev f (k+1)) (lM ev f k)).set (i+1) (za,zd)=yo M (i+1+1) (lM ev f (k+1)) (lM ev f k) from by rw [← hz];exact zjr);have HO:=zc (show yo M (i+1) (hM ev f (k+1)) (hM ev f k)=yo M (i+1+1) (hM ev f (k+1)) (hM ev f k) from zh3 hno);have lg:=S5.out.rl.lt;have l14:=(S5.out.q.row 0 rfl).lt;clear ha2 hyes hno hrs hy hxx hz hb;go_upto_region 21 with (fail)
         have HS:Hid (∀ W,Below wr.heap.size wr W→W.cell? ⟨gL,(i+1)*2,none⟩=some (.string (zb ya))∧W.cell? ⟨gL,(i+1)*2+1,none⟩=some (.string (zb yd))∧W.cell? ⟨b14,0,none⟩=some (.string (zb xa))∧W.cell? ⟨b14,1,none⟩=some (.string (zb xd))):=zc fun W hb=>⟨zG hb s1 lg,zG hb s2 lg,zG hb s3 l14,zG hb s4 l14⟩;refine yT (n:=_) (PX:=[zm (.slice (some ⟨gL,0,none⟩) M M),
            zm (.int .i64 ((i:Int)+1)),
            zm (.slice (some ⟨gL,0,none⟩) M M),
            zm (.int .i64 ((i:Int)+1)),
            zm (.pointer (some ⟨gL,(i+1)*2,none⟩)),
            zm (.agg #[.string (zb ya),.string (zb yd)]),
            zm (.agg #[.string (zb xa),.string (zb xd)]),
            zm (.agg #[.string (zb za),.string (zb zd)]),
            zm (.pointer (some ⟨gL,(i+1)*2,none⟩))])
           (AL:=[]) (DP:=[[],[],[],[],[2,3],[4],[],[5,6],[0,1]]) (L1:=[0,1,2,3,4,5,6,7,8]) (ex:=[]) (by kernel_rfl) rfl (by kernel_rfl) ?_ ?_ (ji ?_)
         ·repeat' first|exact qi|refine zo ?_ ?_|exact fun _ _ _ _ h _=>h
         ·refine zo (zw rfl [] ?_) (zo (zw rfl [] ?_) (zo (zw rfl [] ?_) (zo (zw rfl [] ?_) (zo (zw rfl [(2,some 129),(3,some 130)] ?_) (zo (zw rfl [(4,some 131)] ?_) (zo (zw rfl [] ?_) (zo ?_ (zo (zw rfl [(0,some 127),(1,some 128)] ?_) qi))))))));all_goals try (intro vs W hW hd K hK;(try simp only [qh,zm,and_true,List.getD_cons_succ,List.getD_cons_zero] at hd);(first | simp only [hd,zu,Act.put,zk,zj,zi,zg,zf,ze] at hK ⊢ | simp only [zu,Act.put,zk,zj,zi,zg,zf,ze] at hK ⊢ | skip);obtain ⟨m1,m2,m3,m4⟩:=HS.out W hW;go_simp;exact hK.out _ _ rfl (zy _ _) (yM rfl))
          ·refine zZ rfl [(5,some 132),(6,some 133)] ?_;intro vs W hW hd K hK;have d5:vs 5 = .agg #[.string (zb ya),.string (zb yd)]:=hd 5 (by decide);have d6:vs 6 = .agg #[.string (zb xa),.string (zb xd)]:=hd 6 (by decide);clear hd;try simp only [d5,d6,zu,Act.put,zk,zj,zi,zg,zf,ze] at hK ⊢
           go_simp;go_at_call 27;(with_reducible first | refine (HA2.out _).mono ?_);rintro e w9 ⟨rfl,hb9⟩;exact hK.out _ _ (rfl) hb9 (fun h=>absurd h (by decide))
         refine yp [(0,some 127),(1,some 128),(2,some 129),(3,some 130),(4,some 131),(5,some 132),(6,some 133),(7,some 134),(8,some 135)] #[true,true,true,true,true,true,true,true,true,false] 1 ?_;intro vs Wf hW hd hbk hdis kf;simp only [qh,zm,and_true,List.getD_cons_succ,List.getD_cons_zero] at hd;obtain ⟨d0,d1,d2,d3,d4,d5,d6,d7,d8⟩:=hd;clear hbk hdis;try simp only [d0,d1,d2,d3,d4,d5,d6,d7,d8,zu,Act.put,zk,zj,zi,zg,zf,ze]
         clear d0 d1 d2 d3 d4 d5 d6 d7 d8 vs;clear HS;have qf:=S5.out.below hW;obtain ⟨m0,m1⟩:=jV qf.rl (i+1) HIM.out;have f0:=qf.rl.frozen ((i+1)*2);have f1:=qf.rl.frozen ((i+1)*2+1);have HQF:=zc qf;clear qf;refine zL 9 (by kernel_rfl) rfl (fun K hK=>?_);go_simp;refine hK.out _ _ ?_;clear hK K;try simp only [zu,Act.put,zk,zj,zi,zg,zf,ze]
         refine z8 (by kernel_rfl) ?_ _;all_goals
          go_wp2;go_roundw
         case rel=>exact ⟨i+1,Nat.succ_le_of_lt HLI.out,by go_num,by rw [← HZ.out,← HO.out];exact HQF.out.setL NN2.out (by rw [zjt];exact HIM.out) (za,zd)⟩
         case measure=>have:=HLI.out;simp [intOf];omega
      ·obtain rfl:i=n:=by omega
       have hd:decide ((i:Int)+1≤N.n)=false:=decide_eq_false (by have:=HNN.out;omega);have HMI:=zc (show M=i+1 from HMN.out);clear hli hi s5;go_wp2_with fail
       go_roundw
       case rel =>
        refine ⟨k+1,Nat.succ_le_of_lt HLT.out,by go_num,?_⟩;have s6:=S5.out.tail;rw [← HMI.out,zjv,zjv,← HT2.out] at s6;exact s6
       case measure=>have:=HLT.out;simp [intOf];omega
  ·obtain rfl:k=K:=by omega
   have hc:decide ((k:Int)<(k:Int))=false:=decide_eq_false (by omega);have hc2:decide (k<k)=false:=decide_eq_false (by omega);have S6:=zc s0;clear s0 hlt hk HEV HWT HAD;go_wp2_with fail
   go_loopw [16] (fun t wr=>∃ v:Nat,1≤v∧v≤M∧t = .int .i64 (v:Int)∧MdS V1 [qP gl M LP,qP gh M HP,qT b5 T] M b10 gL gH (qL M (lM ev f k)) (qL M (hM ev f k)) (zP ev f (0,1) k) wr) (fun t _=>M-(intOf t).toNat)
   case atStart=>exact ⟨1,zv _,by have:=HMN.out;omega,rfl,S6.out⟩
   case round =>
    clear S6 t1 t2 t3 t4;obtain ⟨v,hv1,hv,rfl,s7⟩:=hrel;obtain ⟨t1,t2,t3,t4⟩:=(HS1.out _ s7.q.bl).cells;have S7:=zc s7;by_cases hlt:v<M
    ·have hd:decide ((v:Int)≤N.n)=true:=decide_eq_true (by have:=HNN.out;have:=HMN.out;omega);have hvM:(v:Int)<(M:Int):=by omega
     have hcl:=HSL.out v hv1 (by have:=HMN.out;omega);have hch:=HSH.out v hv1 (by have:=HMN.out;omega);obtain ⟨s1,s2⟩:=jV s7.rl v hlt;obtain ⟨s3,s4⟩:=jV (s7.q.row 0 rfl) v hlt;obtain ⟨s5,s6⟩:=jV s7.rh v hlt;obtain ⟨s8,s9⟩:=jV (s7.q.row 1 rfl) v hlt;rw [zgk _ hlt] at s1 s2 s5 s6;obtain ⟨⟨xa,xd⟩,e1⟩:∃ p,lM ev f k v=p:=⟨_,rfl⟩;obtain ⟨⟨ya,yd⟩,e2⟩:∃ p,LP.getD v (0,0)=p:=⟨_,rfl⟩;obtain ⟨⟨za,zd⟩,e3⟩:∃ p,hM ev f k v=p:=⟨_,rfl⟩;obtain ⟨⟨ua,ud⟩,e4⟩:∃ p,HP.getD v (0,0)=p:=⟨_,rfl⟩;rw [e1,e2] at hcl;rw [e3,e4] at hch;rw [e1] at s1 s2;rw [e2] at s3 s4;rw [e3] at s5 s6;rw [e4] at s8 s9;have HC1:=zc hcl;have HC2:=zc hch;have l1:=s7.rl.lt;have l2:=(s7.q.row 0 rfl).lt;have l3:=s7.rh.lt;have l4:=(s7.q.row 1 rfl).lt;have s7:=s8;have s8:=s9;have HLT:=zc hlt;clear hcl hch e1 e2 e3 e4 s9 hlt hv;go_upto_region 26 with (fail)
     go_cut [164] from 143 to 164 (fun p wx=>p = .bool false∧Below wr.heap.size wr wx)
     case first =>
      clear t1 t2 t3 t4;have HS:Hid (∀ W,Below wr.heap.size wr W→W.cell? ⟨gL,v*2,none⟩=some (.string (zb xa))∧W.cell? ⟨gL,v*2+1,none⟩=some (.string (zb xd))∧W.cell? ⟨gl,v*2,none⟩=some (.string (zb ya))∧W.cell? ⟨gl,v*2+1,none⟩=some (.string (zb yd))∧W.cell? ⟨gH,v*2,none⟩=some (.string (zb za))∧W.cell? ⟨gH,v*2+1,none⟩=some (.string (zb zd))∧W.cell? ⟨gh,v*2,none⟩=some (.string (zb ua))∧W.cell? ⟨gh,v*2+1,none⟩=some (.string (zb ud))):=zc fun W hb=>⟨zG hb s1 l1,zG hb s2 l1,zG hb s3 l2,zG hb s4 l2,zG hb s5 l3,zG hb s6 l3,zG hb s7 l4,zG hb s8 l4⟩;refine yT (n:=_) (PX:=[zm (.slice (some ⟨gL,0,none⟩) M M),
         zm (.int .i64 (v:Int)),
         zm (.pointer (some ⟨gL,v*2,none⟩)),
         zm (.agg #[.string (zb xa),.string (zb xd)]),
         zm (.slice (some ⟨gl,0,none⟩) M M),
         zm (.int .i64 (v:Int)),
         zm (.pointer (some ⟨gl,v*2,none⟩)),
         zm (.agg #[.string (zb ya),.string (zb yd)]),
         zm (.bool true),
         zm (.bool false),
         zm (.bool false),
         zm (.slice (some ⟨gH,0,none⟩) M M),
         zm (.int .i64 (v:Int)),
         zm (.pointer (some ⟨gH,v*2,none⟩)),
         zm (.agg #[.string (zb za),.string (zb zd)]),
         zm (.slice (some ⟨gh,0,none⟩) M M),
         zm (.int .i64 (v:Int)),
         zm (.pointer (some ⟨gh,v*2,none⟩)),
         zm (.agg #[.string (zb ua),.string (zb ud)]),
         zm (.bool true),
         zm (.bool false),
         zm (.bool false)])
        (AL:=[]) (DP:=[[],[],[0,1],[2],[],[],[4,5],[6],[3,7],[8],[9],[10],[10],[10,11,12],[10,13],[10],[10],[10,15,16],[10,17],[10,14,18],[10,19],[10,20]]) (L1:=[0,1,2,3,4,5,6,7,8,9,10,11,12,13,14,15,16,17,18,19,20,21]) (ex:=[]) (by kernel_rfl) rfl (by kernel_rfl) ?_ ?_ (ji ?_)
      ·repeat' first|exact qi|refine zo ?_ ?_|exact fun _ _ _ _ h _=>h
      ·refine zo (zw rfl [] ?_) (zo (zw rfl [] ?_) (zo (zw rfl [(0,some 143),(1,some 144)] ?_) (zo (zw rfl [(2,some 145)] ?_) (zo (zw rfl [] ?_) (zo (zw rfl [] ?_) (zo (zw rfl [(4,some 147),(5,some 148)] ?_) (zo (zw rfl [(6,some 149)] ?_) (zo ?_ (zo (zw rfl [(8,some 151)] ?_) (zo (zw rfl [(9,some 152)] ?_) (zo (zw rfl [(10,some 153)] ?_) (zo (zw rfl [(10,some 153)] ?_) (zo (zw rfl [(10,some 153),(11,some 154),(12,some 155)] ?_) (zo (zw rfl [(10,some 153),(13,some 156)] ?_) (zo (zw rfl [(10,some 153)] ?_) (zo (zw rfl [(10,some 153)] ?_) (zo (zw rfl [(10,some 153),(15,some 158),(16,some 159)] ?_) (zo (zw rfl [(10,some 153),(17,some 160)] ?_) (zo ?_ (zo (zw rfl [(10,some 153),(19,some 162)] ?_) (zo (zw rfl [(10,some 153),(20,some 163)] ?_) qi)))))))))))))))))))));all_goals try (intro vs W hW hd K hK;(try simp only [qh,zm,and_true,List.getD_cons_succ,List.getD_cons_zero] at hd);(first | simp only [hd,zu,Act.put,zk,zj,zi,zg,zf,ze] at hK ⊢ | simp only [zu,Act.put,zk,zj,zi,zg,zf,ze] at hK ⊢ | skip);obtain ⟨m1,m2,m3,m4,m5,m6,m7,m8⟩:=HS.out W hW;go_simp;exact hK.out _ _ rfl (zy _ _) (yM rfl))
       ·refine zZ rfl [(3,some 146),(7,some 150)] ?_;intro vs W hW hd K hK;have d3:vs 3 = .agg #[.string (zb xa),.string (zb xd)]:=hd 3 (by decide);have d7:vs 7 = .agg #[.string (zb ya),.string (zb yd)]:=hd 7 (by decide);clear hd;try simp only [d3,d7,zu,Act.put,zk,zj,zi,zg,zf,ze] at hK ⊢
        go_simp;go_at_call 26;(with_reducible first | refine (HC1.out _).mono ?_);rintro e w9 ⟨rfl,hb9⟩;exact hK.out _ _ (rfl) hb9 (fun h=>absurd h (by decide))
       ·refine zZ rfl [(10,some 153),(14,some 157),(18,some 161)] ?_;intro vs W hW hd K hK;have d10:vs 10 = .bool false:=hd 10 (by decide);have d14:vs 14 = .agg #[.string (zb za),.string (zb zd)]:=hd 14 (by decide);have d18:vs 18 = .agg #[.string (zb ua),.string (zb ud)]:=hd 18 (by decide);clear hd;try simp only [d10,d14,d18,zu,Act.put,zk,zj,zi,zg,zf,ze] at hK ⊢
        go_simp;go_at_call 26;(with_reducible first | refine (HC2.out _).mono ?_);rintro e w9 ⟨rfl,hb9⟩;exact hK.out _ _ (rfl) hb9 (fun h=>absurd h (by decide))
      refine yp [(0,some 143),(1,some 144),(2,some 145),(3,some 146),(4,some 147),(5,some 148),(6,some 149),(7,some 150),(8,some 151),(9,some 152),(10,some 153),(11,some 154),(12,some 155),(13,some 156),(14,some 157),(15,some 158),(16,some 159),(17,some 160),(18,some 161),(19,some 162),(20,some 163),(21,some 164)] #[true,true,true,true,true,true,true,true,true,true,true,true,true,true,true,true,true,true,true,true,true,true] 0 ?_;intro vs Wf hW hd hbk hdis kf;simp only [qh,zm,and_true,List.getD_cons_succ,List.getD_cons_zero] at hd;obtain ⟨d0,d1,d2,d3,d4,d5,d6,d7,d8,d9,d10,d11,d12,d13,d14,d15,d16,d17,d18,d19,d20,d21⟩:=hd;clear hbk hdis;try simp only [d0,d1,d2,d3,d4,d5,d6,d7,d8,d9,d10,d11,d12,d13,d14,d15,d16,d17,d18,d19,d20,d21,zu,Act.put,zk,zj,zi,zg,zf,ze]
      clear d0 d1 d2 d3 d4 d5 d6 d7 d8 d9 d10 d11 d12 d13 d14 d15 d16 d17 d18 d19 d20 d21 vs;clear HS;refine z8 (by kernel_rfl) ?_ _;all_goals
       try go_wp2
       go_meet;exact ⟨rfl,hW⟩
     case rest =>
     obtain ⟨rfl,hb5⟩:=hcut;clear s1 s2 s3 s4 s5 s6 s7 s8 t1 t2 t3 t4;have hnx:IntKind.i64.wrap ((v:Int)+1)=(v:Int)+1:=by have:=HM9.out;have:=HLT.out;rw [IntKind.wrap_i64];omega
     go_wp2;go_roundw
     case rel=>exact ⟨v+1,by omega,Nat.succ_le_of_lt HLT.out,by go_num,S7.out.below hb5⟩
     case measure=>have:=HLT.out;simp [intOf];omega
    ·have hd:decide ((v:Int)≤N.n)=false:=decide_eq_false (by have:=HNN.out;have:=HMN.out;omega);obtain ⟨s1,s2⟩:=zN (s7.q.row 2 rfl);obtain ⟨s3,s4⟩:=zN s7.rt;clear s7 hlt hv;go_wp2_with (first
      | (go_at_call 26;(with_reducible refine (HST.out _).mono ?_);rintro e w8 ⟨rfl,hb8⟩;replace S7:=zc (S7.out.below hb8);clear hb8 t1 t2 t3 t4 s1 s2 s3 s4)
      | (go_at_call 15;(with_reducible refine (zbV _ ((HS1.out _ S7.out.q.bl).tb)).mono ?_);rintro e w9 ⟨rfl,hb9⟩;replace S7:=zc (S7.out.below hb9)))
     all_goals
      go_ret;exact ⟨rfl,zx BL1.out S7.out.q.bl BL1.out.size⟩
end Go.Proofs.YtmhllppjcilllaaGreatDoor
