import Derived.Test.YtmhllppjcilllaaGreatDoorGw
import Derived.BigGuardPart
import Derived.Deep.CutRange
set_option linter.unusedSimpArgs false
set_option linter.unusedVariables false
set_option maxRecDepth 100000
set_option maxHeartbeats 4000000
open Go Go.RowKit Cs
namespace Go.Proofs.YtmhllppjcilllaaGreatDoor
theorem xG (w:World) (hT:Tab w) (N:Nt) (A:Option Addr) (c:Nat) (Aw:Option Addr) (lw cw:Nat) (At:Option Addr) (lt ct:Nat) (hlen:N.l.length≤140737488355328) (hN:NtAt w w.heap.size A N.l) (hl:jL N lt=false) :
  Calls Tryz.prog 5 #[yu N A c Aw lw cw At lt ct] w fun e w'=>e = .returned (.bool true)∧Below w.heap.size w w':=by
 have q0:Kp w [jb w.heap.size N A c Aw lw cw At lt ct] (w.alloc (.cells #[.int .i64 N.n,.slice A N.l.length c,.slice Aw lw cw,.slice At lt ct] 28)):=(Kp.nil w).new _ _ w.heap.size 4 rfl rfl;obtain ⟨s1,s2,s3,s4⟩:=jR (q0.row 0 rfl);have hli:∀ W,Below w.heap.size w W→_:=fun W h=>zcn W N A c Aw lw cw At lt ct hlen ((hN.below h).more h.size);rw [hl] at hli;have HLI:=zb hli;have HT:=zb hT;have Q0:=zb q0;clear hli hT q0 hl;go_enter Tryz.func5, Tryz.ntmps5;go_wp2_with (first
  | (go_at_call 14;(with_reducible refine (HLI.out _ Q0.out.bl).mono ?_);rintro e w1 ⟨rfl,hb1⟩;have Q1:=zb (Q0.out.below hb1);clear hb1 s1 s2 s3 s4;obtain ⟨s1,s2,s3,s4⟩:=jR (Q1.out.row 0 rfl))
  | (go_at_call 15;(with_reducible refine (zd5 _ (HT.out.below Q1.out.bl)).mono ?_);rintro e w2 ⟨rfl,hb2⟩;have Q2:=zb (Q1.out.below hb2)))
 all_goals
  go_ret;exact ⟨rfl,Q2.out.bl⟩
theorem zcd (w:World) (hT:Tab w) (N:Nt) (A:Option Addr) (c:Nat) (Aw:Option Addr) (lw cw:Nat) (At:Option Addr) (lt ct:Nat) (hlen:N.l.length≤140737488355328) (hN:NtAt w w.heap.size A N.l) (hl:jL N lt=true) (PW PS:Value→World→Prop) (hpw:∀ v W W',PW v W→Below W.heap.size W W'→PW v W') (hps:∀ v W W',PS v W→Below W.heap.size W W'→PS v W') (E:Int) (ta tb xa xb:Nat)
  (h1:∀ W,Below w.heap.size w W→Calls Tryz.prog 17 #[yu N A c Aw lw cw At lt ct] W fun e w'=>∃ v,e = .returned v∧PW v w'∧Below W.heap.size W w')
  (h2:∀ W v,Below w.heap.size w W→PW v W→Calls Tryz.prog 23 #[qg N A c,v,.slice At lt ct] W fun e w'=>e = .returned (.tuple #[zI ta tb,.int .i64 E])∧Below W.heap.size W w')
  (h3:∀ W,Below w.heap.size w W→Calls Tryz.prog 19 #[yu N A c Aw lw cw At lt ct] W fun e w'=>∃ v,e = .returned v∧PS v w'∧Below W.heap.size W w')
  (h4:∀ W v,Below w.heap.size w W→PS v W→Calls Tryz.prog 24 #[qg N A c,v,.slice At lt ct] W fun e w'=>e = .returned (.tuple #[.agg #[.string (zc xa),.string (zc xb)],.int .i64 E])∧Below W.heap.size W w')
  (h5:∀ W,Calls Tryz.prog 20 #[zI ta tb,.agg #[.string (zc xa),.string (zc xb)]] W fun e w'=>e = .returned (.bool true)∧Below W.heap.size W w') :
  Calls Tryz.prog 5 #[yu N A c Aw lw cw At lt ct] w fun e w'=>e = .returned (.bool true)∧Below w.heap.size w w':=by
 have q0:Kp w [jb w.heap.size N A c Aw lw cw At lt ct] (w.alloc (.cells #[.int .i64 N.n,.slice A N.l.length c,.slice Aw lw cw,.slice At lt ct] 28)):=(Kp.nil w).new _ _ w.heap.size 4 rfl rfl;obtain ⟨s1,s2,s3,s4⟩:=jR (q0.row 0 rfl);have hli:∀ W,Below w.heap.size w W→_:=fun W h=>zcn W N A c Aw lw cw At lt ct hlen ((hN.below h).more h.size);rw [hl] at hli;have HLI:=zb hli;have HPW:=zb hpw;have HPS:=zb hps;have HTP:=zb h2;have HTS:=zb h4;have HIS:=zb h5;have HWP:=zb h1;have HWS:=zb h3;have HT:=zb hT;have Q0:=zb q0;clear hli hT q0 hN hl hpw hps h1 h2 h3 h4 h5;go_enter Tryz.func5, Tryz.ntmps5;go_upto_region 3 with (go_at_call 14;(with_reducible refine (HLI.out _ Q0.out.bl).mono ?_);rintro e V0 ⟨rfl,hb1⟩;have Q1:=zb (Q0.out.below hb1);clear hb1 s1 s2 s3 s4;obtain ⟨s1,s2,s3,s4⟩:=jR (Q1.out.row 0 rfl))
 clear HLI Q0;go_cut [3,4] from 11 to 20 (fun p q wx=>∃ b3,p = .pointer (some ⟨b3,0,none⟩)∧q = .int .i64 E∧Kp w [(b3, 33,2,zy #[.string (za ta),.string (za tb)]),jb w.heap.size N A c Aw lw cw At lt ct] wx)
 case first =>
  have BL:=zb Q1.out.bl;have hbx:=(Q1.out.row 0 rfl).lt;have HS:Hid (∀ W,Below V0.heap.size V0 W→W.cell? ⟨w.heap.size,0,none⟩=some (.int .i64 N.n)∧W.cell? ⟨w.heap.size,1,none⟩=some (.slice A N.l.length c)∧W.cell? ⟨w.heap.size,2,none⟩=some (.slice Aw lw cw)∧W.cell? ⟨w.heap.size,3,none⟩=some (.slice At lt ct)):=zb fun W hb=>⟨zC hb s1 hbx,zC hb s2 hbx,zC hb s3 hbx,zC hb s4 hbx⟩;refine zaN (n:=_) (PX:=[zl (.pointer (some ⟨w.heap.size,0,none⟩)),
     zl (.agg #[.int .i64 N.n,.slice A N.l.length c]),
     zl (.agg #[.int .i64 N.n,.slice A N.l.length c,.slice Aw lw cw,.slice At lt ct]),
     fun xl xv xw=>∃ v,xv=v∧PW v xw,
     zl (.pointer (some ⟨w.heap.size,3,none⟩)),
     zl (.slice At lt ct),
     zl (.tuple #[.agg #[.string (za ta),.string (za tb)],.int .i64 E]),
     zl (.tuple #[.agg #[.string (za ta),.string (za tb)],.int .i64 E]),
     zl (.agg #[.string (za ta),.string (za tb)]),
     zl (.int .i64 E),
     fun xl xv xw=>∃ X,xv = .pointer (some ⟨X,0,none⟩)∧V0.heap.size≤X∧World.rowIs xw X 33 2 (zy #[.string ⟨#[]⟩,.string ⟨#[]⟩])])
    (AL:=[10]) (DP:=[[],[0],[],[2],[],[4],[1,3,5],[6],[7],[7],[]]) (L1:=[0,1,2,3,4,5,6,7,8,10]) (ex:=[9]) (by kernel_rfl) rfl (by kernel_rfl) (by kernel_rfl) (fun _ _ _ _ _ h=>h) ?_ ?_ ?_ ?_
  ·repeat' first|exact zW|refine zk ?_ ?_|exact fun _ _ _ _ h _=>h|fail
   ·exact fun l v w w2 h hb=>by obtain ⟨x,h1,h2⟩:=h;exact ⟨x,h1,HPW.out _ _ _ h2 hb⟩
   ·exact fun l v w w2 h hb=>by obtain ⟨X,h1,h2,h3⟩:=h;exact ⟨X,h1,h2,zo h3 hb⟩
  ·refine zk (zv rfl [] ?_) (zk (zv rfl [(0,some 12)] ?_) (zk (zv rfl [] ?_) (zk ?_ (zk (zv rfl [] ?_) (zk (zv rfl [(4,some 16)] ?_) (zk ?_ (zk (zv rfl [(6,some 18)] ?_) (zk (zv rfl [(7,some 11)] ?_) (zk ?_ zW)))))))));all_goals try (intro vs W hW hd K hK;(try simp only [qa,zl,and_true,List.getD_cons_succ,List.getD_cons_zero] at hd);(first | simp only [hd,zm,Act.put,zj,zi,zh,zg,zf,ze] at hK ⊢ | simp only [zm,Act.put,zj,zi,zh,zg,zf,ze] at hK ⊢ | skip);obtain ⟨m1,m2,m3,m4⟩:=HS.out W hW;go_simp;exact hK.out _ _ rfl (zx _ _) (qU rfl))
   ·refine zJ rfl [(2,some 14)] ?_;intro vs W hW hd K hK;have d2:vs 2 = .agg #[.int .i64 N.n,.slice A N.l.length c,.slice Aw lw cw,.slice At lt ct]:=hd 2 (by decide);clear hd;try simp only [d2,zm,Act.put,zj,zi,zh,zg,zf,ze] at hK ⊢
    go_simp;go_at_call 17;(with_reducible first | refine (HWP.out _ (zw BL.out hW BL.out.size)).mono ?_);rintro e w9 ⟨v,rfl,hq9,hb9⟩;exact hK.out _ _ (⟨_,rfl,hq9⟩) hb9 (fun h=>absurd h (by decide))
   ·refine zJ rfl [(1,some 13),(3,some 15),(5,some 17)] ?_;intro vs W hW hd K hK;have d1:vs 1 = .agg #[.int .i64 N.n,.slice A N.l.length c]:=hd 1 (by decide);obtain ⟨v,d3,hq8⟩:∃ v,vs 3=v∧PW v W:=hd 3 (by decide);have d5:vs 5 = .slice At lt ct:=hd 5 (by decide);clear hd;try simp only [d1,d3,d5,zm,Act.put,zj,zi,zh,zg,zf,ze] at hK ⊢
    go_simp;go_at_call 23;(with_reducible first | refine (HTP.out _ _ (zw BL.out hW BL.out.size) hq8).mono ?_);rintro e w9 ⟨rfl,hb9⟩;exact hK.out _ _ (rfl) hb9 (fun h=>absurd h (by decide))
   ·refine zJ rfl [] ?_;intro vs W hW hd K hK;clear hd;try simp only [zm,Act.put,zj,zi,zh,zg,zf,ze] at hK ⊢
    go_simp;exact hK.out _ _ ⟨W.heap.size,rfl,hW.size,zF _ _ _ _ _ rfl rfl⟩ ((zx _ _).alloc (zu _) _) (fun _ b hb=>by simp [z7] at hb;subst hb;exact ⟨zu _,by simp⟩)
  ·refine zk ?_ zW
   ·refine YieldOk.intro rfl [(7,some 11)] (by kernel_rfl) (fun _=>.int .i64 E) rfl ?_;intro vs W hd;have d7:vs 7 = .tuple #[.agg #[.string (za ta),.string (za tb)],.int .i64 E]:=hd 7 (by decide);clear hd;refine ⟨rfl,fun w2=>?_⟩;try simp only [d7,zm,Act.put,zj,zi,zh,zg,zf,ze]
    go_simp
  refine qQ [(0,some 12),(1,some 13),(2,some 14),(3,some 15),(4,some 16),(5,some 17),(6,some 18),(7,some 11),(8,some 19),(10,some 3),(9,some 20)] #[true,true,true,true,true,true,true,true,true,true,true,false,false] 2 ?_;intro vs Wf hW hd hbk hdis kf;simp only [qa,zl,and_true,List.getD_cons_succ,List.getD_cons_zero] at hd;obtain ⟨d0,d1,d2,⟨v,d3,hq8⟩,d4,d5,d6,d7,d8,⟨X3,d10,b3,r3⟩,d9⟩:=hd;clear hbk hdis;try simp only [d0,d1,d2,d3,d4,d5,d6,d7,d8,d10,d9,zm,Act.put,zj,zi,zh,zg,zf,ze]
  clear d0 d1 d2 d3 d4 d5 d6 d7 d8 d10 d9 vs;clear HS;have l3:=r3.lt;have y3_0:=r3.frozen 0;have k3_0:=r3.cell (i:=0) (by decide);have y3_1:=r3.frozen 1;have k3_1:=r3.cell (i:=1) (by decide);refine zE 11 (by kernel_rfl) rfl (fun K hK=>?_);go_simp;refine hK.out _ _ ?_;clear hK K;try simp only [zm,Act.put,zj,zi,zh,zg,zf,ze]
  refine zE 12 (by kernel_rfl) rfl (fun K hK=>?_);go_simp;refine hK.out _ _ ?_;clear hK K;try simp only [zm,Act.put,zj,zi,zh,zg,zf,ze]
  refine qc (by kernel_rfl) ?_ _;all_goals
   try go_wp2
   go_meet;exact ⟨X3,rfl,rfl,Q1.out.box hW b3 r3 _ _⟩
 case rest =>
 obtain ⟨b3,rfl,rfl,hq⟩:=hcut;obtain ⟨V1,rfl⟩:∃ V,V=wc:=⟨wc,rfl⟩;have Q2:=zb hq;clear s1 s2 s3 s4 hq Q1 HTP HWP HPW;obtain ⟨s1,s2,s3,s4⟩:=jR (Q2.out.row 1 rfl);go_upto_region 4 with (fail)
 go_cut [5,6] from 21 to 30 (fun p q wx=>∃ b5,p = .pointer (some ⟨b5,0,none⟩)∧q = .int .i64 E∧Kp w [(b5, 42,2,zy #[.string (zc xa),.string (zc xb)]),(b3, 33,2,zy #[.string (za ta),.string (za tb)]),jb w.heap.size N A c Aw lw cw At lt ct] wx)
 case first =>
  have BL:=zb Q2.out.bl;have hbx:=(Q2.out.row 1 rfl).lt;have HS:Hid (∀ W,Below V1.heap.size V1 W→W.cell? ⟨w.heap.size,0,none⟩=some (.int .i64 N.n)∧W.cell? ⟨w.heap.size,1,none⟩=some (.slice A N.l.length c)∧W.cell? ⟨w.heap.size,2,none⟩=some (.slice Aw lw cw)∧W.cell? ⟨w.heap.size,3,none⟩=some (.slice At lt ct)):=zb fun W hb=>⟨zC hb s1 hbx,zC hb s2 hbx,zC hb s3 hbx,zC hb s4 hbx⟩;refine zaN (n:=_) (PX:=[zl (.pointer (some ⟨w.heap.size,0,none⟩)),
     zl (.agg #[.int .i64 N.n,.slice A N.l.length c]),
     zl (.agg #[.int .i64 N.n,.slice A N.l.length c,.slice Aw lw cw,.slice At lt ct]),
     fun xl xv xw=>∃ v,xv=v∧PS v xw,
     zl (.pointer (some ⟨w.heap.size,3,none⟩)),
     zl (.slice At lt ct),
     zl (.tuple #[.agg #[.string (zc xa),.string (zc xb)],.int .i64 E]),
     zl (.tuple #[.agg #[.string (zc xa),.string (zc xb)],.int .i64 E]),
     zl (.agg #[.string (zc xa),.string (zc xb)]),
     zl (.int .i64 E),
     fun xl xv xw=>∃ X,xv = .pointer (some ⟨X,0,none⟩)∧V1.heap.size≤X∧World.rowIs xw X 42 2 (zy #[.string ⟨#[]⟩,.string ⟨#[]⟩])])
    (AL:=[10]) (DP:=[[],[0],[],[2],[],[4],[1,3,5],[6],[7],[7],[]]) (L1:=[0,1,2,3,4,5,6,7,8,10]) (ex:=[9]) (by kernel_rfl) rfl (by kernel_rfl) (by kernel_rfl) (fun _ _ _ _ _ h=>h) ?_ ?_ ?_ ?_
  ·repeat' first|exact zW|refine zk ?_ ?_|exact fun _ _ _ _ h _=>h|fail
   ·exact fun l v w w2 h hb=>by obtain ⟨x,h1,h2⟩:=h;exact ⟨x,h1,HPS.out _ _ _ h2 hb⟩
   ·exact fun l v w w2 h hb=>by obtain ⟨X,h1,h2,h3⟩:=h;exact ⟨X,h1,h2,zo h3 hb⟩
  ·refine zk (zv rfl [] ?_) (zk (zv rfl [(0,some 22)] ?_) (zk (zv rfl [] ?_) (zk ?_ (zk (zv rfl [] ?_) (zk (zv rfl [(4,some 26)] ?_) (zk ?_ (zk (zv rfl [(6,some 28)] ?_) (zk (zv rfl [(7,some 21)] ?_) (zk ?_ zW)))))))));all_goals try (intro vs W hW hd K hK;(try simp only [qa,zl,and_true,List.getD_cons_succ,List.getD_cons_zero] at hd);(first | simp only [hd,zm,Act.put,zj,zi,zh,zg,zf,ze] at hK ⊢ | simp only [zm,Act.put,zj,zi,zh,zg,zf,ze] at hK ⊢ | skip);obtain ⟨m1,m2,m3,m4⟩:=HS.out W hW;go_simp;exact hK.out _ _ rfl (zx _ _) (qU rfl))
   ·refine zJ rfl [(2,some 24)] ?_;intro vs W hW hd K hK;have d2:vs 2 = .agg #[.int .i64 N.n,.slice A N.l.length c,.slice Aw lw cw,.slice At lt ct]:=hd 2 (by decide);clear hd;try simp only [d2,zm,Act.put,zj,zi,zh,zg,zf,ze] at hK ⊢
    go_simp;go_at_call 19;(with_reducible first | refine (HWS.out _ (zw BL.out hW BL.out.size)).mono ?_);rintro e w9 ⟨v,rfl,hq9,hb9⟩;exact hK.out _ _ (⟨_,rfl,hq9⟩) hb9 (fun h=>absurd h (by decide))
   ·refine zJ rfl [(1,some 23),(3,some 25),(5,some 27)] ?_;intro vs W hW hd K hK;have d1:vs 1 = .agg #[.int .i64 N.n,.slice A N.l.length c]:=hd 1 (by decide);obtain ⟨v,d3,hq8⟩:∃ v,vs 3=v∧PS v W:=hd 3 (by decide);have d5:vs 5 = .slice At lt ct:=hd 5 (by decide);clear hd;try simp only [d1,d3,d5,zm,Act.put,zj,zi,zh,zg,zf,ze] at hK ⊢
    go_simp;go_at_call 24;(with_reducible first | refine (HTS.out _ _ (zw BL.out hW BL.out.size) hq8).mono ?_);rintro e w9 ⟨rfl,hb9⟩;exact hK.out _ _ (rfl) hb9 (fun h=>absurd h (by decide))
   ·refine zJ rfl [] ?_;intro vs W hW hd K hK;clear hd;try simp only [zm,Act.put,zj,zi,zh,zg,zf,ze] at hK ⊢
    go_simp;exact hK.out _ _ ⟨W.heap.size,rfl,hW.size,zF _ _ _ _ _ rfl rfl⟩ ((zx _ _).alloc (zu _) _) (fun _ b hb=>by simp [z7] at hb;subst hb;exact ⟨zu _,by simp⟩)
  ·refine zk ?_ zW
   ·refine YieldOk.intro rfl [(7,some 21)] (by kernel_rfl) (fun _=>.int .i64 E) rfl ?_;intro vs W hd;have d7:vs 7 = .tuple #[.agg #[.string (zc xa),.string (zc xb)],.int .i64 E]:=hd 7 (by decide);clear hd;refine ⟨rfl,fun w2=>?_⟩;try simp only [d7,zm,Act.put,zj,zi,zh,zg,zf,ze]
    go_simp
  refine qQ [(0,some 22),(1,some 23),(2,some 24),(3,some 25),(4,some 26),(5,some 27),(6,some 28),(7,some 21),(8,some 29),(10,some 5),(9,some 30)] #[true,true,true,true,true,true,true,true,true,true,true,false,false] 2 ?_;intro vs Wf hW hd hbk hdis kf;simp only [qa,zl,and_true,List.getD_cons_succ,List.getD_cons_zero] at hd;obtain ⟨d0,d1,d2,⟨v,d3,hq8⟩,d4,d5,d6,d7,d8,⟨X5,d10,b5,r5⟩,d9⟩:=hd;clear hbk hdis;try simp only [d0,d1,d2,d3,d4,d5,d6,d7,d8,d10,d9,zm,Act.put,zj,zi,zh,zg,zf,ze]
  clear d0 d1 d2 d3 d4 d5 d6 d7 d8 d10 d9 vs;clear HS;have l5:=r5.lt;have y5_0:=r5.frozen 0;have k5_0:=r5.cell (i:=0) (by decide);have y5_1:=r5.frozen 1;have k5_1:=r5.cell (i:=1) (by decide);refine zE 11 (by kernel_rfl) rfl (fun K hK=>?_);go_simp;refine hK.out _ _ ?_;clear hK K;try simp only [zm,Act.put,zj,zi,zh,zg,zf,ze]
  refine zE 12 (by kernel_rfl) rfl (fun K hK=>?_);go_simp;refine hK.out _ _ ?_;clear hK K;try simp only [zm,Act.put,zj,zi,zh,zg,zf,ze]
  refine qc (by kernel_rfl) ?_ _;all_goals
   try go_wp2
   go_meet;exact ⟨X5,rfl,rfl,Q2.out.box hW b5 r5 _ _⟩
 case rest =>
 obtain ⟨b5,rfl,rfl,hq⟩:=hcut;clear s1 s2 s3 s4;have k1:World.cell? _ ⟨b5,0,none⟩=some (.string (zc xa)):=(hq.row 0 rfl).cell (i:=0) (by decide);have k2:World.cell? _ ⟨b5,1,none⟩=some (.string (zc xb)):=(hq.row 0 rfl).cell (i:=1) (by decide);have k3:World.cell? _ ⟨b3,0,none⟩=some (.string (za ta)):=(hq.row 1 rfl).cell (i:=0) (by decide);have k4:World.cell? _ ⟨b3,1,none⟩=some (.string (za tb)):=(hq.row 1 rfl).cell (i:=1) (by decide);have Q3:=zb hq;clear hq Q2 HTS HWS HPS;go_wp2_with (first
  | (go_at_call 20;(with_reducible refine (HIS.out _).mono ?_);rintro e w5 ⟨rfl,hb5⟩;have Q4:=zb (Q3.out.below hb5);clear k1 k2 k3 k4)
  | (go_at_call 15;(with_reducible refine (zd5 _ (HT.out.below Q4.out.bl)).mono ?_);rintro e w6 ⟨rfl,hb6⟩;have Q5:=zb (Q4.out.below hb6)))
 all_goals
  go_ret;exact ⟨rfl,Q5.out.bl⟩
theorem zjY (w:World) (hT:Tab w) (N:Nt) (A:Option Addr) (c:Nat) (Aw:Option Addr) (lw cw:Nat) (At:Option Addr) (t:List Int) (ct:Nat) (F:Nat→Nat) (hlen:N.l.length≤140737488355328) (hN:NtAt w w.heap.size A N.l)
  (hlw:lw≤140737488355328) (hw:Rd w w.heap.size Aw (lw*4) (fun i=>.int .u8 (F i:Nat))) (hF:∀ i,F i<256) (htr:Rd w w.heap.size At t.length (zO t)) (htz:∀ x∈t,-9223372036854775808≤x∧x≤9223372036854775807) :
  Calls Tryz.prog 5 #[yu N A c Aw lw cw At t.length ct] w fun e w'=>e = .returned (.bool true)∧Below w.heap.size w w':=by
 by_cases hl:jL N t.length=true
 case neg=>exact xG w hT N A c Aw lw cw At t.length ct hlen hN (by simpa using hl)
 have q0:qn (0:Rat)=0:=by decide
 have d0:(0:Rat).den=1:=rfl;have z1:zz (qn (0:Rat))≤1000000:=by rw [q0];decide +kernel
 have z2:zz (0:Rat).den≤1000000:=by rw [d0];decide +kernel
 have htl:t.length≤1000000:=by
  unfold jL at hl;rw [Bool.and_eq_true,Bool.and_eq_true] at hl;have:=hl.1.2;simp only [decide_eq_true_eq] at this;omega
 by_cases hv:zG N=true
 ·obtain ⟨hn0,hn1,hl0,hl1⟩:=qN hv;have h8:=askB_8 hl hv;have hin:=oB hl;obtain ⟨n,hn⟩:∃ n:Nat,N.n=n:=⟨N.n.toNat,by omega⟩;have hn8:n≤8:=by omega
  have hpw:=pw_hyp w N A c Aw lw cw At t.length ct F hlw hw hF n hn (by omega);have hps:=ps_hyp w N A c Aw lw cw At t.length ct F hlw hw hF n hn (by omega);have hW:=aw_in lw F n;have hb:=oA lw F n (by omega);have h6:=aw_six lw F (n+1);obtain ⟨L,hL⟩:∃ L,qK lw F (n+1)=L:=⟨_,rfl⟩;obtain ⟨H,hH⟩:∃ H,qL lw F (n+1)=H:=⟨_,rfl⟩;rw [hL,hH] at hpw hps hW hb;simp only [hL,hH] at h6;have hwf:yc N n L H=qu N:=zgS hb;have h6l:=fun k=>(h6 k).1;have h6h:=fun k=>(h6 k).2;have hte:∀ W,Below w.heap.size w W→Calls Tryz.prog 63 #[.slice At t.length ct,.int .i64 N.n] W fun e w'=>e = .returned (.bool (yj N.n t))∧Below W.heap.size W w':=fun W h=>xJ W At ct t N.n (by omega) (by omega) htl ((htr.below h).more h.size);have hck:∀ W v,Below w.heap.size w W→yG n L H v W→∃ Al Ah cl ch,v = .agg #[.slice Al (n+1) cl,.slice Ah (n+1) ch]∧n+1≤cl∧n+1≤ch∧Rd W W.heap.size Al ((n+1)*2) (zL (L.map qp))∧Rd W W.heap.size Ah ((n+1)*2) (zL (H.map qp))∧RkE W N A c cl ch (n+1) (n+1) Al Ah (qu N):=by
   rintro W v hWb ⟨Al,Ah,cl,ch,rfl,m1,m2,r1,r2⟩;refine ⟨Al,Ah,cl,ch,rfl,m1,m2,r1,r2,fun V hV=>?_⟩;have hB:=zw hWb hV hWb.size;exact gA V N A c n cl ch (L.map qp) (H.map qp) Al Ah hlen ((hN.below hB).more hB.size) hv hn ((r1.below hV).more hV.size) ((r2.below hV).more hV.size) m1 m2 (fun k=>by rw [yV];exact ziz (by have:=(h6l k).1;omega) (by have:=(h6l k).2;omega)) (fun k=>by rw [yV];exact ziz (by have:=(h6h k).1;omega) (by have:=(h6h k).2;omega))
    (fun j hj=>Nat.le_trans (zil h6l h6h j) (by omega))
  have hsh:∀ W v,Below w.heap.size w W→PwV n L H v W→∀ (S:Pr) (E:Int),yE N n L H t=(S,E)→Calls Tryz.prog 23 #[qg N A c,v,.slice At t.length ct] W fun e w'=>e = .returned (.tuple #[zI S.1 S.2,.int .i64 E])∧Below W.heap.size W w':=by
   rintro W v hWb ⟨Al,Ah,cl,ch,rfl,m1,m2,r1,r2⟩ S E hS;have:=zhe W N A c cl ch ct n L H t Al Ah At ((hN.below hWb).more hWb.size) hv hn (hT.below hWb) hin hW r1 r2 m1 m2 ((htr.below hWb).more hWb.size) htl htz;rwa [hS] at this
  by_cases htb:yj N.n t=true
  ·rw [htb] at hte;by_cases hE:qu N=0
   ·obtain ⟨hd,hs⟩:=zfm hv hE;have ok:=hW.ok hb;have hTl:=RP_Lp ok N;have hsm:=zf6 ok hv hd hs hn;have hsmT:=zf6 (hW.okT hb t) hv hd hs hn;have hto:=xt (n:=n) (by omega) (by rw [← hn];exact htb);have hE0:yc N n L H=0:=hwf.trans hE;have key:∀ (Q:Rat) (b:Bool),(b=false→Q=0)→(∀ W,Calls Tryz.prog 64 #[zS (qp (yI N n L H t)),zS (qp ((RP n L H).sum N))] W fun e w'=>e = .returned (.tuple #[zS Q,.bool b])∧Below W.heap.size W w') →
      ∀ W v,Below w.heap.size w W→yG n L H v W→Calls Tryz.prog 24 #[qg N A c,v,.slice At t.length ct] W fun e w'=>e = .returned (.tuple #[zS Q,.int .i64 (if b then 0 else 3)])∧Below W.heap.size W w':=by
     intro Q b hQ hdv W v hWb hp;obtain ⟨Al,Ah,cl,ch,rfl,m1,m2,r1,r2,hc⟩:=hck W v hWb hp;rw [hE] at hc;obtain ⟨hg,hsu⟩:=zif W N A c n cl ch ct L H t Al Ah At ((hN.below hWb).more hWb.size) hv hn hd hs hW hb h6l h6h hto htl;refine zkc W N A c cl ch (n+1) (n+1) Al Ah At t.length ct (qp (yI N n L H t)) (qp ((RP n L H).sum N)) Q b hQ hc (fun V hV=>hte V (zw hWb hV hWb.size)) (yG n (z6 n L t) (z8 n H t)) zbW ?_ hsu ?_ hdv
     ·intro V hV;have hB:=zw hWb hV hWb.size;exact hg V At ct hV ((htr.below hB).more hB.size) ((r1.below hV).more hV.size) ((r2.below hV).more hV.size)
     ·intro V hV;have hB:=zw hWb hV hWb.size;exact ziU V N A c n cl ch L H Al Ah ((hN.below hB).more hB.size) hv hn hd hs ok h6l h6h ((r1.below hV).more hV.size) ((r2.below hV).more hV.size) m1 m2
    by_cases h0:((RP n L H).sum N).1=0
    ·have e0:qp ((RP n L H).sum N)=0:=(zeP hTl).2 h0;refine zcd w hT N A c Aw lw cw At t.length ct hlen hN hl (PwV n L H) (yG n L H) zcY zbW 3 0 0 (qn (0:Rat)) (0:Rat).den hpw ?_ hps ?_ ?_
     ·exact fun W v hWb hp=>hsh W v hWb hp (0,0) 3 (zia htb hE0 h0)
     ·exact key 0 false (fun _=>rfl) (fun W=>by rw [e0];exact zii W _)
     ·exact fun W=>zdJ W (0,0) 0 zbY z1 z2 qp_zero
    ·have hne:qp ((RP n L H).sum N)≠0:=fun e=>h0 ((zeP hTl).1 e);have hnn:=yY ((RP n L H).sum N);have hnt:=yY (yI N n L H t);have hq0:0<qn (qp ((RP n L H).sum N)):=by
      rcases Nat.eq_zero_or_pos (qn (qp ((RP n L H).sum N))) with h | h
      ·exfalso
       apply hne;have:=js hnn;rw [← this,h];exact (zbF 0 _).2 rfl
      ·exact h
     have hdg:=(Sm.div hsmT hsm).dg;obtain ⟨l1,s1⟩:=sh_sp hW hb hv hd hs hn t;refine zcd w hT N A c Aw lw cw At t.length ct hlen hN hl (PwV n L H) (yG n L H) zcY zbW 0 (shP N n L H t).1 (shP N n L H t).2 (qn (qp (yI N n L H t) / qp ((RP n L H).sum N))) (qp (yI N n L H t) / qp ((RP n L H).sum N)).den hpw ?_ hps ?_ ?_
     ·exact fun W v hWb hp=>hsh W v hWb hp (shP N n L H t) 0 (xI htb hE0 h0)
     ·have g1:=hsmT.dg1;have g2:=hsm.dg1;exact key _ true (fun h=>by cases h) (fun W=>rdiv02 W _ _ hnt hnn hq0 g1.2.1 g1.2.2 g2.2.1 g2.2.2)
     ·exact fun W=>zdJ W _ _ ⟨l1,s1⟩ (Nat.le_trans hdg.2.1 (by decide)) (Nat.le_trans hdg.2.2 (by decide)) (zij (zfe hnt hnn))
   ·have hSE:yE N n L H t=((0,0),qu N):=by
     unfold yE;rw [if_pos htb,hwf,if_neg hE]
    refine zcd w hT N A c Aw lw cw At t.length ct hlen hN hl (PwV n L H) (yG n L H) zcY zbW (qu N) 0 0 (qn (0:Rat)) (0:Rat).den hpw ?_ hps ?_ ?_
    ·exact fun W v hWb hp=>hsh W v hWb hp (0,0) (qu N) hSE
    ·intro W v hWb hp;obtain ⟨Al,Ah,cl,ch,rfl,m1,m2,r1,r2,hc⟩:=hck W v hWb hp;by_cases hE1:qu N=1
     ·rw [hE1] at hc ⊢;exact zdU W N A c cl ch (n+1) (n+1) Al Ah At t.length ct hc
     ·exact zic W N A c cl ch (n+1) (n+1) Al Ah At t.length ct (qu N) hE hE1 hc (fun V hV=>hte V (zw hWb hV hWb.size))
    ·exact fun W=>zdJ W (0,0) 0 zbY z1 z2 qp_zero
  ·have htb:yj N.n t=false:=by simpa using htb
   rw [htb] at hte;have hSE:yE N n L H t=((0,0),1):=by
    unfold yE;rw [if_neg (by rw [htb];decide)]
   refine zcd w hT N A c Aw lw cw At t.length ct hlen hN hl (PwV n L H) (yG n L H) zcY zbW 1 0 0 (qn (0:Rat)) (0:Rat).den hpw ?_ hps ?_ ?_
   ·exact fun W v hWb hp=>hsh W v hWb hp (0,0) 1 hSE
   ·intro W v hWb hp;obtain ⟨Al,Ah,cl,ch,rfl,m1,m2,r1,r2,hc⟩:=hck W v hWb hp;by_cases hE1:qu N=1
    ·rw [hE1] at hc;exact zdU W N A c cl ch (n+1) (n+1) Al Ah At t.length ct hc
    ·exact zib W N A c cl ch (n+1) (n+1) Al Ah At t.length ct (qu N) hE1 hc (fun V hV=>hte V (zw hWb hV hWb.size))
   ·exact fun W=>zdJ W (0,0) 0 zbY z1 z2 qp_zero
 ·have hv:zG N=false:=by simpa using hv
  obtain ⟨K,hK⟩:∃ K:Nat,(K:Int)=max 0 (min N.n 128+1):=⟨(max 0 (min N.n 128+1)).toNat,by omega⟩;refine zcd w hT N A c Aw lw cw At t.length ct hlen hN hl (fun v _=>∃ Al Ah ll lh cl ch,v=yJ Al Ah ll lh cl ch) (fun v _=>∃ Al Ah ll lh cl ch,v = .agg #[.slice Al ll cl,.slice Ah lh ch]) (fun _ _ _ h _=>h) (fun _ _ _ h _=>h) 1 0 0 (qn (0:Rat)) (0:Rat).den ?_ ?_ ?_ ?_ ?_
  ·intro W h;refine (zgK W N A c Aw lw cw At t.length ct F hlw ((hw.below h).more h.size) hF K hK).mono ?_;rintro e w' ⟨s1,s2,rfl,hq⟩;obtain ⟨a1,c1,rfl⟩:=yL hq.o1;obtain ⟨a2,c2,rfl⟩:=yL hq.o2;exact ⟨_,rfl,⟨_,_,_,_,_,_,rfl⟩,hq.bl⟩
  ·rintro W v hWb ⟨Al,Ah,ll,lh,cl,ch,rfl⟩;refine xH W N A c cl ch ll lh Al Ah At t.length ct fun V hV=>?_;have hB:=zw hWb hV hWb.size;have h0:=zf0 V N A c cl ch (List.replicate ll (0,0)) (List.replicate lh (0,0)) Al Ah hlen ((hN.below hB).more hB.size) (Or.inl hv);rwa [List.length_replicate,List.length_replicate] at h0
  ·intro W h;refine (zgL W N A c Aw lw cw At t.length ct F hlw ((hw.below h).more h.size) hF K hK).mono ?_;rintro e w' ⟨s1,s2,rfl,hq⟩;obtain ⟨a1,c1,rfl⟩:=yL hq.o1;obtain ⟨a2,c2,rfl⟩:=yL hq.o2;exact ⟨_,rfl,⟨_,_,_,_,_,_,rfl⟩,hq.bl⟩
  ·rintro W v hWb ⟨Al,Ah,ll,lh,cl,ch,rfl⟩;refine zdU W N A c cl ch ll lh Al Ah At t.length ct fun V hV=>?_;have hB:=zw hWb hV hWb.size;exact gB V N A c ll lh cl ch Al Ah hlen ((hN.below hB).more hB.size) (Or.inl hv)
  ·exact fun W=>zdJ W (0,0) 0 zbY z1 z2 qp_zero
end Go.Proofs.YtmhllppjcilllaaGreatDoor
