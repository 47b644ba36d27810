import Derived.Test.YtmhllppjcilllaaGreatDoorIs
import Derived.BigGuardPart
import Derived.Deep.CutRange
set_option linter.unusedSimpArgs false
set_option linter.unusedVariables false
set_option maxRecDepth 100000
set_option maxHeartbeats 4000000
open Go Go.RowKit Cs
namespace Go
open Go.Proofs.YtmhllppjcilllaaGreatDoor
theorem Kp.box {w V W:World} {l:List (Nat×TypeId×Nat×(Nat→Value))} {X:Nat} {t:TypeId} {f:Nat→Value} (h:Kp w l V) (hW:Below V.heap.size V W) (hX:V.heap.size≤X) (hr:W.rowIs X t 2 f) (x y:Value):Kp w ((X,t,2,arrF #[x,y])::l) ((W.setCell ⟨X,0,none⟩ x).setCell ⟨X,1,none⟩ y) :=
 ⟨below_set2 (h.below hW).bl (Nat.le_trans h.bl.size hX) _ _,fun r hr'=>by
   rcases List.mem_cons.1 hr' with rfl | h2
   ·exact pairRow hr _ _
   ·have hlt:=(h.rows r h2).lt
    have hne:r.1≠X:=by omega
    exact (((h.below hW).rows r h2).setOther hne _).setOther hne _⟩
end Go
namespace Go.Proofs.YtmhllppjcilllaaGreatDoor
theorem totals_no (w:World) (hT:Tab w) (N:Nt) (A:Option Addr) (c:Nat) (Aw:Option Addr) (lw cw:Nat) (At:Option Addr) (lt ct:Nat) (hlen:N.l.length≤140737488355328) (hN:NtAt w w.heap.size A N.l) (hl:askB N lt=false) :
  Calls Tryz.prog 3 #[askV N A c Aw lw cw At lt ct] w fun e w'=>e = .returned (.bool true)∧Below w.heap.size w w':=by
 have q0:Kp w [eAsk w.heap.size N A c Aw lw cw At lt ct] (w.alloc (.cells #[.int .i64 N.n,.slice A N.l.length c,.slice Aw lw cw,.slice At lt ct] 28)):=(Kp.nil w).new _ _ w.heap.size 4 rfl rfl;obtain ⟨s1,s2,s3,s4⟩:=fourCells (q0.row 0 rfl);have hli:∀ W,Below w.heap.size w W→_:=fun W h=>askLight_any W N A c Aw lw cw At lt ct hlen ((hN.below h).more h.size);rw [hl] at hli;have HLI:=zqh hli;have HT:=zqh hT;have Q0:=zqh q0;clear hli hT q0 hl
 go_enter Tryz.func3, Tryz.ntmps3
 go_wp2_with (first
  | (go_at_call 14;(with_reducible refine (HLI.out _ Q0.out.bl).mono ?_);rintro e w1 ⟨rfl,hb1⟩;have Q1:=zqh (Q0.out.below hb1);clear hb1 s1 s2 s3 s4;obtain ⟨s1,s2,s3,s4⟩:=fourCells (Q1.out.row 0 rfl))
  | (go_at_call 15;(with_reducible refine (works_any _ (HT.out.below Q1.out.bl)).mono ?_);rintro e w2 ⟨rfl,hb2⟩;have Q2:=zqh (Q1.out.below hb2)))
 all_goals
  go_ret
  exact ⟨rfl,Q2.out.bl⟩
theorem totals_main (w:World) (hT:Tab w) (N:Nt) (A:Option Addr) (c:Nat) (Aw:Option Addr) (lw cw:Nat) (At:Option Addr) (lt ct:Nat) (hlen:N.l.length≤140737488355328) (hN:NtAt w w.heap.size A N.l) (hl:askB N lt=true) (PW PS:Value→World→Prop) (hpw:∀ v W W',PW v W→Below W.heap.size W W'→PW v W') (hps:∀ v W W',PS v W→Below W.heap.size W W'→PS v W') (E:Int) (ta tb xa xb:Nat)
  (h1:∀ W,Below w.heap.size w W→Calls Tryz.prog 17 #[askV N A c Aw lw cw At lt ct] W fun e w'=>∃ v,e = .returned v∧PW v w'∧Below W.heap.size W w')
  (h2:∀ W v,Below w.heap.size w W→PW v W→Calls Tryz.prog 16 #[ntV N A c,v] W fun e w'=>e = .returned (.tuple #[ratV ta tb,.int .i64 E])∧Below W.heap.size W w')
  (h3:∀ W,Below w.heap.size w W→Calls Tryz.prog 19 #[askV N A c Aw lw cw At lt ct] W fun e w'=>∃ v,e = .returned v∧PS v w'∧Below W.heap.size W w')
  (h4:∀ W v,Below w.heap.size w W→PS v W→Calls Tryz.prog 18 #[ntV N A c,v] W fun e w'=>e = .returned (.tuple #[.agg #[.string (dec xa),.string (dec xb)],.int .i64 E])∧Below W.heap.size W w')
  (h5:∀ W,Calls Tryz.prog 20 #[ratV ta tb,.agg #[.string (dec xa),.string (dec xb)]] W fun e w'=>e = .returned (.bool true)∧Below W.heap.size W w') :
  Calls Tryz.prog 3 #[askV N A c Aw lw cw At lt ct] w fun e w'=>e = .returned (.bool true)∧Below w.heap.size w w':=by
 have q0:Kp w [eAsk w.heap.size N A c Aw lw cw At lt ct] (w.alloc (.cells #[.int .i64 N.n,.slice A N.l.length c,.slice Aw lw cw,.slice At lt ct] 28)):=(Kp.nil w).new _ _ w.heap.size 4 rfl rfl;obtain ⟨s1,s2,s3,s4⟩:=fourCells (q0.row 0 rfl);have hli:∀ W,Below w.heap.size w W→_:=fun W h=>askLight_any W N A c Aw lw cw At lt ct hlen ((hN.below h).more h.size);rw [hl] at hli;have HLI:=zqh hli;have HPW:=zqh hpw;have HPS:=zqh hps;have HPT:=zqh h2;have HST:=zqh h4;have HIS:=zqh h5;have HPRW:=zqh h1;have HSPW:=zqh h3;have HT:=zqh hT;have Q0:=zqh q0;clear hli hT q0 hN hl hpw hps h1 h2 h3 h4 h5
 go_enter Tryz.func3, Tryz.ntmps3
 go_upto_region 3 with (go_at_call 14;(with_reducible refine (HLI.out _ Q0.out.bl).mono ?_);rintro e V0 ⟨rfl,hb1⟩;have Q1:=zqh (Q0.out.below hb1);clear hb1 s1 s2 s3 s4;obtain ⟨s1,s2,s3,s4⟩:=fourCells (Q1.out.row 0 rfl))
 clear HLI Q0
 go_cut [3,4] from 11 to 18 (fun p q wx=>∃ b3,p = .pointer (some ⟨b3,0,none⟩)∧q = .int .i64 E∧Kp w [(b3, 33,2,arrF #[.string (natB ta),.string (natB tb)]),eAsk w.heap.size N A c Aw lw cw At lt ct] wx)
 case first =>
  have BL:=zqh Q1.out.bl;have hbx:=(Q1.out.row 0 rfl).lt;have HS:Hid (∀ W,Below V0.heap.size V0 W→W.cell? ⟨w.heap.size,0,none⟩=some (.int .i64 N.n)∧W.cell? ⟨w.heap.size,1,none⟩=some (.slice A N.l.length c)∧W.cell? ⟨w.heap.size,2,none⟩=some (.slice Aw lw cw)∧W.cell? ⟨w.heap.size,3,none⟩=some (.slice At lt ct)):=zqh fun W hb=>⟨(hb.cell (p:=⟨w.heap.size,0,none⟩) hbx).trans s1,(hb.cell (p:=⟨w.heap.size,1,none⟩) hbx).trans s2,(hb.cell (p:=⟨w.heap.size,2,none⟩) hbx).trans s3,(hb.cell (p:=⟨w.heap.size,3,none⟩) hbx).trans s4⟩
  refine wp_region_props_late (n:=_) (PX:=[zqu (.pointer (some ⟨w.heap.size,0,none⟩)),
     zqu (.agg #[.int .i64 N.n,.slice A N.l.length c]),
     zqu (.agg #[.int .i64 N.n,.slice A N.l.length c,.slice Aw lw cw,.slice At lt ct]),
     fun xl xv xw=>∃ v,xv=v∧PW v xw,
     zqu (.tuple #[.agg #[.string (natB ta),.string (natB tb)],.int .i64 E]),
     zqu (.tuple #[.agg #[.string (natB ta),.string (natB tb)],.int .i64 E]),
     zqu (.agg #[.string (natB ta),.string (natB tb)]),
     zqu (.int .i64 E),
     fun xl xv xw=>∃ X,xv = .pointer (some ⟨X,0,none⟩)∧V0.heap.size≤X∧World.rowIs xw X 33 2 (arrF #[.string ⟨#[]⟩,.string ⟨#[]⟩])])
    (AL:=[8]) (DP:=[[],[0],[],[2],[1,3],[4],[5],[5],[]]) (L1:=[0,1,2,3,4,5,6,8]) (ex:=[7]) (by kernel_rfl) rfl (by kernel_rfl) (by kernel_rfl) (fun _ _ _ _ _ h=>h) ?_ ?_ ?_ ?_
  ·refine zqg ?_ (zqg ?_ (zqg ?_ (zqg ?_ (zqg ?_ (zqg ?_ (zqg ?_ (zqg ?_ (zqg ?_ zqi))))))))
   iterate 3 exact fun _ _ _ _ h _=>h
   ·exact fun l v w w2 h hb=>by obtain ⟨x,h1,h2⟩:=h;exact ⟨x,h1,HPW.out _ _ _ h2 hb⟩
   iterate 4 exact fun _ _ _ _ h _=>h
   ·exact fun l v w w2 h hb=>by obtain ⟨X,h1,h2,h3⟩:=h;exact ⟨X,h1,h2,rowBelow h3 hb⟩
  ·refine zqg (zst rfl [] ?_) (zqg (zst rfl [(0,some 12)] ?_) (zqg (zst rfl [] ?_) (zqg ?_ (zqg ?_ (zqg (zst rfl [(4,some 16)] ?_) (zqg (zst rfl [(5,some 11)] ?_) (zqg ?_ zqi)))))))
   all_goals try (intro vs W hW hd K hK;(try simp only [zdj,zqu,and_true,List.getD_cons_succ,List.getD_cons_zero] at hd);(first | simp only [hd,putsD,Act.put,zqa,zqb,zqc,zqd,zqe,zqf] at hK ⊢ | simp only [putsD,Act.put,zqa,zqb,zqc,zqd,zqe,zqf] at hK ⊢ | skip);obtain ⟨m1,m2,m3,m4⟩:=HS.out W hW;go_simp;exact hK.out _ _ rfl (zqr _ _) (zqv rfl))
   ·refine zso rfl [(2,some 14)] ?_;intro vs W hW hd K hK;have d2:vs 2 = .agg #[.int .i64 N.n,.slice A N.l.length c,.slice Aw lw cw,.slice At lt ct]:=hd 2 (by decide);clear hd
    try simp only [d2,putsD,Act.put,zqa,zqb,zqc,zqd,zqe,zqf] at hK ⊢
    go_simp
    go_at_call 17
    (with_reducible first | refine (HPRW.out _ (zqx BL.out hW BL.out.size)).mono ?_)
    rintro e w9 ⟨v,rfl,hq9,hb9⟩;exact hK.out _ _ (⟨_,rfl,hq9⟩) hb9 (fun h=>absurd h (by decide))
   ·refine zso rfl [(1,some 13),(3,some 15)] ?_;intro vs W hW hd K hK;have d1:vs 1 = .agg #[.int .i64 N.n,.slice A N.l.length c]:=hd 1 (by decide);obtain ⟨v,d3,hq8⟩:∃ v,vs 3=v∧PW v W:=hd 3 (by decide);clear hd
    try simp only [d1,d3,putsD,Act.put,zqa,zqb,zqc,zqd,zqe,zqf] at hK ⊢
    go_simp
    go_at_call 16
    (with_reducible first | refine (HPT.out _ _ (zqx BL.out hW BL.out.size) hq8).mono ?_)
    rintro e w9 ⟨rfl,hb9⟩;exact hK.out _ _ (rfl) hb9 (fun h=>absurd h (by decide))
   ·refine zso rfl [] ?_;intro vs W hW hd K hK;clear hd
    try simp only [putsD,Act.put,zqa,zqb,zqc,zqd,zqe,zqf] at hK ⊢
    go_simp
    exact hK.out _ _ ⟨W.heap.size,rfl,hW.size,arrNew _ _ _ _ _ rfl rfl⟩ ((zqr _ _).alloc (zqn _) _) (fun _ b hb=>by simp [blkOf] at hb;subst hb;exact ⟨zqn _,by simp⟩)
  ·refine zqg ?_ zqi
   ·refine YieldOk.intro rfl [(5,some 11)] (by kernel_rfl) (fun _=>.int .i64 E) rfl ?_;intro vs W hd;have d5:vs 5 = .tuple #[.agg #[.string (natB ta),.string (natB tb)],.int .i64 E]:=hd 5 (by decide);clear hd;refine ⟨rfl,fun w2=>?_⟩
    try simp only [d5,putsD,Act.put,zqa,zqb,zqc,zqd,zqe,zqf]
    go_simp
  refine zfo [(0,some 12),(1,some 13),(2,some 14),(3,some 15),(4,some 16),(5,some 11),(6,some 17),(8,some 3),(7,some 18)] #[true,true,true,true,true,true,true,true,true,false,false] 2 ?_;intro vs Wf hW hd hbk hdis kf;simp only [zdj,zqu,and_true,List.getD_cons_succ,List.getD_cons_zero] at hd;obtain ⟨d0,d1,d2,⟨v,d3,hq8⟩,d4,d5,d6,⟨X3,d8,b3,r3⟩,d7⟩:=hd;clear hbk hdis
  try simp only [d0,d1,d2,d3,d4,d5,d6,d8,d7,putsD,Act.put,zqa,zqb,zqc,zqd,zqe,zqf]
  clear d0 d1 d2 d3 d4 d5 d6 d8 d7 vs;clear HS;have l3:=r3.lt;have y3_0:=r3.frozen 0;have k3_0:=r3.cell (i:=0) (by decide);have y3_1:=r3.frozen 1;have k3_1:=r3.cell (i:=1) (by decide);refine wpAny_one1 9 (by kernel_rfl) rfl (fun K hK=>?_)
  go_simp
  refine hK.out _ _ ?_;clear hK K
  try simp only [putsD,Act.put,zqa,zqb,zqc,zqd,zqe,zqf]
  refine wpAny_one1 10 (by kernel_rfl) rfl (fun K hK=>?_)
  go_simp
  refine hK.out _ _ ?_;clear hK K
  try simp only [putsD,Act.put,zqa,zqb,zqc,zqd,zqe,zqf]
  refine wpAny_end (by kernel_rfl) ?_ _
  all_goals
   try go_wp2
   go_meet
   exact ⟨X3,rfl,rfl,Q1.out.box hW b3 r3 _ _⟩
 case rest =>
 obtain ⟨b3,rfl,rfl,hq⟩:=hcut;obtain ⟨V1,rfl⟩:∃ V,V=wc:=⟨wc,rfl⟩;have Q2:=zqh hq;clear s1 s2 s3 s4 hq Q1 HPT HPRW HPW;obtain ⟨s1,s2,s3,s4⟩:=fourCells (Q2.out.row 1 rfl)
 go_upto_region 4 with (fail)
 go_cut [5,6] from 19 to 26 (fun p q wx=>∃ b5,p = .pointer (some ⟨b5,0,none⟩)∧q = .int .i64 E∧Kp w [(b5, 42,2,arrF #[.string (dec xa),.string (dec xb)]),(b3, 33,2,arrF #[.string (natB ta),.string (natB tb)]),eAsk w.heap.size N A c Aw lw cw At lt ct] wx)
 case first =>
  have BL:=zqh Q2.out.bl;have hbx:=(Q2.out.row 1 rfl).lt;have HS:Hid (∀ W,Below V1.heap.size V1 W→W.cell? ⟨w.heap.size,0,none⟩=some (.int .i64 N.n)∧W.cell? ⟨w.heap.size,1,none⟩=some (.slice A N.l.length c)∧W.cell? ⟨w.heap.size,2,none⟩=some (.slice Aw lw cw)∧W.cell? ⟨w.heap.size,3,none⟩=some (.slice At lt ct)):=zqh fun W hb=>⟨(hb.cell (p:=⟨w.heap.size,0,none⟩) hbx).trans s1,(hb.cell (p:=⟨w.heap.size,1,none⟩) hbx).trans s2,(hb.cell (p:=⟨w.heap.size,2,none⟩) hbx).trans s3,(hb.cell (p:=⟨w.heap.size,3,none⟩) hbx).trans s4⟩
  refine wp_region_props_late (n:=_) (PX:=[zqu (.pointer (some ⟨w.heap.size,0,none⟩)),
     zqu (.agg #[.int .i64 N.n,.slice A N.l.length c]),
     zqu (.agg #[.int .i64 N.n,.slice A N.l.length c,.slice Aw lw cw,.slice At lt ct]),
     fun xl xv xw=>∃ v,xv=v∧PS v xw,
     zqu (.tuple #[.agg #[.string (dec xa),.string (dec xb)],.int .i64 E]),
     zqu (.tuple #[.agg #[.string (dec xa),.string (dec xb)],.int .i64 E]),
     zqu (.agg #[.string (dec xa),.string (dec xb)]),
     zqu (.int .i64 E),
     fun xl xv xw=>∃ X,xv = .pointer (some ⟨X,0,none⟩)∧V1.heap.size≤X∧World.rowIs xw X 42 2 (arrF #[.string ⟨#[]⟩,.string ⟨#[]⟩])])
    (AL:=[8]) (DP:=[[],[0],[],[2],[1,3],[4],[5],[5],[]]) (L1:=[0,1,2,3,4,5,6,8]) (ex:=[7]) (by kernel_rfl) rfl (by kernel_rfl) (by kernel_rfl) (fun _ _ _ _ _ h=>h) ?_ ?_ ?_ ?_
  ·refine zqg ?_ (zqg ?_ (zqg ?_ (zqg ?_ (zqg ?_ (zqg ?_ (zqg ?_ (zqg ?_ (zqg ?_ zqi))))))))
   iterate 3 exact fun _ _ _ _ h _=>h
   ·exact fun l v w w2 h hb=>by obtain ⟨x,h1,h2⟩:=h;exact ⟨x,h1,HPS.out _ _ _ h2 hb⟩
   iterate 4 exact fun _ _ _ _ h _=>h
   ·exact fun l v w w2 h hb=>by obtain ⟨X,h1,h2,h3⟩:=h;exact ⟨X,h1,h2,rowBelow h3 hb⟩
  ·refine zqg (zst rfl [] ?_) (zqg (zst rfl [(0,some 20)] ?_) (zqg (zst rfl [] ?_) (zqg ?_ (zqg ?_ (zqg (zst rfl [(4,some 24)] ?_) (zqg (zst rfl [(5,some 19)] ?_) (zqg ?_ zqi)))))))
   all_goals try (intro vs W hW hd K hK;(try simp only [zdj,zqu,and_true,List.getD_cons_succ,List.getD_cons_zero] at hd);(first | simp only [hd,putsD,Act.put,zqa,zqb,zqc,zqd,zqe,zqf] at hK ⊢ | simp only [putsD,Act.put,zqa,zqb,zqc,zqd,zqe,zqf] at hK ⊢ | skip);obtain ⟨m1,m2,m3,m4⟩:=HS.out W hW;go_simp;exact hK.out _ _ rfl (zqr _ _) (zqv rfl))
   ·refine zso rfl [(2,some 22)] ?_;intro vs W hW hd K hK;have d2:vs 2 = .agg #[.int .i64 N.n,.slice A N.l.length c,.slice Aw lw cw,.slice At lt ct]:=hd 2 (by decide);clear hd
    try simp only [d2,putsD,Act.put,zqa,zqb,zqc,zqd,zqe,zqf] at hK ⊢
    go_simp
    go_at_call 19
    (with_reducible first | refine (HSPW.out _ (zqx BL.out hW BL.out.size)).mono ?_)
    rintro e w9 ⟨v,rfl,hq9,hb9⟩;exact hK.out _ _ (⟨_,rfl,hq9⟩) hb9 (fun h=>absurd h (by decide))
   ·refine zso rfl [(1,some 21),(3,some 23)] ?_;intro vs W hW hd K hK;have d1:vs 1 = .agg #[.int .i64 N.n,.slice A N.l.length c]:=hd 1 (by decide);obtain ⟨v,d3,hq8⟩:∃ v,vs 3=v∧PS v W:=hd 3 (by decide);clear hd
    try simp only [d1,d3,putsD,Act.put,zqa,zqb,zqc,zqd,zqe,zqf] at hK ⊢
    go_simp
    go_at_call 18
    (with_reducible first | refine (HST.out _ _ (zqx BL.out hW BL.out.size) hq8).mono ?_)
    rintro e w9 ⟨rfl,hb9⟩;exact hK.out _ _ (rfl) hb9 (fun h=>absurd h (by decide))
   ·refine zso rfl [] ?_;intro vs W hW hd K hK;clear hd
    try simp only [putsD,Act.put,zqa,zqb,zqc,zqd,zqe,zqf] at hK ⊢
    go_simp
    exact hK.out _ _ ⟨W.heap.size,rfl,hW.size,arrNew _ _ _ _ _ rfl rfl⟩ ((zqr _ _).alloc (zqn _) _) (fun _ b hb=>by simp [blkOf] at hb;subst hb;exact ⟨zqn _,by simp⟩)
  ·refine zqg ?_ zqi
   ·refine YieldOk.intro rfl [(5,some 19)] (by kernel_rfl) (fun _=>.int .i64 E) rfl ?_;intro vs W hd;have d5:vs 5 = .tuple #[.agg #[.string (dec xa),.string (dec xb)],.int .i64 E]:=hd 5 (by decide);clear hd;refine ⟨rfl,fun w2=>?_⟩
    try simp only [d5,putsD,Act.put,zqa,zqb,zqc,zqd,zqe,zqf]
    go_simp
  refine zfo [(0,some 20),(1,some 21),(2,some 22),(3,some 23),(4,some 24),(5,some 19),(6,some 25),(8,some 5),(7,some 26)] #[true,true,true,true,true,true,true,true,true,false,false] 2 ?_;intro vs Wf hW hd hbk hdis kf;simp only [zdj,zqu,and_true,List.getD_cons_succ,List.getD_cons_zero] at hd;obtain ⟨d0,d1,d2,⟨v,d3,hq8⟩,d4,d5,d6,⟨X5,d8,b5,r5⟩,d7⟩:=hd;clear hbk hdis
  try simp only [d0,d1,d2,d3,d4,d5,d6,d8,d7,putsD,Act.put,zqa,zqb,zqc,zqd,zqe,zqf]
  clear d0 d1 d2 d3 d4 d5 d6 d8 d7 vs;clear HS;have l5:=r5.lt;have y5_0:=r5.frozen 0;have k5_0:=r5.cell (i:=0) (by decide);have y5_1:=r5.frozen 1;have k5_1:=r5.cell (i:=1) (by decide);refine wpAny_one1 9 (by kernel_rfl) rfl (fun K hK=>?_)
  go_simp
  refine hK.out _ _ ?_;clear hK K
  try simp only [putsD,Act.put,zqa,zqb,zqc,zqd,zqe,zqf]
  refine wpAny_one1 10 (by kernel_rfl) rfl (fun K hK=>?_)
  go_simp
  refine hK.out _ _ ?_;clear hK K
  try simp only [putsD,Act.put,zqa,zqb,zqc,zqd,zqe,zqf]
  refine wpAny_end (by kernel_rfl) ?_ _
  all_goals
   try go_wp2
   go_meet
   exact ⟨X5,rfl,rfl,Q2.out.box hW b5 r5 _ _⟩
 case rest =>
 obtain ⟨b5,rfl,rfl,hq⟩:=hcut;clear s1 s2 s3 s4;have k1:World.cell? _ ⟨b5,0,none⟩=some (.string (dec xa)):=(hq.row 0 rfl).cell (i:=0) (by decide);have k2:World.cell? _ ⟨b5,1,none⟩=some (.string (dec xb)):=(hq.row 0 rfl).cell (i:=1) (by decide);have k3:World.cell? _ ⟨b3,0,none⟩=some (.string (natB ta)):=(hq.row 1 rfl).cell (i:=0) (by decide);have k4:World.cell? _ ⟨b3,1,none⟩=some (.string (natB tb)):=(hq.row 1 rfl).cell (i:=1) (by decide);have Q3:=zqh hq;clear hq Q2 HST HSPW HPS
 go_wp2_with (first
  | (go_at_call 20;(with_reducible refine (HIS.out _).mono ?_);rintro e w5 ⟨rfl,hb5⟩;have Q4:=zqh (Q3.out.below hb5);clear k1 k2 k3 k4)
  | (go_at_call 15;(with_reducible refine (works_any _ (HT.out.below Q4.out.bl)).mono ?_);rintro e w6 ⟨rfl,hb6⟩;have Q5:=zqh (Q4.out.below hb6)))
 all_goals
  go_ret
  exact ⟨rfl,Q5.out.bl⟩
abbrev PsV (n:Nat) (L H:List Pr) (v:Value) (W:World):Prop:=∃ Al Ah cl ch,v = .agg #[.slice Al (n+1) cl,.slice Ah (n+1) ch]∧n+1≤cl∧n+1≤ch∧Rd W W.heap.size Al ((n+1)*2) (rfF (L.map qp))∧Rd W W.heap.size Ah ((n+1)*2) (rfF (H.map qp))
abbrev PwV (n:Nat) (L H:List Pr) (v:Value) (W:World):Prop:=∃ Al Ah cl ch,v=wtsV Al Ah (n+1) (n+1) cl ch∧n+1≤cl∧n+1≤ch∧Rd W W.heap.size Al ((n+1)*2) (prsF L)∧Rd W W.heap.size Ah ((n+1)*2) (prsF H)
theorem psV_kept {n:Nat} {L H:List Pr} (v:Value) (W W':World) (h:PsV n L H v W) (hb:Below W.heap.size W W'):PsV n L H v W':=by
 obtain ⟨Al,Ah,cl,ch,h1,h2,h3,h4,h5⟩:=h;exact ⟨Al,Ah,cl,ch,h1,h2,h3,(h4.below hb).more hb.size,(h5.below hb).more hb.size⟩
theorem pwV_kept {n:Nat} {L H:List Pr} (v:Value) (W W':World) (h:PwV n L H v W) (hb:Below W.heap.size W W'):PwV n L H v W':=by
 obtain ⟨Al,Ah,cl,ch,h1,h2,h3,h4,h5⟩:=h;exact ⟨Al,Ah,cl,ch,h1,h2,h3,(h4.below hb).more hb.size,(h5.below hb).more hb.size⟩
theorem aw_pq (lw:Nat) (F:Nat→Nat) (k j:Nat) (hj:j<k):pq (qp ((awL lw F k).getD j (0,0)))=(awL lw F k).getD j (0,0)∧pq (qp ((awH lw F k).getD j (0,0)))=(awH lw F k).getD j (0,0):=by
 unfold awL awH;rw [map_getD,map_getD,if_pos hj,if_pos hj];unfold awl awh;exact ⟨by rw [qp_pq (qq_nonneg _ _)],by rw [qp_pq (qq_nonneg _ _)]⟩
theorem aw_six (lw:Nat) (F:Nat→Nat) (k j:Nat):(((awL lw F k).getD j (0,0)).1≤6∧((awL lw F k).getD j (0,0)).2≤6)∧(((awH lw F k).getD j (0,0)).1≤6∧((awH lw F k).getD j (0,0)).2≤6):=by
 unfold awL awH;rw [map_getD,map_getD];refine ⟨?_,?_⟩
 ·split
  ·exact awl_parts lw F j
  ·exact ⟨Nat.zero_le _,Nat.zero_le _⟩
 ·split
  ·exact awh_parts lw F j
  ·exact ⟨Nat.zero_le _,Nat.zero_le _⟩
theorem pw_hyp (w:World) (N:Nt) (A:Option Addr) (c:Nat) (Aw:Option Addr) (lw cw:Nat) (At:Option Addr) (lt ct:Nat) (F:Nat→Nat) (hlw:lw≤140737488355328) (hw:Rd w w.heap.size Aw (lw*4) (fun i=>.int .u8 (F i:Nat))) (hF:∀ i,F i<256) (n:Nat) (hn:N.n=(n:Int)) (h8:n≤128) :
  ∀ W,Below w.heap.size w W→Calls Tryz.prog 17 #[askV N A c Aw lw cw At lt ct] W fun e w'=>∃ v,e = .returned v∧PwV n (awL lw F (n+1)) (awH lw F (n+1)) v w'∧Below W.heap.size W w':=fun W h=>by
 refine (aw_hyp w N A c Aw lw cw At lt ct F hlw hw hF n hn h8 W h).mono ?_;rintro e w' ⟨v,g1,c1,g2,c2,F1,F2,rfl,hq,hb⟩;have m1:=hq.m1;have m2:=hq.m2;exact ⟨v,rfl,⟨_,_,c1,c2,hq.v,m1,m2,rd_row hq.r1 (by omega) hq.f1,rd_row hq.r2 (by omega) hq.f2⟩,hb⟩
theorem ps_hyp (w:World) (N:Nt) (A:Option Addr) (c:Nat) (Aw:Option Addr) (lw cw:Nat) (At:Option Addr) (lt ct:Nat) (F:Nat→Nat) (hlw:lw≤140737488355328) (hw:Rd w w.heap.size Aw (lw*4) (fun i=>.int .u8 (F i:Nat))) (hF:∀ i,F i<256) (n:Nat) (hn:N.n=(n:Int)) (h8:n≤128) :
  ∀ W,Below w.heap.size w W→Calls Tryz.prog 19 #[askV N A c Aw lw cw At lt ct] W fun e w'=>∃ v,e = .returned v∧PsV n (awL lw F (n+1)) (awH lw F (n+1)) v w'∧Below W.heap.size W w':=fun W h=>by
 refine (askV_any W N A c Aw lw cw At lt ct F hlw ((hw.below h).more h.size) hF (n+1) (by omega)).mono ?_;rintro e w' ⟨s1,s2,rfl,hq⟩;obtain ⟨A1,c1,rfl,m1,r1⟩:=own_rows hq.o1 (Nat.succ_pos _);obtain ⟨A2,c2,rfl,m2,r2⟩:=own_rows hq.o2 (Nat.succ_pos _)
 exact ⟨_,rfl,⟨A1,A2,c1,c2,rfl,m1,m2,fun h0=>by
  obtain ⟨b,o,h1,h2,h3⟩:=r1 h0
  exact ⟨b,o,h1,h2,fun i hi=>(h3 i hi).trans (congrArg some (prF_rf (aw_pq lw F (n+1) (i / 2) (by omega)).1))⟩,fun h0=>by
  obtain ⟨b,o,h1,h2,h3⟩:=r2 h0
  exact ⟨b,o,h1,h2,fun i hi=>(h3 i hi).trans (congrArg some (prF_rf (aw_pq lw F (n+1) (i / 2) (by omega)).2))⟩⟩,hq.bl⟩
theorem lp_zero_sp:Lp (0,0)∧Sp (0,0):=⟨Lp.zero,Sp.zero⟩
theorem totals_any (w:World) (hT:Tab w) (N:Nt) (A:Option Addr) (c:Nat) (Aw:Option Addr) (lw cw:Nat) (At:Option Addr) (lt ct:Nat) (F:Nat→Nat) (hlen:N.l.length≤140737488355328) (hN:NtAt w w.heap.size A N.l)
  (hlw:lw≤140737488355328) (hw:Rd w w.heap.size Aw (lw*4) (fun i=>.int .u8 (F i:Nat))) (hF:∀ i,F i<256) :
  Calls Tryz.prog 3 #[askV N A c Aw lw cw At lt ct] w fun e w'=>e = .returned (.bool true)∧Below w.heap.size w w':=by
 by_cases hl:askB N lt=true
 case neg=>exact totals_no w hT N A c Aw lw cw At lt ct hlen hN (by simpa using hl)
 have q0:qn (0:Rat)=0:=by decide
 have d0:(0:Rat).den=1:=rfl
 have z1:decN (qn (0:Rat))≤1000000:=by rw [q0];decide +kernel
 have z2:decN (0:Rat).den≤1000000:=by rw [d0];decide +kernel
 by_cases hv:vld N=true
 ·obtain ⟨hn0,hn1,hl0,hl1⟩:=vld_bounds hv;have h8:=askB_8 hl hv;have hin:=askB_in hl;obtain ⟨n,hn⟩:∃ n:Nat,N.n=n:=⟨N.n.toNat,by omega⟩
  have hn8:n≤8:=by omega
  have hpw:=pw_hyp w N A c Aw lw cw At lt ct F hlw hw hF n hn (by omega);have hps:=ps_hyp w N A c Aw lw cw At lt ct F hlw hw hF n hn (by omega);have hW:=aw_in lw F n;have hb:=aw_bits lw F n (by omega);have h6:=aw_six lw F (n+1);obtain ⟨L,hL⟩:∃ L,awL lw F (n+1)=L:=⟨_,rfl⟩;obtain ⟨H,hH⟩:∃ H,awH lw F (n+1)=H:=⟨_,rfl⟩;rw [hL,hH] at hpw hps hW hb;simp only [hL,hH] at h6;have hwf:wfit N n L H=cchk N:=wfit_bits hb;have h6l:=fun k=>(h6 k).1;have h6h:=fun k=>(h6 k).2
  have hck:∀ W v,Below w.heap.size w W→PsV n L H v W→∃ Al Ah cl ch,v = .agg #[.slice Al (n+1) cl,.slice Ah (n+1) ch]∧n+1≤cl∧n+1≤ch∧Rd W W.heap.size Al ((n+1)*2) (rfF (L.map qp))∧Rd W W.heap.size Ah ((n+1)*2) (rfF (H.map qp))∧RkE W N A c cl ch (n+1) (n+1) Al Ah (cchk N):=by
   rintro W v hWb ⟨Al,Ah,cl,ch,rfl,m1,m2,r1,r2⟩;refine ⟨Al,Ah,cl,ch,rfl,m1,m2,r1,r2,fun V hV=>?_⟩;have hB:=zqx hWb hV hWb.size
   exact rck_fit V N A c n cl ch (L.map qp) (H.map qp) Al Ah hlen ((hN.below hB).more hB.size) hv hn ((r1.below hV).more hV.size) ((r2.below hV).more hV.size) m1 m2 (fun k=>by rw [map_qp];exact dg_of (by have:=(h6l k).1;omega) (by have:=(h6l k).2;omega)) (fun k=>by rw [map_qp];exact dg_of (by have:=(h6h k).1;omega) (by have:=(h6h k).2;omega))
    (fun j hj=>Nat.le_trans (qbs_sml h6l h6h j) (by omega))
  have hto:∀ W v,Below w.heap.size w W→PwV n L H v W→∀ (S:Pr) (E:Int),E=wfit N n L H→(S=if E=0 then (RP n L H).sum N else (0,0))→Calls Tryz.prog 16 #[ntV N A c,v] W fun e w'=>e = .returned (.tuple #[ratV S.1 S.2,.int .i64 E])∧Below W.heap.size W w':=by
   rintro W v hWb ⟨Al,Ah,cl,ch,rfl,m1,m2,r1,r2⟩ S E hE hS;exact total_fit W N A c cl ch n L H Al Ah ((hN.below hWb).more hWb.size) hv hn (hT.below hWb) hin hW r1 r2 m1 m2 S E hE hS
  by_cases hE:cchk N=0
  ·obtain ⟨hd,hs⟩:=cchk_zero hv hE;have ok:=hW.ok hb;have hTl:=RP_Lp ok N;have hTs:=sum_sp ok hv hd hs hn;have hsm:=(sum_sm ok hv hd hs hn).dg1;refine totals_main w hT N A c Aw lw cw At lt ct hlen hN hl (PwV n L H) (PsV n L H) pwV_kept psV_kept 0 ((RP n L H).sum N).1 ((RP n L H).sum N).2 (qn (qp ((RP n L H).sum N))) (qp ((RP n L H).sum N)).den hpw ?_ hps ?_ ?_
   ·exact fun W v hWb hp=>hto W v hWb hp ((RP n L H).sum N) 0 (hwf.trans hE).symm (by rw [if_pos rfl])
   ·intro W v hWb hp;obtain ⟨Al,Ah,cl,ch,rfl,m1,m2,r1,r2,hc⟩:=hck W v hWb hp;rw [hE] at hc
    exact rtot_fit W N A c cl ch (n+1) (n+1) Al Ah (qp ((RP n L H).sum N)) hc fun V hV=>by
     have hB:=zqx hWb hV hWb.size;exact rsum33_w V N A c n cl ch L H Al Ah ((hN.below hB).more hB.size) hv hn hd hs ok h6l h6h ((r1.below hV).more hV.size) ((r2.below hV).more hV.size) m1 m2
   ·exact fun W=>is_any W _ _ ⟨hTl,hTs⟩ (Nat.le_trans hsm.2.1 (by decide)) (Nat.le_trans hsm.2.2 (by decide)) rfl
  ·refine totals_main w hT N A c Aw lw cw At lt ct hlen hN hl (PwV n L H) (PsV n L H) pwV_kept psV_kept (cchk N) 0 0 (qn (0:Rat)) (0:Rat).den hpw ?_ hps ?_ ?_
   ·exact fun W v hWb hp=>hto W v hWb hp (0,0) (cchk N) hwf.symm (by rw [if_neg hE])
   ·intro W v hWb hp;obtain ⟨Al,Ah,cl,ch,rfl,m1,m2,r1,r2,hc⟩:=hck W v hWb hp;exact rtot_err W N A c cl ch (n+1) (n+1) Al Ah (cchk N) hE hc
   ·exact fun W=>is_any W (0,0) 0 lp_zero_sp z1 z2 qp_zero
 ·have hv:vld N=false:=by simpa using hv
  obtain ⟨K,hK⟩:∃ K:Nat,(K:Int)=max 0 (min N.n 128+1):=⟨(max 0 (min N.n 128+1)).toNat,by omega⟩;refine totals_main w hT N A c Aw lw cw At lt ct hlen hN hl (fun v _=>∃ Al Ah ll lh cl ch,v=wtsV Al Ah ll lh cl ch) (fun v _=>∃ Al Ah ll lh cl ch,v = .agg #[.slice Al ll cl,.slice Ah lh ch]) (fun _ _ _ h _=>h) (fun _ _ _ h _=>h) 1 0 0 (qn (0:Rat)) (0:Rat).den ?_ ?_ ?_ ?_ ?_
  ·intro W h;refine (askW_any W N A c Aw lw cw At lt ct F hlw ((hw.below h).more h.size) hF K hK).mono ?_;rintro e w' ⟨s1,s2,rfl,hq⟩;obtain ⟨a1,c1,rfl⟩:=owns_slice hq.o1;obtain ⟨a2,c2,rfl⟩:=owns_slice hq.o2;exact ⟨_,rfl,⟨_,_,_,_,_,_,rfl⟩,hq.bl⟩
  ·rintro W v hWb ⟨Al,Ah,ll,lh,cl,ch,rfl⟩;refine total_err W N A c cl ch ll lh Al Ah 1 (by decide) fun V hV=>?_;have hB:=zqx hWb hV hWb.size;have h0:=wcheck_bad V N A c cl ch (List.replicate ll (0,0)) (List.replicate lh (0,0)) Al Ah hlen ((hN.below hB).more hB.size) (Or.inl hv);rwa [List.length_replicate,List.length_replicate] at h0
  ·intro W h;refine (askV_any W N A c Aw lw cw At lt ct F hlw ((hw.below h).more h.size) hF K hK).mono ?_;rintro e w' ⟨s1,s2,rfl,hq⟩;obtain ⟨a1,c1,rfl⟩:=owns_slice hq.o1;obtain ⟨a2,c2,rfl⟩:=owns_slice hq.o2;exact ⟨_,rfl,⟨_,_,_,_,_,_,rfl⟩,hq.bl⟩
  ·rintro W v hWb ⟨Al,Ah,ll,lh,cl,ch,rfl⟩;refine rtot_err W N A c cl ch ll lh Al Ah 1 (by decide) fun V hV=>?_;have hB:=zqx hWb hV hWb.size;exact rck_bad V N A c ll lh cl ch Al Ah hlen ((hN.below hB).more hB.size) (Or.inl hv)
  ·exact fun W=>is_any W (0,0) 0 lp_zero_sp z1 z2 qp_zero
end Go.Proofs.YtmhllppjcilllaaGreatDoor
