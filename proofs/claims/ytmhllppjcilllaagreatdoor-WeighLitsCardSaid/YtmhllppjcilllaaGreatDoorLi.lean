import Derived.Test.YtmhllppjcilllaaGreatDoorRl
import Derived.BigGuardPart
import Derived.Deep.CutRange
set_option linter.unusedSimpArgs false
set_option linter.unusedVariables false
set_option maxRecDepth 100000
set_option maxHeartbeats 4000000
open Go Go.RowKit Cs
namespace Go.Proofs.YtmhllppjcilllaaGreatDoor
theorem lits_no (w:World) (hT:Tab w) (N:Nt) (A:Option Addr) (c:Nat) (Aw:Option Addr) (lw cw:Nat) (At:Option Addr) (lt ct:Nat) (hlen:N.l.length≤140737488355328) (hN:NtAt w w.heap.size A N.l) (hl:jL N lt=false) :
  Calls Tryz.prog 4 #[yu N A c Aw lw cw At lt ct] w fun e w'=>e = .returned (.bool true)∧Below w.heap.size w w':=by
 have q0:Kp w [jb w.heap.size N A c Aw lw cw At lt ct] (w.alloc (.cells #[.int .i64 N.n,.slice A N.l.length c,.slice Aw lw cw,.slice At lt ct] 28)):=(Kp.nil w).new _ _ w.heap.size 4 rfl rfl;obtain ⟨s1,s2,s3,s4⟩:=jR (q0.row 0 rfl);have hli:∀ W,Below w.heap.size w W→_:=fun W h=>zcn W N A c Aw lw cw At lt ct hlen ((hN.below h).more h.size);rw [hl] at hli;have HLI:=zb hli;have HT:=zb hT;have Q0:=zb q0;clear hli hT q0 hl;go_enter Tryz.func4, Tryz.ntmps4;go_wp2_with (first
  | (go_at_call 14;(with_reducible refine (HLI.out _ Q0.out.bl).mono ?_);rintro e w1 ⟨rfl,hb1⟩;have Q1:=zb (Q0.out.below hb1);clear hb1 s1 s2 s3 s4;obtain ⟨s1,s2,s3,s4⟩:=jR (Q1.out.row 0 rfl))
  | (go_at_call 15;(with_reducible refine (zd5 _ (HT.out.below Q1.out.bl)).mono ?_);rintro e w2 ⟨rfl,hb2⟩;have Q2:=zb (Q1.out.below hb2)))
 all_goals
  go_ret;exact ⟨rfl,Q2.out.bl⟩
theorem zfb (w:World) (hT:Tab w) (N:Nt) (A:Option Addr) (c:Nat) (Aw:Option Addr) (lw cw:Nat) (At:Option Addr) (lt ct:Nat) (hlen:N.l.length≤140737488355328) (hN:NtAt w w.heap.size A N.l) (hl:jL N lt=true) (PW PS:Value→World→Prop) (hpw:∀ v W W',PW v W→Below W.heap.size W W'→PW v W') (hps:∀ v W W',PS v W→Below W.heap.size W W'→PS v W') (E:Int) (M:Nat) (hM:M≤1000) (LP HP:List Pr) (LR HR:List Rat)
  (h1:∀ W,Below w.heap.size w W→Calls Tryz.prog 17 #[yu N A c Aw lw cw At lt ct] W fun e w'=>∃ v,e = .returned v∧PW v w'∧Below W.heap.size W w')
  (h2:∀ W v,Below w.heap.size w W→PW v W→Calls Tryz.prog 21 #[qg N A c,v] W fun e w'=>∃ x y,e = .returned (.tuple #[x,y,.int .i64 E])∧(∃ A1 c1,x = .slice A1 M c1∧Rd w' w'.heap.size A1 (M*2) (zD LP))∧(∃ A2 c2,y = .slice A2 M c2∧Rd w' w'.heap.size A2 (M*2) (zD HP))∧Below W.heap.size W w')
  (h3:∀ W,Below w.heap.size w W→Calls Tryz.prog 19 #[yu N A c Aw lw cw At lt ct] W fun e w'=>∃ v,e = .returned v∧PS v w'∧Below W.heap.size W w')
  (h4:∀ W v,Below w.heap.size w W→PS v W→Calls Tryz.prog 22 #[qg N A c,v] W fun e w'=>∃ x y,e = .returned (.tuple #[x,y,.int .i64 E])∧(∃ A1 c1,x = .slice A1 M c1∧Rd w' w'.heap.size A1 (M*2) (zL LR))∧(∃ A2 c2,y = .slice A2 M c2∧Rd w' w'.heap.size A2 (M*2) (zL HR))∧Below W.heap.size W w')
  (h5:∀ k,k<M→∀ W,Calls Tryz.prog 20 #[zI (LP.getD k (0,0)).1 (LP.getD k (0,0)).2,zS (LR.getD k 0)] W fun e w'=>e = .returned (.bool true)∧Below W.heap.size W w')
  (h6:∀ k,k<M→∀ W,Calls Tryz.prog 20 #[zI (HP.getD k (0,0)).1 (HP.getD k (0,0)).2,zS (HR.getD k 0)] W fun e w'=>e = .returned (.bool true)∧Below W.heap.size W w') :
  Calls Tryz.prog 4 #[yu N A c Aw lw cw At lt ct] w fun e w'=>e = .returned (.bool true)∧Below w.heap.size w w':=by
 have q0:Kp w [jb w.heap.size N A c Aw lw cw At lt ct] (w.alloc (.cells #[.int .i64 N.n,.slice A N.l.length c,.slice Aw lw cw,.slice At lt ct] 28)):=(Kp.nil w).new _ _ w.heap.size 4 rfl rfl;obtain ⟨s1,s2,s3,s4⟩:=jR (q0.row 0 rfl);have hli:∀ W,Below w.heap.size w W→_:=fun W h=>zcn W N A c Aw lw cw At lt ct hlen ((hN.below h).more h.size);rw [hl] at hli;obtain ⟨PL,ePL⟩:∃ P:Value→World→Prop,(fun v W=>∃ A c,v = .slice A M c∧Rd W W.heap.size A (M*2) (zD LP))=P:=⟨_,rfl⟩;obtain ⟨PH,ePH⟩:∃ P:Value→World→Prop,(fun v W=>∃ A c,v = .slice A M c∧Rd W W.heap.size A (M*2) (zD HP))=P:=⟨_,rfl⟩;obtain ⟨QL,eQL⟩:∃ P:Value→World→Prop,(fun v W=>∃ A c,v = .slice A M c∧Rd W W.heap.size A (M*2) (zL LR))=P:=⟨_,rfl⟩;obtain ⟨QH,eQH⟩:∃ P:Value→World→Prop,(fun v W=>∃ A c,v = .slice A M c∧Rd W W.heap.size A (M*2) (zL HR))=P:=⟨_,rfl⟩;have h2':∀ W v,Below w.heap.size w W→PW v W→Calls Tryz.prog 21 #[qg N A c,v] W fun e w'=>∃ x y,e = .returned (.tuple #[x,y,.int .i64 E])∧PL x w'∧PH y w'∧Below W.heap.size W w':=by rw [← ePL,← ePH];exact h2
 have h4':∀ W v,Below w.heap.size w W→PS v W→Calls Tryz.prog 22 #[qg N A c,v] W fun e w'=>∃ x y,e = .returned (.tuple #[x,y,.int .i64 E])∧QL x w'∧QH y w'∧Below W.heap.size W w':=by rw [← eQL,← eQH];exact h4
 have HPL:=zb (show ∀ v W W',PL v W→Below W.heap.size W W'→PL v W' by rw [← ePL];rintro v W W' ⟨A,c,h,hr⟩ hb;exact ⟨A,c,h,zgo hr hb⟩);have HPH:=zb (show ∀ v W W',PH v W→Below W.heap.size W W'→PH v W' by rw [← ePH];rintro v W W' ⟨A,c,h,hr⟩ hb;exact ⟨A,c,h,zgo hr hb⟩);have HQL:=zb (show ∀ v W W',QL v W→Below W.heap.size W W'→QL v W' by rw [← eQL];rintro v W W' ⟨A,c,h,hr⟩ hb;exact ⟨A,c,h,zgo hr hb⟩);have HQH:=zb (show ∀ v W W',QH v W→Below W.heap.size W W'→QH v W' by rw [← eQH];rintro v W W' ⟨A,c,h,hr⟩ hb;exact ⟨A,c,h,zgo hr hb⟩);have EPL:=zb ePL;have EPH:=zb ePH;have EQL:=zb eQL;have EQH:=zb eQH;have HLI:=zb hli;have HPW:=zb hpw;have HPS:=zb hps;have HTP:=zb h2';have HTS:=zb h4';have H5:=zb h5;have H6:=zb h6;have HWP:=zb h1;have HWS:=zb h3;have HMM:=zb hM;have HT:=zb hT;have Q0:=zb q0;clear hli hT q0 hN hl hpw hps h1 h2 h3 h4 h5 h6 h2' h4' ePL ePH eQL eQH hM;go_enter Tryz.func4, Tryz.ntmps4;go_upto_region 3 with (go_at_call 14;(with_reducible refine (HLI.out _ Q0.out.bl).mono ?_);rintro e V0 ⟨rfl,hb1⟩;have Q1:=zb (Q0.out.below hb1);clear hb1 s1 s2 s3 s4;obtain ⟨s1,s2,s3,s4⟩:=jR (Q1.out.row 0 rfl))
 clear HLI Q0;go_cut [3,4,5] from 14 to 22 (fun p q r wx=>PL p wx∧PH q wx∧r = .int .i64 E∧Kp w [jb w.heap.size N A c Aw lw cw At lt ct] wx)
 case first =>
  have BL:=zb Q1.out.bl;have hbx:=(Q1.out.row 0 rfl).lt;have HS:Hid (∀ W,Below V0.heap.size V0 W→W.cell? ⟨w.heap.size,0,none⟩=some (.int .i64 N.n)∧W.cell? ⟨w.heap.size,1,none⟩=some (.slice A N.l.length c)∧W.cell? ⟨w.heap.size,2,none⟩=some (.slice Aw lw cw)∧W.cell? ⟨w.heap.size,3,none⟩=some (.slice At lt ct)):=zb fun W hb=>⟨zC hb s1 hbx,zC hb s2 hbx,zC hb s3 hbx,zC hb s4 hbx⟩;refine yx (n:=_) (PX:=[zl (.pointer (some ⟨w.heap.size,0,none⟩)),
     zl (.agg #[.int .i64 N.n,.slice A N.l.length c]),
     zl (.agg #[.int .i64 N.n,.slice A N.l.length c,.slice Aw lw cw,.slice At lt ct]),
     fun xl xv xw=>∃ v,xv=v∧PW v xw,
     fun xl xv xw=>∃ x y,xv = .tuple #[x,y,.int .i64 E]∧PL x xw∧PH y xw,
     fun xl xv xw=>∃ x y,xv = .tuple #[x,y,.int .i64 E]∧PL x xw∧PH y xw,
     fun xl xv xw=>∃ x,xv=x∧PL x xw,
     fun xl xv xw=>∃ x,xv=x∧PH x xw,
     zl (.int .i64 E),
     fun xl xv xw=>∃ x,xv=x∧PL x xw,
     fun xl xv xw=>∃ x,xv=x∧PH x xw,
     zl (.int .i64 E)])
    (AL:=[]) (DP:=[[],[0],[],[2],[1,3],[4],[5],[5],[5],[6],[7],[8]]) (L1:=[0,1,2,3,4,5,6,7,8,9,10,11]) (ex:=[]) (by kernel_rfl) rfl (by kernel_rfl) ?_ ?_ (yH ?_)
  ·repeat' first|exact zW|refine zk ?_ ?_|exact fun _ _ _ _ h _=>h|fail
   ·exact fun l v w w2 h hb=>by obtain ⟨x,h1,h2⟩:=h;exact ⟨x,h1,HPW.out _ _ _ h2 hb⟩
   ·exact fun l v w w2 h hb=>by obtain ⟨x,y,h1,h2,h3⟩:=h;exact ⟨x,y,h1,HPL.out _ _ _ h2 hb,HPH.out _ _ _ h3 hb⟩
   ·exact fun l v w w2 h hb=>by obtain ⟨x,y,h1,h2,h3⟩:=h;exact ⟨x,y,h1,HPL.out _ _ _ h2 hb,HPH.out _ _ _ h3 hb⟩
   ·exact fun l v w w2 h hb=>by obtain ⟨x,h1,h2⟩:=h;exact ⟨x,h1,HPL.out _ _ _ h2 hb⟩
   ·exact fun l v w w2 h hb=>by obtain ⟨x,h1,h2⟩:=h;exact ⟨x,h1,HPH.out _ _ _ h2 hb⟩
   ·exact fun l v w w2 h hb=>by obtain ⟨x,h1,h2⟩:=h;exact ⟨x,h1,HPL.out _ _ _ h2 hb⟩
   ·exact fun l v w w2 h hb=>by obtain ⟨x,h1,h2⟩:=h;exact ⟨x,h1,HPH.out _ _ _ h2 hb⟩
  ·refine zk (zv rfl [] ?_) (zk (zv rfl [(0,some 15)] ?_) (zk (zv rfl [] ?_) (zk ?_ (zk ?_ (zk ?_ (zk ?_ (zk ?_ (zk ?_ (zk ?_ (zk ?_ (zk (zv rfl [(8,some 22)] ?_) zW)))))))))));all_goals try (intro vs W hW hd K hK;(try simp only [qa,zl,and_true,List.getD_cons_succ,List.getD_cons_zero] at hd);(first | simp only [hd,zm,Act.put,zj,zi,zh,zg,zf,ze] at hK ⊢ | simp only [zm,Act.put,zj,zi,zh,zg,zf,ze] at hK ⊢ | skip);obtain ⟨m1,m2,m3,m4⟩:=HS.out W hW;go_simp;exact hK.out _ _ rfl (zx _ _) (qU rfl))
   ·refine zJ rfl [(2,some 17)] ?_;intro vs W hW hd K hK;have d2:vs 2 = .agg #[.int .i64 N.n,.slice A N.l.length c,.slice Aw lw cw,.slice At lt ct]:=hd 2 (by decide);clear hd;try simp only [d2,zm,Act.put,zj,zi,zh,zg,zf,ze] at hK ⊢
    go_simp;go_at_call 17;(with_reducible first | refine (HWP.out _ (zw BL.out hW BL.out.size)).mono ?_);rintro e w9 ⟨v,rfl,hq9,hb9⟩;exact hK.out _ _ (⟨_,rfl,hq9⟩) hb9 (fun h=>absurd h (by decide))
   ·refine zJ rfl [(1,some 16),(3,some 18)] ?_;intro vs W hW hd K hK;have d1:vs 1 = .agg #[.int .i64 N.n,.slice A N.l.length c]:=hd 1 (by decide);obtain ⟨v,d3,hq8⟩:∃ v,vs 3=v∧PW v W:=hd 3 (by decide);clear hd;try simp only [d1,d3,zm,Act.put,zj,zi,zh,zg,zf,ze] at hK ⊢
    go_simp;go_at_call 21;(with_reducible first | refine (HTP.out _ _ (zw BL.out hW BL.out.size) hq8).mono ?_);rintro e w9 ⟨x9,y9,rfl,hl9,hh9,hb9⟩;exact hK.out _ _ (⟨_,_,rfl,hl9,hh9⟩) hb9 (fun h=>absurd h (by decide))
   ·refine zJ rfl [(4,some 19)] ?_;intro vs W hW hd K hK;obtain ⟨xa,ya,d4,hxa,hya⟩:∃ x y,vs 4 = .tuple #[x,y,.int .i64 E]∧PL x W∧PH y W:=hd 4 (by decide);clear hd;try simp only [d4,zm,Act.put,zj,zi,zh,zg,zf,ze] at hK ⊢
    go_simp;exact hK.out _ _ (⟨_,_,rfl,hxa,hya⟩) (zx _ _) (fun h=>absurd h (by decide))
   ·refine zJ rfl [(5,some 14)] ?_;intro vs W hW hd K hK;obtain ⟨xm,ym,d5,hxm,hym⟩:∃ x y,vs 5 = .tuple #[x,y,.int .i64 E]∧PL x W∧PH y W:=hd 5 (by decide);clear hd;try simp only [d5,zm,Act.put,zj,zi,zh,zg,zf,ze] at hK ⊢
    go_simp;exact hK.out _ _ (⟨_,rfl,hxm⟩) (zx _ _) (fun h=>absurd h (by decide))
   ·refine zJ rfl [(5,some 14)] ?_;intro vs W hW hd K hK;obtain ⟨xm,ym,d5,hxm,hym⟩:∃ x y,vs 5 = .tuple #[x,y,.int .i64 E]∧PL x W∧PH y W:=hd 5 (by decide);clear hd;try simp only [d5,zm,Act.put,zj,zi,zh,zg,zf,ze] at hK ⊢
    go_simp;exact hK.out _ _ (⟨_,rfl,hym⟩) (zx _ _) (fun h=>absurd h (by decide))
   ·refine zJ rfl [(5,some 14)] ?_;intro vs W hW hd K hK;obtain ⟨xm,ym,d5,hxm,hym⟩:∃ x y,vs 5 = .tuple #[x,y,.int .i64 E]∧PL x W∧PH y W:=hd 5 (by decide);clear hd;try simp only [d5,zm,Act.put,zj,zi,zh,zg,zf,ze] at hK ⊢
    go_simp;exact hK.out _ _ rfl (zx _ _) (qU rfl)
   ·refine zJ rfl [(6,some 20)] ?_;intro vs W hW hd K hK;obtain ⟨xe,d6,hxe⟩:∃ x,vs 6=x∧PL x W:=hd 6 (by decide);clear hd;try simp only [d6,zm,Act.put,zj,zi,zh,zg,zf,ze] at hK ⊢
    go_simp;exact hK.out _ _ (⟨_,rfl,hxe⟩) (zx _ _) (fun h=>absurd h (by decide))
   ·refine zJ rfl [(7,some 21)] ?_;intro vs W hW hd K hK;obtain ⟨ye,d7,hye⟩:∃ x,vs 7=x∧PH x W:=hd 7 (by decide);clear hd;try simp only [d7,zm,Act.put,zj,zi,zh,zg,zf,ze] at hK ⊢
    go_simp;exact hK.out _ _ (⟨_,rfl,hye⟩) (zx _ _) (fun h=>absurd h (by decide))
  refine qQ [(0,some 15),(1,some 16),(2,some 17),(3,some 18),(4,some 19),(5,some 14),(6,some 20),(7,some 21),(8,some 22),(9,some 3),(10,some 4),(11,some 5)] #[true,true,true,true,true,true,true,true,true,true,true,true] 0 ?_;intro vs Wf hW hd hbk hdis kf;simp only [qa,zl,and_true,List.getD_cons_succ,List.getD_cons_zero] at hd;obtain ⟨d0,d1,d2,⟨v,d3,hq8⟩,⟨xa,ya,d4,hxa,hya⟩,⟨xm,ym,d5,hxm,hym⟩,⟨xe,d6,hxe⟩,⟨ye,d7,hye⟩,d8,⟨xf,d9,hxf⟩,⟨yf,d10,hyf⟩,d11⟩:=hd;clear hbk hdis;try simp only [d0,d1,d2,d3,d4,d5,d6,d7,d8,d9,d10,d11,zm,Act.put,zj,zi,zh,zg,zf,ze]
  clear d0 d1 d2 d3 d4 d5 d6 d7 d8 d9 d10 d11 vs;clear HS;refine qc (by kernel_rfl) ?_ _;all_goals
   try go_wp2
   go_meet;exact ⟨hxf,hyf,rfl,Q1.out.below hW⟩
 case rest =>
 obtain ⟨hp1,hp2,rfl,hq⟩:=hcut;obtain ⟨V1,rfl⟩:∃ V,V=wc:=⟨wc,rfl⟩;have Q2:=zb hq;have P1:=zb hp1;have P2:=zb hp2;clear s1 s2 s3 s4 hq Q1 HTP HWP HPW hp1 hp2;obtain ⟨s1,s2,s3,s4⟩:=jR (Q2.out.row 0 rfl);go_upto_region 4 with (fail)
 go_cut [6,7,8] from 23 to 31 (fun p q r wx=>QL p wx∧QH q wx∧r = .int .i64 E∧Kp w [jb w.heap.size N A c Aw lw cw At lt ct] wx∧Below V1.heap.size V1 wx)
 case first =>
  have BL:=zb Q2.out.bl;have hbx:=(Q2.out.row 0 rfl).lt;have HS:Hid (∀ W,Below V1.heap.size V1 W→W.cell? ⟨w.heap.size,0,none⟩=some (.int .i64 N.n)∧W.cell? ⟨w.heap.size,1,none⟩=some (.slice A N.l.length c)∧W.cell? ⟨w.heap.size,2,none⟩=some (.slice Aw lw cw)∧W.cell? ⟨w.heap.size,3,none⟩=some (.slice At lt ct)):=zb fun W hb=>⟨zC hb s1 hbx,zC hb s2 hbx,zC hb s3 hbx,zC hb s4 hbx⟩;refine yx (n:=_) (PX:=[zl (.pointer (some ⟨w.heap.size,0,none⟩)),
     zl (.agg #[.int .i64 N.n,.slice A N.l.length c]),
     zl (.agg #[.int .i64 N.n,.slice A N.l.length c,.slice Aw lw cw,.slice At lt ct]),
     fun xl xv xw=>∃ v,xv=v∧PS v xw,
     fun xl xv xw=>∃ x y,xv = .tuple #[x,y,.int .i64 E]∧QL x xw∧QH y xw,
     fun xl xv xw=>∃ x y,xv = .tuple #[x,y,.int .i64 E]∧QL x xw∧QH y xw,
     fun xl xv xw=>∃ x,xv=x∧QL x xw,
     fun xl xv xw=>∃ x,xv=x∧QH x xw,
     zl (.int .i64 E),
     fun xl xv xw=>∃ x,xv=x∧QL x xw,
     fun xl xv xw=>∃ x,xv=x∧QH x xw,
     zl (.int .i64 E)])
    (AL:=[]) (DP:=[[],[0],[],[2],[1,3],[4],[5],[5],[5],[6],[7],[8]]) (L1:=[0,1,2,3,4,5,6,7,8,9,10,11]) (ex:=[]) (by kernel_rfl) rfl (by kernel_rfl) ?_ ?_ (yH ?_)
  ·repeat' first|exact zW|refine zk ?_ ?_|exact fun _ _ _ _ h _=>h|fail
   ·exact fun l v w w2 h hb=>by obtain ⟨x,h1,h2⟩:=h;exact ⟨x,h1,HPS.out _ _ _ h2 hb⟩
   ·exact fun l v w w2 h hb=>by obtain ⟨x,y,h1,h2,h3⟩:=h;exact ⟨x,y,h1,HQL.out _ _ _ h2 hb,HQH.out _ _ _ h3 hb⟩
   ·exact fun l v w w2 h hb=>by obtain ⟨x,y,h1,h2,h3⟩:=h;exact ⟨x,y,h1,HQL.out _ _ _ h2 hb,HQH.out _ _ _ h3 hb⟩
   ·exact fun l v w w2 h hb=>by obtain ⟨x,h1,h2⟩:=h;exact ⟨x,h1,HQL.out _ _ _ h2 hb⟩
   ·exact fun l v w w2 h hb=>by obtain ⟨x,h1,h2⟩:=h;exact ⟨x,h1,HQH.out _ _ _ h2 hb⟩
   ·exact fun l v w w2 h hb=>by obtain ⟨x,h1,h2⟩:=h;exact ⟨x,h1,HQL.out _ _ _ h2 hb⟩
   ·exact fun l v w w2 h hb=>by obtain ⟨x,h1,h2⟩:=h;exact ⟨x,h1,HQH.out _ _ _ h2 hb⟩
  ·refine zk (zv rfl [] ?_) (zk (zv rfl [(0,some 24)] ?_) (zk (zv rfl [] ?_) (zk ?_ (zk ?_ (zk ?_ (zk ?_ (zk ?_ (zk ?_ (zk ?_ (zk ?_ (zk (zv rfl [(8,some 31)] ?_) zW)))))))))));all_goals try (intro vs W hW hd K hK;(try simp only [qa,zl,and_true,List.getD_cons_succ,List.getD_cons_zero] at hd);(first | simp only [hd,zm,Act.put,zj,zi,zh,zg,zf,ze] at hK ⊢ | simp only [zm,Act.put,zj,zi,zh,zg,zf,ze] at hK ⊢ | skip);obtain ⟨m1,m2,m3,m4⟩:=HS.out W hW;go_simp;exact hK.out _ _ rfl (zx _ _) (qU rfl))
   ·refine zJ rfl [(2,some 26)] ?_;intro vs W hW hd K hK;have d2:vs 2 = .agg #[.int .i64 N.n,.slice A N.l.length c,.slice Aw lw cw,.slice At lt ct]:=hd 2 (by decide);clear hd;try simp only [d2,zm,Act.put,zj,zi,zh,zg,zf,ze] at hK ⊢
    go_simp;go_at_call 19;(with_reducible first | refine (HWS.out _ (zw BL.out hW BL.out.size)).mono ?_);rintro e w9 ⟨v,rfl,hq9,hb9⟩;exact hK.out _ _ (⟨_,rfl,hq9⟩) hb9 (fun h=>absurd h (by decide))
   ·refine zJ rfl [(1,some 25),(3,some 27)] ?_;intro vs W hW hd K hK;have d1:vs 1 = .agg #[.int .i64 N.n,.slice A N.l.length c]:=hd 1 (by decide);obtain ⟨v,d3,hq8⟩:∃ v,vs 3=v∧PS v W:=hd 3 (by decide);clear hd;try simp only [d1,d3,zm,Act.put,zj,zi,zh,zg,zf,ze] at hK ⊢
    go_simp;go_at_call 22;(with_reducible first | refine (HTS.out _ _ (zw BL.out hW BL.out.size) hq8).mono ?_);rintro e w9 ⟨x9,y9,rfl,hl9,hh9,hb9⟩;exact hK.out _ _ (⟨_,_,rfl,hl9,hh9⟩) hb9 (fun h=>absurd h (by decide))
   ·refine zJ rfl [(4,some 28)] ?_;intro vs W hW hd K hK;obtain ⟨xa,ya,d4,hxa,hya⟩:∃ x y,vs 4 = .tuple #[x,y,.int .i64 E]∧QL x W∧QH y W:=hd 4 (by decide);clear hd;try simp only [d4,zm,Act.put,zj,zi,zh,zg,zf,ze] at hK ⊢
    go_simp;exact hK.out _ _ (⟨_,_,rfl,hxa,hya⟩) (zx _ _) (fun h=>absurd h (by decide))
   ·refine zJ rfl [(5,some 23)] ?_;intro vs W hW hd K hK;obtain ⟨xm,ym,d5,hxm,hym⟩:∃ x y,vs 5 = .tuple #[x,y,.int .i64 E]∧QL x W∧QH y W:=hd 5 (by decide);clear hd;try simp only [d5,zm,Act.put,zj,zi,zh,zg,zf,ze] at hK ⊢
    go_simp;exact hK.out _ _ (⟨_,rfl,hxm⟩) (zx _ _) (fun h=>absurd h (by decide))
   ·refine zJ rfl [(5,some 23)] ?_;intro vs W hW hd K hK;obtain ⟨xm,ym,d5,hxm,hym⟩:∃ x y,vs 5 = .tuple #[x,y,.int .i64 E]∧QL x W∧QH y W:=hd 5 (by decide);clear hd;try simp only [d5,zm,Act.put,zj,zi,zh,zg,zf,ze] at hK ⊢
    go_simp;exact hK.out _ _ (⟨_,rfl,hym⟩) (zx _ _) (fun h=>absurd h (by decide))
   ·refine zJ rfl [(5,some 23)] ?_;intro vs W hW hd K hK;obtain ⟨xm,ym,d5,hxm,hym⟩:∃ x y,vs 5 = .tuple #[x,y,.int .i64 E]∧QL x W∧QH y W:=hd 5 (by decide);clear hd;try simp only [d5,zm,Act.put,zj,zi,zh,zg,zf,ze] at hK ⊢
    go_simp;exact hK.out _ _ rfl (zx _ _) (qU rfl)
   ·refine zJ rfl [(6,some 29)] ?_;intro vs W hW hd K hK;obtain ⟨xe,d6,hxe⟩:∃ x,vs 6=x∧QL x W:=hd 6 (by decide);clear hd;try simp only [d6,zm,Act.put,zj,zi,zh,zg,zf,ze] at hK ⊢
    go_simp;exact hK.out _ _ (⟨_,rfl,hxe⟩) (zx _ _) (fun h=>absurd h (by decide))
   ·refine zJ rfl [(7,some 30)] ?_;intro vs W hW hd K hK;obtain ⟨ye,d7,hye⟩:∃ x,vs 7=x∧QH x W:=hd 7 (by decide);clear hd;try simp only [d7,zm,Act.put,zj,zi,zh,zg,zf,ze] at hK ⊢
    go_simp;exact hK.out _ _ (⟨_,rfl,hye⟩) (zx _ _) (fun h=>absurd h (by decide))
  refine qQ [(0,some 24),(1,some 25),(2,some 26),(3,some 27),(4,some 28),(5,some 23),(6,some 29),(7,some 30),(8,some 31),(9,some 6),(10,some 7),(11,some 8)] #[true,true,true,true,true,true,true,true,true,true,true,true] 0 ?_;intro vs Wf hW hd hbk hdis kf;simp only [qa,zl,and_true,List.getD_cons_succ,List.getD_cons_zero] at hd;obtain ⟨d0,d1,d2,⟨v,d3,hq8⟩,⟨xa,ya,d4,hxa,hya⟩,⟨xm,ym,d5,hxm,hym⟩,⟨xe,d6,hxe⟩,⟨ye,d7,hye⟩,d8,⟨xf,d9,hxf⟩,⟨yf,d10,hyf⟩,d11⟩:=hd;clear hbk hdis;try simp only [d0,d1,d2,d3,d4,d5,d6,d7,d8,d9,d10,d11,zm,Act.put,zj,zi,zh,zg,zf,ze]
  clear d0 d1 d2 d3 d4 d5 d6 d7 d8 d9 d10 d11 vs;clear HS;refine qc (by kernel_rfl) ?_ _;all_goals
   try go_wp2
   go_meet;exact ⟨hxf,hyf,rfl,Q2.out.below hW,hW⟩
 case rest =>
 obtain ⟨hp3,hp4,rfl,hq,hbq⟩:=hcut;have hp1:=HPL.out _ _ _ P1.out hbq;have hp2:=HPH.out _ _ _ P2.out hbq;rw [← EPL.out] at hp1;rw [← EPH.out] at hp2;rw [← EQL.out] at hp3;rw [← EQH.out] at hp4;obtain ⟨V2,rfl⟩:∃ V,V=wc:=⟨wc,rfl⟩;obtain ⟨A1,c1,rfl,rd1⟩:=hp1;obtain ⟨A2,c2,rfl,rd2⟩:=hp2;obtain ⟨A3,c3,rfl,rd3⟩:=hp3;obtain ⟨A4,c4,rfl,rd4⟩:=hp4;have RD1:=zb rd1;have RD2:=zb rd2;have RD3:=zb rd3;have RD4:=zb rd4;have Q3:=zb hq;have B0:=zb (Below.refl V2.heap.size V2);clear s1 s2 s3 s4 hq hbq rd1 rd2 rd3 rd4 Q2 HTS HWS HPS HPL HPH HQL HQH EPL EPH EQL EQH P1 P2;go_wp2_with fail
 go_loopw [51] (fun t wr=>∃ k:Nat,k≤M∧t = .int .i64 (k:Int)∧Below V2.heap.size V2 wr) (fun t _=>M-(intOf t).toNat)
 case atStart=>exact ⟨0,Nat.zero_le _,rfl,B0.out⟩
 case round =>
  obtain ⟨k,hk,rfl,hb⟩:=hrel;by_cases hlt:k<M
  ·have hc0:decide ((k:Int)<(M:Int))=true:=decide_eq_true (by omega);have hc1:(k:Int)<(M:Int):=by omega
   have hc2:(0:Int)≤(k:Int):=by omega
   have hmm:=HMM.out;have e9:IntKind.i64.wrap ((k:Int)+1)=(k:Int)+1:=by rw [IntKind.wrap_i64];omega
   have hi1:=fun W=>H5.out k hlt W;have hi2:=fun W=>H6.out k hlt W;obtain ⟨b1,o1,rfl,l1,f1⟩:=RD1.out (by omega);obtain ⟨b2,o2,rfl,l2,f2⟩:=RD2.out (by omega);obtain ⟨b3,o3,rfl,l3,f3⟩:=RD3.out (by omega);obtain ⟨b4,o4,rfl,l4,f4⟩:=RD4.out (by omega);have s1:wr.cell? ⟨b1,o1+k*2,none⟩=some (.string (za (LP.getD k (0,0)).1)):=(zB hb l1 (f1 (k*2) (by omega))).trans (by rw [oR]);have s2:wr.cell? ⟨b1,o1+k*2+1,none⟩=some (.string (za (LP.getD k (0,0)).2)):=(zB hb l1 (f1 (k*2+1) (by omega))).trans (by rw [oS]);have s3:wr.cell? ⟨b3,o3+k*2,none⟩=some (.string (zc (qn (LR.getD k 0)))):=(zB hb l3 (f3 (k*2) (by omega))).trans (by rw [oP]);have s4:wr.cell? ⟨b3,o3+k*2+1,none⟩=some (.string (zc (LR.getD k 0).den)):=(zB hb l3 (f3 (k*2+1) (by omega))).trans (by rw [oQ]);have s5:wr.cell? ⟨b2,o2+k*2,none⟩=some (.string (za (HP.getD k (0,0)).1)):=(zB hb l2 (f2 (k*2) (by omega))).trans (by rw [oR]);have s6:wr.cell? ⟨b2,o2+k*2+1,none⟩=some (.string (za (HP.getD k (0,0)).2)):=(zB hb l2 (f2 (k*2+1) (by omega))).trans (by rw [oS]);have s7:wr.cell? ⟨b4,o4+k*2,none⟩=some (.string (zc (qn (HR.getD k 0)))):=(zB hb l4 (f4 (k*2) (by omega))).trans (by rw [oP]);have s8:wr.cell? ⟨b4,o4+k*2+1,none⟩=some (.string (zc (HR.getD k 0).den)):=(zB hb l4 (f4 (k*2+1) (by omega))).trans (by rw [oQ]);unfold zS at hi1 hi2;obtain ⟨p1,e1⟩:∃ x,(LP.getD k (0,0)).1=x:=⟨_,rfl⟩;obtain ⟨p2,e2⟩:∃ x,(LP.getD k (0,0)).2=x:=⟨_,rfl⟩;obtain ⟨q1,e3⟩:∃ x,(HP.getD k (0,0)).1=x:=⟨_,rfl⟩;obtain ⟨q2,e4⟩:∃ x,(HP.getD k (0,0)).2=x:=⟨_,rfl⟩;obtain ⟨r1,e5⟩:∃ x,qn (LR.getD k 0)=x:=⟨_,rfl⟩;obtain ⟨r2,e6⟩:∃ x,(LR.getD k 0).den=x:=⟨_,rfl⟩;obtain ⟨t1,e7⟩:∃ x,qn (HR.getD k 0)=x:=⟨_,rfl⟩;obtain ⟨t2,e8⟩:∃ x,(HR.getD k 0).den=x:=⟨_,rfl⟩;rw [e1] at s1;rw [e2] at s2;rw [e5] at s3;rw [e6] at s4;rw [e3] at s5;rw [e4] at s6;rw [e7] at s7;rw [e8] at s8;simp only [e1,e2,e5,e6] at hi1;simp only [e3,e4,e7,e8] at hi2;have HI1:=zb hi1;have HI2:=zb hi2;have gb1:=World.block_lt_of_cell? _ _ s1;have gb2:=World.block_lt_of_cell? _ _ s5;have gb3:=World.block_lt_of_cell? _ _ s3;have gb4:=World.block_lt_of_cell? _ _ s7;have HB:=zb hb;have HLT:=zb hlt;clear hi1 hi2 e1 e2 e3 e4 e5 e6 e7 e8 hb hlt hk f1 f2 f3 f4 l1 l2 l3 l4 hmm;go_upto_region 10 with (fail)
   have HS:Hid (∀ W,Below wr.heap.size wr W→W.cell? ⟨b1,o1+k*2,none⟩=some (.string (za p1))∧W.cell? ⟨b1,o1+k*2+1,none⟩=some (.string (za p2))∧W.cell? ⟨b3,o3+k*2,none⟩=some (.string (zc r1))∧W.cell? ⟨b3,o3+k*2+1,none⟩=some (.string (zc r2))∧W.cell? ⟨b2,o2+k*2,none⟩=some (.string (za q1))∧W.cell? ⟨b2,o2+k*2+1,none⟩=some (.string (za q2))∧W.cell? ⟨b4,o4+k*2,none⟩=some (.string (zc t1))∧W.cell? ⟨b4,o4+k*2+1,none⟩=some (.string (zc t2))):=zb fun W hb=>⟨zC hb s1 gb1,zC hb s2 gb1,zC hb s3 gb3,zC hb s4 gb3,zC hb s5 gb2,zC hb s6 gb2,zC hb s7 gb4,zC hb s8 gb4⟩;refine yx (n:=_) (PX:=[zl (.slice (some ⟨b1,o1,none⟩) M c1),
      zl (.int .i64 (k:Int)),
      zl (.pointer (some ⟨b1,o1+k*2,none⟩)),
      zl (.agg #[.string (za p1),.string (za p2)]),
      zl (.slice (some ⟨b3,o3,none⟩) M c3),
      zl (.int .i64 (k:Int)),
      zl (.pointer (some ⟨b3,o3+k*2,none⟩)),
      zl (.agg #[.string (zc r1),.string (zc r2)]),
      zl (.bool true),
      zl (.bool false),
      zl (.bool false),
      zl (.slice (some ⟨b2,o2,none⟩) M c2),
      zl (.int .i64 (k:Int)),
      zl (.pointer (some ⟨b2,o2+k*2,none⟩)),
      zl (.agg #[.string (za q1),.string (za q2)]),
      zl (.slice (some ⟨b4,o4,none⟩) M c4),
      zl (.int .i64 (k:Int)),
      zl (.pointer (some ⟨b4,o4+k*2,none⟩)),
      zl (.agg #[.string (zc t1),.string (zc t2)]),
      zl (.bool true),
      zl (.bool false),
      zl (.bool false)])
     (AL:=[]) (DP:=[[],[],[0,1],[2],[],[],[4,5],[6],[3,7],[8],[9],[10],[10],[10,11,12],[10,13],[10],[10],[10,15,16],[10,17],[10,14,18],[10,19],[10,20]]) (L1:=[0,1,2,3,4,5,6,7,8,9,10,11,12,13,14,15,16,17,18,19,20,21]) (ex:=[]) (by kernel_rfl) rfl (by kernel_rfl) ?_ ?_ (yH ?_)
   ·repeat' first|exact zW|refine zk ?_ ?_|exact fun _ _ _ _ h _=>h
   ·refine zk (zv rfl [] ?_) (zk (zv rfl [] ?_) (zk (zv rfl [(0,some 54),(1,some 55)] ?_) (zk (zv rfl [(2,some 56)] ?_) (zk (zv rfl [] ?_) (zk (zv rfl [] ?_) (zk (zv rfl [(4,some 58),(5,some 59)] ?_) (zk (zv rfl [(6,some 60)] ?_) (zk ?_ (zk (zv rfl [(8,some 62)] ?_) (zk (zv rfl [(9,some 63)] ?_) (zk (zv rfl [(10,some 64)] ?_) (zk (zv rfl [(10,some 64)] ?_) (zk (zv rfl [(10,some 64),(11,some 65),(12,some 66)] ?_) (zk (zv rfl [(10,some 64),(13,some 67)] ?_) (zk (zv rfl [(10,some 64)] ?_) (zk (zv rfl [(10,some 64)] ?_) (zk (zv rfl [(10,some 64),(15,some 69),(16,some 70)] ?_) (zk (zv rfl [(10,some 64),(17,some 71)] ?_) (zk ?_ (zk (zv rfl [(10,some 64),(19,some 73)] ?_) (zk (zv rfl [(10,some 64),(20,some 74)] ?_) zW)))))))))))))))))))));all_goals try (intro vs W hW hd K hK;(try simp only [qa,zl,and_true,List.getD_cons_succ,List.getD_cons_zero] at hd);(first | simp only [hd,zm,Act.put,zj,zi,zh,zg,zf,ze] at hK ⊢ | simp only [zm,Act.put,zj,zi,zh,zg,zf,ze] at hK ⊢ | skip);obtain ⟨m1,m2,m3,m4,m5,m6,m7,m8⟩:=HS.out W hW;go_simp;exact hK.out _ _ rfl (zx _ _) (qU rfl))
    ·refine zJ rfl [(3,some 57),(7,some 61)] ?_;intro vs W hW hd K hK;have d3:vs 3 = .agg #[.string (za p1),.string (za p2)]:=hd 3 (by decide);have d7:vs 7 = .agg #[.string (zc r1),.string (zc r2)]:=hd 7 (by decide);clear hd;try simp only [d3,d7,zm,Act.put,zj,zi,zh,zg,zf,ze] at hK ⊢
     go_simp;go_at_call 20;(with_reducible first | refine (HI1.out _).mono ?_);rintro e w9 ⟨rfl,hb9⟩;exact hK.out _ _ (rfl) hb9 (fun h=>absurd h (by decide))
    ·refine zJ rfl [(10,some 64),(14,some 68),(18,some 72)] ?_;intro vs W hW hd K hK;have d10:vs 10 = .bool false:=hd 10 (by decide);have d14:vs 14 = .agg #[.string (za q1),.string (za q2)]:=hd 14 (by decide);have d18:vs 18 = .agg #[.string (zc t1),.string (zc t2)]:=hd 18 (by decide);clear hd;try simp only [d10,d14,d18,zm,Act.put,zj,zi,zh,zg,zf,ze] at hK ⊢
     go_simp;go_at_call 20;(with_reducible first | refine (HI2.out _).mono ?_);rintro e w9 ⟨rfl,hb9⟩;exact hK.out _ _ (rfl) hb9 (fun h=>absurd h (by decide))
   refine qQ [(0,some 54),(1,some 55),(2,some 56),(3,some 57),(4,some 58),(5,some 59),(6,some 60),(7,some 61),(8,some 62),(9,some 63),(10,some 64),(11,some 65),(12,some 66),(13,some 67),(14,some 68),(15,some 69),(16,some 70),(17,some 71),(18,some 72),(19,some 73),(20,some 74),(21,some 75)] #[true,true,true,true,true,true,true,true,true,true,true,true,true,true,true,true,true,true,true,true,true,true] 0 ?_;intro vs Wf hW hd hbk hdis kf;simp only [qa,zl,and_true,List.getD_cons_succ,List.getD_cons_zero] at hd;obtain ⟨d0,d1,d2,d3,d4,d5,d6,d7,d8,d9,d10,d11,d12,d13,d14,d15,d16,d17,d18,d19,d20,d21⟩:=hd;clear hbk hdis;try simp only [d0,d1,d2,d3,d4,d5,d6,d7,d8,d9,d10,d11,d12,d13,d14,d15,d16,d17,d18,d19,d20,d21,zm,Act.put,zj,zi,zh,zg,zf,ze]
   clear d0 d1 d2 d3 d4 d5 d6 d7 d8 d9 d10 d11 d12 d13 d14 d15 d16 d17 d18 d19 d20 d21 vs;clear HS;refine qc (by kernel_rfl) ?_ _;all_goals
    clear s1 s2 s3 s4 s5 s6 s7 s8;go_wp2;go_roundw
   case rel=>exact ⟨k+1,Nat.succ_le_of_lt HLT.out,by go_num,zw HB.out hW HB.out.size⟩
   case measure=>have:=HLT.out;simp [intOf];omega
  ·obtain rfl:k=M:=by omega
   have hc0:decide ((k:Int)<(k:Int))=false:=decide_eq_false (by omega);have Q4:=zb (Q3.out.below hb);clear hlt hk hb;go_wp2_with (go_at_call 15;(with_reducible refine (zd5 _ (HT.out.below Q4.out.bl)).mono ?_);rintro e w6 ⟨rfl,hb6⟩;have Q5:=zb (Q4.out.below hb6))
   go_ret;exact ⟨rfl,Q5.out.bl⟩
theorem lits_any (w:World) (hT:Tab w) (N:Nt) (A:Option Addr) (c:Nat) (Aw:Option Addr) (lw cw:Nat) (At:Option Addr) (lt ct:Nat) (F:Nat→Nat) (hlen:N.l.length≤140737488355328) (hN:NtAt w w.heap.size A N.l)
  (hlw:lw≤140737488355328) (hw:Rd w w.heap.size Aw (lw*4) (fun i=>.int .u8 (F i:Nat))) (hF:∀ i,F i<256) :
  Calls Tryz.prog 4 #[yu N A c Aw lw cw At lt ct] w fun e w'=>e = .returned (.bool true)∧Below w.heap.size w w':=by
 by_cases hl:jL N lt=true
 case neg=>exact lits_no w hT N A c Aw lw cw At lt ct hlen hN (by simpa using hl)
 have q0:qn (0:Rat)=0:=by decide
 have d0:(0:Rat).den=1:=rfl;have z1:zz (qn (0:Rat))≤1000000:=by rw [q0];decide +kernel
 have z2:zz (0:Rat).den≤1000000:=by rw [d0];decide +kernel
 by_cases hv:zG N=true
 ·obtain ⟨hn0,hn1,hl0,hl1⟩:=qN hv;have h8:=askB_8 hl hv;have hin:=oB hl;obtain ⟨n,hn⟩:∃ n:Nat,N.n=n:=⟨N.n.toNat,by omega⟩;have hn8:n≤8:=by omega
  have hpw:=pw_hyp w N A c Aw lw cw At lt ct F hlw hw hF n hn (by omega);have hps:=ps_hyp w N A c Aw lw cw At lt ct F hlw hw hF n hn (by omega);have hW:=aw_in lw F n;have hb:=oA lw F n (by omega);have h6:=aw_six lw F (n+1);obtain ⟨L,hL⟩:∃ L,qK lw F (n+1)=L:=⟨_,rfl⟩;obtain ⟨H,hH⟩:∃ H,qL lw F (n+1)=H:=⟨_,rfl⟩;rw [hL,hH] at hpw hps hW hb;simp only [hL,hH] at h6;have hwf:yc N n L H=qu N:=zgS hb;have h6l:=fun k=>(h6 k).1;have h6h:=fun k=>(h6 k).2;have hck:∀ W v,Below w.heap.size w W→yG n L H v W→∃ Al Ah cl ch,v = .agg #[.slice Al (n+1) cl,.slice Ah (n+1) ch]∧n+1≤cl∧n+1≤ch∧Rd W W.heap.size Al ((n+1)*2) (zL (L.map qp))∧Rd W W.heap.size Ah ((n+1)*2) (zL (H.map qp))∧RkE W N A c cl ch (n+1) (n+1) Al Ah (qu N):=by
   rintro W v hWb ⟨Al,Ah,cl,ch,rfl,m1,m2,r1,r2⟩;refine ⟨Al,Ah,cl,ch,rfl,m1,m2,r1,r2,fun V hV=>?_⟩;have hB:=zw hWb hV hWb.size;exact gA V N A c n cl ch (L.map qp) (H.map qp) Al Ah hlen ((hN.below hB).more hB.size) hv hn ((r1.below hV).more hV.size) ((r2.below hV).more hV.size) m1 m2 (fun k=>by rw [yV];exact ziz (by have:=(h6l k).1;omega) (by have:=(h6l k).2;omega)) (fun k=>by rw [yV];exact ziz (by have:=(h6h k).1;omega) (by have:=(h6h k).2;omega))
    (fun j hj=>Nat.le_trans (zil h6l h6h j) (by omega))
  by_cases hE:qu N=0
  ·obtain ⟨hd,hs⟩:=zfm hv hE;have ok:=hW.ok hb;have hE0:yc N n L H=0:=hwf.trans hE;refine zfb w hT N A c Aw lw cw At lt ct hlen hN hl (PwV n L H) (yG n L H) zcY zbW 0 (n+1) (by omega) (yM N n L H n) (yw N n L H n) (((List.range (n+1)).map (rlP N n L H)).map qp) (((List.range (n+1)).map (rhP N n L H)).map qp) hpw ?_ hps ?_ ?_ ?_
   ·rintro W v hWb ⟨Al,Ah,cl,ch,rfl,m1,m2,r1,r2⟩;refine (zhF W N A c cl ch n L H Al Ah ((hN.below hWb).more hWb.size) hv hn (hT.below hWb) hin hW r1 r2 m1 m2 hE0).mono ?_;rintro e w' ⟨gl,gh,rfl,_,_,q1,q2,hb'⟩;exact ⟨_,_,rfl,⟨_,_,rfl,zjb q1 (zu _) fun _ _=>rfl⟩,⟨_,_,rfl,zjb q2 (zu _) fun _ _=>rfl⟩,hb'⟩
   ·intro W v hWb hp;obtain ⟨Al,Ah,cl,ch,rfl,m1,m2,r1,r2,hc⟩:=hck W v hWb hp;rw [hE] at hc;refine (zkg W N A c n cl ch L H Al Ah ((hN.below hWb).more hWb.size) hv hn hd hs hW hb h6l h6h r1 r2 hc).mono ?_;rintro e w' ⟨A1,c1,A2,c2,rfl,q1,q2,hb'⟩;exact ⟨_,_,rfl,⟨_,_,rfl,q1⟩,⟨_,_,rfl,q2⟩,hb'⟩
   ·intro k hk W;rw [yV,zdq,if_pos hk];rcases Nat.eq_zero_or_pos k with rfl | hk0
    ·have e1:(yM N n L H n).getD 0 (0,0)=(0,0):=by unfold yM;rw [zdq,if_pos hk,if_pos rfl]
     rw [e1,show rlP N n L H 0=(0,0) from rfl,qp_zero];exact zdJ W (0,0) 0 zbY z1 z2 qp_zero
    ·have okT:=hW.okT hb [-(k:Int)];have g:=(zf6 okT hv hd hs hn).dg1;rw [gS hk0 (by omega)];have e1:rlP N n L H k=yI N n L H [-(k:Int)]:=by unfold rlP;rw [if_neg (by omega)]
     rw [e1];exact zdJ W _ _ ⟨RP_Lp okT N,zeG okT hv hd hs hn⟩ (Nat.le_trans g.2.1 (by decide)) (Nat.le_trans g.2.2 (by decide)) rfl
   ·intro k hk W;rw [yV,zdq,if_pos hk];rcases Nat.eq_zero_or_pos k with rfl | hk0
    ·have e1:(yw N n L H n).getD 0 (0,0)=(0,0):=by unfold yw;rw [zdq,if_pos hk,if_pos rfl]
     rw [e1,show rhP N n L H 0=(0,0) from rfl,qp_zero];exact zdJ W (0,0) 0 zbY z1 z2 qp_zero
    ·have hkn:k≤n:=by omega
     have okT:=hW.okT hb [(k:Int)];have g:=(zf6 okT hv hd hs hn).dg1;have e1:rhP N n L H k=yI N n L H [(k:Int)]:=by unfold rhP;rw [if_neg (by omega)]
     obtain ⟨q1,q2,q3⟩:=lh_sum hW hb hv hd hs hn hk0 hkn;have hpa:=zgs hW hb hv hd hn k hk0 hkn;have eh:(yw N n L H n).getD k (0,0)=pq (qp (yI N n L H [(k:Int)])):=by
      rw [zj1 hk0 hkn,hpa];unfold yI;congr 1
      grind
     have e2:qp ((yw N n L H n).getD k (0,0))=qp (yI N n L H [(k:Int)]):=by rw [eh];exact zij (yY _)
     have e3:Lp ((yw N n L H n).getD k (0,0)):=by rw [eh];exact Lp.pq (yY _)
     rw [e1];exact zdJ W _ _ ⟨e3,q3⟩ (Nat.le_trans g.2.1 (by decide)) (Nat.le_trans g.2.2 (by decide)) e2
  ·refine zfb w hT N A c Aw lw cw At lt ct hlen hN hl (PwV n L H) (yG n L H) zcY zbW (qu N) 0 (by omega) [] [] [] [] hpw ?_ hps ?_ (fun k hk=>absurd hk (Nat.not_lt_zero _)) (fun k hk=>absurd hk (Nat.not_lt_zero _))
   ·rintro W v hWb ⟨Al,Ah,cl,ch,rfl,m1,m2,r1,r2⟩;refine (zhG W N A c cl ch (n+1) (n+1) Al Ah (qu N) hE fun V hV=>?_).mono ?_
    ·have hB:=zw hWb hV hWb.size;exact zcU V N A c cl ch n L H Al Ah ((hN.below hB).more hB.size) hv hn (hT.below hB) ((r1.below hV).more hV.size) ((r2.below hV).more hV.size) hW.sl hW.sh m1 m2 (qu N) hwf.symm
    ·rintro e w' ⟨rfl,hb'⟩;exact ⟨_,_,rfl,⟨_,_,rfl,Rd.zero _ _ _ _⟩,⟨_,_,rfl,Rd.zero _ _ _ _⟩,hb'⟩
   ·intro W v hWb hp;obtain ⟨Al,Ah,cl,ch,rfl,m1,m2,r1,r2,hc⟩:=hck W v hWb hp;refine (zfE W N A c cl ch (n+1) (n+1) Al Ah (qu N) hE hc).mono ?_;rintro e w' ⟨rfl,hb'⟩;exact ⟨_,_,rfl,⟨_,_,rfl,Rd.zero _ _ _ _⟩,⟨_,_,rfl,Rd.zero _ _ _ _⟩,hb'⟩
 ·have hv:zG N=false:=by simpa using hv
  obtain ⟨K,hK⟩:∃ K:Nat,(K:Int)=max 0 (min N.n 128+1):=⟨(max 0 (min N.n 128+1)).toNat,by omega⟩;refine zfb w hT N A c Aw lw cw At lt ct hlen hN hl (fun v _=>∃ Al Ah ll lh cl ch,v=yJ Al Ah ll lh cl ch) (fun v _=>∃ Al Ah ll lh cl ch,v = .agg #[.slice Al ll cl,.slice Ah lh ch]) (fun _ _ _ h _=>h) (fun _ _ _ h _=>h) 1 0 (by omega) [] [] [] [] ?_ ?_ ?_ ?_ (fun k hk=>absurd hk (Nat.not_lt_zero _)) (fun k hk=>absurd hk (Nat.not_lt_zero _))
  ·intro W h;refine (zgK W N A c Aw lw cw At lt ct F hlw ((hw.below h).more h.size) hF K hK).mono ?_;rintro e w' ⟨s1,s2,rfl,hq⟩;obtain ⟨a1,c1,rfl⟩:=yL hq.o1;obtain ⟨a2,c2,rfl⟩:=yL hq.o2;exact ⟨_,rfl,⟨_,_,_,_,_,_,rfl⟩,hq.bl⟩
  ·rintro W v hWb ⟨Al,Ah,ll,lh,cl,ch,rfl⟩;refine (zhG W N A c cl ch ll lh Al Ah 1 (by decide) fun V hV=>?_).mono ?_
   ·have hB:=zw hWb hV hWb.size;have h0:=zf0 V N A c cl ch (List.replicate ll (0,0)) (List.replicate lh (0,0)) Al Ah hlen ((hN.below hB).more hB.size) (Or.inl hv);rwa [List.length_replicate,List.length_replicate] at h0
   ·rintro e w' ⟨rfl,hb'⟩;exact ⟨_,_,rfl,⟨_,_,rfl,Rd.zero _ _ _ _⟩,⟨_,_,rfl,Rd.zero _ _ _ _⟩,hb'⟩
  ·intro W h;refine (zgL W N A c Aw lw cw At lt ct F hlw ((hw.below h).more h.size) hF K hK).mono ?_;rintro e w' ⟨s1,s2,rfl,hq⟩;obtain ⟨a1,c1,rfl⟩:=yL hq.o1;obtain ⟨a2,c2,rfl⟩:=yL hq.o2;exact ⟨_,rfl,⟨_,_,_,_,_,_,rfl⟩,hq.bl⟩
  ·rintro W v hWb ⟨Al,Ah,ll,lh,cl,ch,rfl⟩;refine (zfE W N A c cl ch ll lh Al Ah 1 (by decide) fun V hV=>?_).mono ?_
   ·have hB:=zw hWb hV hWb.size;exact gB V N A c ll lh cl ch Al Ah hlen ((hN.below hB).more hB.size) (Or.inl hv)
   ·rintro e w' ⟨rfl,hb'⟩;exact ⟨_,_,rfl,⟨_,_,rfl,Rd.zero _ _ _ _⟩,⟨_,_,rfl,Rd.zero _ _ _ _⟩,hb'⟩
end Go.Proofs.YtmhllppjcilllaaGreatDoor
