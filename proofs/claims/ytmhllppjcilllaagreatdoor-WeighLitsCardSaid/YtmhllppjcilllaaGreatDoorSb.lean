import Derived.Test.YtmhllppjcilllaaGreatDoorBq
import Derived.Test.YtmhllppjcilllaaGreatDoorDl
import Derived.WalkMore
import Derived.Deep.CutBlock
import Derived.Deep.CutRange
import Derived.Test.YtmhllppjcilllaaGreatDoorZa
set_option linter.unusedSimpArgs false
set_option linter.unusedVariables false
section
set_option maxRecDepth 100000
set_option maxHeartbeats 4000000
open Go Go.RowKit Cs
namespace Go.Proofs.YtmhllppjcilllaaGreatDoor
theorem join_sub (w:World) (n d n' d' z:Nat) (hn:n8 n≤100000) (hd:n8 d≤100000) (hn':n8 n'≤100000) (hd':n8 d'≤100000) (hz:n8 z≤1000000)
  (hf:∀ W,Calls Tryz.prog 110 #[zN (n*qd d'),zN (n'*qd d)] W fun e w'=>e = .returned (.tuple #[zN z,.bool true])∧Below W.heap.size W w') :
  Calls Tryz.prog 69 #[zI n d,zI n' d',.func (.func 110) #[] #[]] w fun e w'=>e = .returned (.tuple #[zI (qn (qq z (qd d*qd d'))) (qq z (qd d*qd d')).den,.bool true])∧Below w.heap.size w w':=by
 have h1:=yP d hd;have h2:=yP d' hd';have hm1:=fun W=>jP W n (qd d') (by omega) (by omega);have hda:=fun W=>oV W n d (by omega);have hdb:=fun W=>oV W n' d' (by omega);have hm2:=fun W=>jP W n' (qd d) (by omega) (by omega);have hm3:=fun W=>jP W (qd d) (qd d') (by omega) (by omega);have b2:=yK (qd d) (qd d');have hnw:=fun W=>zd9 W z (qd d*qd d') hz (by omega) (Nat.mul_pos (yq _) (yq _));generalize qn (qq z (qd d*qd d'))=N at *
 generalize (qq z (qd d*qd d')).den=D at *
 generalize n*qd d'=M1 at *
 generalize n'*qd d=M2 at *
 generalize qd d*qd d'=M3 at *
 generalize qd d=Q at *
 generalize qd d'=Q' at *
 have HM1:=zb hm1;have HM2:=zb hm2;have HM3:=zb hm3;have HDA:=zb hda;have HDB:=zb hdb;have HNW:=zb hnw;have HF:=zb hf;clear hm1 hm2 hm3 hda hdb hnw hf b2 h1 h2 hn hd hn' hd' hz;have q0:=((((Bag.zero w).new #[.string (za n),.string (za d)] 33 w.heap.size 2 rfl rfl).new #[.string (za n'),.string (za d')] 33 (w.heap.size+1) 2 (by simp) rfl).new #[.string ⟨#[]⟩,.string ⟨#[]⟩] 33 (w.heap.size+1+1) 2 (by simp) rfl);go_enter Tryz.func69, Tryz.ntmps69;go_wp2_with fail
 obtain ⟨W,hW⟩:∃ W,((w.alloc (.cells #[.string (za n),.string (za d)] 33)).alloc (.cells #[.string (za n'),.string (za d')] 33)).alloc (.cells #[.string ⟨#[]⟩,.string ⟨#[]⟩] 33)=W:=⟨_,rfl⟩;rw [hW] at q0 ⊢;clear hW;go_cut [8,9] from 11 to 24 (fun p x wx=>∃ gx,p = .pointer (some ⟨gx,0,none⟩)∧x = .bool true∧Bag w w w.heap.size ((gx, 31,1,#[.string (za z)])::[(w.heap.size+1+1, 33,2,#[.string ⟨#[]⟩,.string ⟨#[]⟩]),(w.heap.size+1, 33,2,#[.string (za n'),.string (za d')]),(w.heap.size, 33,2,#[.string (za n),.string (za d)])]) wx)
 case first =>
  have q6:=q0.drew;have hz:=(q0.new #[.string ⟨#[]⟩] 31 _ 1 rfl rfl).row0.drew;have hX0:=q0.fresh;have m1:=q6.is (w.heap.size) 2 33 #[.string (za n),.string (za d)] (by simp) 0 (by decide) (.string (za n)) rfl;have m2:=q6.is (w.heap.size) 2 33 #[.string (za n),.string (za d)] (by simp) 1 (by decide) (.string (za d)) rfl;have m3:=q6.is (w.heap.size+1) 2 33 #[.string (za n'),.string (za d')] (by simp) 0 (by decide) (.string (za n')) rfl;have m4:=q6.is (w.heap.size+1) 2 33 #[.string (za n'),.string (za d')] (by simp) 1 (by decide) (.string (za d')) rfl;go_region_held3 (fun w'=>w'.cell? ⟨w.heap.size,0,none⟩=some (.string (za n))∧w'.cell? ⟨w.heap.size,1,none⟩=some (.string (za d))∧w'.cell? ⟨w.heap.size+1,0,none⟩=some (.string (za n'))∧w'.cell? ⟨w.heap.size+1,1,none⟩=some (.string (za d')))
   (first | exact ⟨m1,m2,m3,m4⟩ | exact ⟨(World.cell?_setCell_far _ _ _ _ N1.out).trans m1,(World.cell?_setCell_far _ _ _ _ N2.out).trans m2,(World.cell?_setCell_far _ _ _ _ N3.out).trans m3,(World.cell?_setCell_far _ _ _ _ N4.out).trans m4⟩ | exact ⟨(q0.alloc _).drew.is (w.heap.size) 2 33 #[.string (za n),.string (za d)] (by simp) 0 (by decide) (.string (za n)) rfl,(q0.alloc _).drew.is (w.heap.size) 2 33 #[.string (za n),.string (za d)] (by simp) 1 (by decide) (.string (za d)) rfl,(q0.alloc _).drew.is (w.heap.size+1) 2 33 #[.string (za n'),.string (za d')] (by simp) 0 (by decide) (.string (za n')) rfl,(q0.alloc _).drew.is (w.heap.size+1) 2 33 #[.string (za n'),.string (za d')] (by simp) 1 (by decide) (.string (za d')) rfl⟩ | exact ⟨(q6.alloc _).is (w.heap.size) 2 33 #[.string (za n),.string (za d)] (by simp) 0 (by decide) (.string (za n)) rfl,(q6.alloc _).is (w.heap.size) 2 33 #[.string (za n),.string (za d)] (by simp) 1 (by decide) (.string (za d)) rfl,(q6.alloc _).is (w.heap.size+1) 2 33 #[.string (za n'),.string (za d')] (by simp) 0 (by decide) (.string (za n')) rfl,(q6.alloc _).is (w.heap.size+1) 2 33 #[.string (za n'),.string (za d')] (by simp) 1 (by decide) (.string (za d')) rfl⟩ | go_keep)
   (first
     | (go_simp
        go_at_call 33;(with_reducible first | refine (HM1.out _).mono ?_ | refine (HM2.out _).mono ?_);rintro e w9 ⟨rfl,hb9⟩;first
         | (replace q6:=q6.below hb9
            try replace hz6:=zo hz6 hb9)
         | (have hz6:=zo hz hb9
            have hX6:=hX0;have N1:=zb (Ne.symm (hX6.2 (w.heap.size, 33,2,#[.string (za n),.string (za d)]) (by simp)));have N2:=zb (Ne.symm (hX6.2 (w.heap.size, 33,2,#[.string (za n),.string (za d)]) (by simp)));have N3:=zb (Ne.symm (hX6.2 (w.heap.size+1, 33,2,#[.string (za n'),.string (za d')]) (by simp)));have N4:=zb (Ne.symm (hX6.2 (w.heap.size+1, 33,2,#[.string (za n'),.string (za d')]) (by simp)));replace q6:=(q0.alloc _).drew.below hb9)
         | (have hX6:=q6.fresh
            have N1:=zb (Ne.symm (hX6.2 (w.heap.size, 33,2,#[.string (za n),.string (za d)]) (by simp)));have N2:=zb (Ne.symm (hX6.2 (w.heap.size, 33,2,#[.string (za n),.string (za d)]) (by simp)));have N3:=zb (Ne.symm (hX6.2 (w.heap.size+1, 33,2,#[.string (za n'),.string (za d')]) (by simp)));have N4:=zb (Ne.symm (hX6.2 (w.heap.size+1, 33,2,#[.string (za n'),.string (za d')]) (by simp)));have hz6:=zo (zF _ #[.string ⟨#[]⟩] 31 _ 1 rfl rfl) hb9;replace q6:=(q6.alloc _).below hb9)
        have m1:=q6.is (w.heap.size) 2 33 #[.string (za n),.string (za d)] (by simp) 0 (by decide) (.string (za n)) rfl;have m2:=q6.is (w.heap.size) 2 33 #[.string (za n),.string (za d)] (by simp) 1 (by decide) (.string (za d)) rfl;have m3:=q6.is (w.heap.size+1) 2 33 #[.string (za n'),.string (za d')] (by simp) 0 (by decide) (.string (za n')) rfl;have m4:=q6.is (w.heap.size+1) 2 33 #[.string (za n'),.string (za d')] (by simp) 1 (by decide) (.string (za d')) rfl;try have y0:=hz6.frozen 0
        try have z0:=hz6.cell (i:=0) (by omega))
     | (go_simp
        go_at_call 73;(with_reducible first | refine (HDA.out _).mono ?_ | refine (HDB.out _).mono ?_);rintro e w9 ⟨rfl,hb9⟩;first
         | (replace q6:=q6.below hb9
            try replace hz6:=zo hz6 hb9)
         | (have hz6:=zo hz hb9
            have hX6:=hX0;have N1:=zb (Ne.symm (hX6.2 (w.heap.size, 33,2,#[.string (za n),.string (za d)]) (by simp)));have N2:=zb (Ne.symm (hX6.2 (w.heap.size, 33,2,#[.string (za n),.string (za d)]) (by simp)));have N3:=zb (Ne.symm (hX6.2 (w.heap.size+1, 33,2,#[.string (za n'),.string (za d')]) (by simp)));have N4:=zb (Ne.symm (hX6.2 (w.heap.size+1, 33,2,#[.string (za n'),.string (za d')]) (by simp)));replace q6:=(q0.alloc _).drew.below hb9)
         | (have hX6:=q6.fresh
            have N1:=zb (Ne.symm (hX6.2 (w.heap.size, 33,2,#[.string (za n),.string (za d)]) (by simp)));have N2:=zb (Ne.symm (hX6.2 (w.heap.size, 33,2,#[.string (za n),.string (za d)]) (by simp)));have N3:=zb (Ne.symm (hX6.2 (w.heap.size+1, 33,2,#[.string (za n'),.string (za d')]) (by simp)));have N4:=zb (Ne.symm (hX6.2 (w.heap.size+1, 33,2,#[.string (za n'),.string (za d')]) (by simp)));have hz6:=zo (zF _ #[.string ⟨#[]⟩] 31 _ 1 rfl rfl) hb9;replace q6:=(q6.alloc _).below hb9)
        have m1:=q6.is (w.heap.size) 2 33 #[.string (za n),.string (za d)] (by simp) 0 (by decide) (.string (za n)) rfl;have m2:=q6.is (w.heap.size) 2 33 #[.string (za n),.string (za d)] (by simp) 1 (by decide) (.string (za d)) rfl;have m3:=q6.is (w.heap.size+1) 2 33 #[.string (za n'),.string (za d')] (by simp) 0 (by decide) (.string (za n')) rfl;have m4:=q6.is (w.heap.size+1) 2 33 #[.string (za n'),.string (za d')] (by simp) 1 (by decide) (.string (za d')) rfl;try have y0:=hz6.frozen 0
        try have z0:=hz6.cell (i:=0) (by omega))
     | (go_simp
        go_at_call 110;(with_reducible first | refine (HF.out _).mono ?_);rintro e w9 ⟨rfl,hb9⟩;first
         | (replace q6:=q6.below hb9
            try replace hz6:=zo hz6 hb9)
         | (have hz6:=zo hz hb9
            have hX6:=hX0;have N1:=zb (Ne.symm (hX6.2 (w.heap.size, 33,2,#[.string (za n),.string (za d)]) (by simp)));have N2:=zb (Ne.symm (hX6.2 (w.heap.size, 33,2,#[.string (za n),.string (za d)]) (by simp)));have N3:=zb (Ne.symm (hX6.2 (w.heap.size+1, 33,2,#[.string (za n'),.string (za d')]) (by simp)));have N4:=zb (Ne.symm (hX6.2 (w.heap.size+1, 33,2,#[.string (za n'),.string (za d')]) (by simp)));replace q6:=(q0.alloc _).drew.below hb9)
         | (have hX6:=q6.fresh
            have N1:=zb (Ne.symm (hX6.2 (w.heap.size, 33,2,#[.string (za n),.string (za d)]) (by simp)));have N2:=zb (Ne.symm (hX6.2 (w.heap.size, 33,2,#[.string (za n),.string (za d)]) (by simp)));have N3:=zb (Ne.symm (hX6.2 (w.heap.size+1, 33,2,#[.string (za n'),.string (za d')]) (by simp)));have N4:=zb (Ne.symm (hX6.2 (w.heap.size+1, 33,2,#[.string (za n'),.string (za d')]) (by simp)));have hz6:=zo (zF _ #[.string ⟨#[]⟩] 31 _ 1 rfl rfl) hb9;replace q6:=(q6.alloc _).below hb9)
        have m1:=q6.is (w.heap.size) 2 33 #[.string (za n),.string (za d)] (by simp) 0 (by decide) (.string (za n)) rfl;have m2:=q6.is (w.heap.size) 2 33 #[.string (za n),.string (za d)] (by simp) 1 (by decide) (.string (za d)) rfl;have m3:=q6.is (w.heap.size+1) 2 33 #[.string (za n'),.string (za d')] (by simp) 0 (by decide) (.string (za n')) rfl;have m4:=q6.is (w.heap.size+1) 2 33 #[.string (za n'),.string (za d')] (by simp) 1 (by decide) (.string (za d')) rfl;try have y0:=hz6.frozen 0
        try have z0:=hz6.cell (i:=0) (by omega)))
  all_goals
   try go_wp2
   go_meet
   case rel =>
    first
     | exact ⟨_,rfl,rfl,q6.new _ _ _ _ rfl rfl⟩
     | exact ⟨_,rfl,rfl,(q6.other hX6.1 hX6.2 _ _).cons (oneRow hz6 _)⟩
 case rest =>
  obtain ⟨gx,rfl,rfl,q3⟩:=hcut;clear q0 HM1 HM2 HF;have hgx:Hid (w.heap.size+1+1≠gx):=zb (rowNe (q3.rows (w.heap.size+1+1, 33,2,#[.string ⟨#[]⟩,.string ⟨#[]⟩]) (by simp)) q3.row0 (by show 2≠1;decide));go_wp2_with fail
  have q6:=q3.drew;have m1:=q6.is (w.heap.size) 2 33 #[.string (za n),.string (za d)] (by simp) 0 (by decide) (.string (za n)) rfl;have m2:=q6.is (w.heap.size) 2 33 #[.string (za n),.string (za d)] (by simp) 1 (by decide) (.string (za d)) rfl;have m3:=q6.is (w.heap.size+1) 2 33 #[.string (za n'),.string (za d')] (by simp) 0 (by decide) (.string (za n')) rfl;have m4:=q6.is (w.heap.size+1) 2 33 #[.string (za n'),.string (za d')] (by simp) 1 (by decide) (.string (za d')) rfl;have m5:=q6.is (gx) 1 31 #[.string (za z)] (by simp) 0 (by decide) (.string (za z)) rfl;have N1:Hid (w.heap.size+1+1≠w.heap.size):=zb (by omega);have N2:Hid (w.heap.size+1+1≠w.heap.size):=zb (by omega);have N3:Hid (w.heap.size+1+1≠w.heap.size+1):=zb (by omega);have N4:Hid (w.heap.size+1+1≠w.heap.size+1):=zb (by omega);have N5:Hid (w.heap.size+1+1≠gx):=hgx;go_region_held3 (fun w'=>w'.cell? ⟨w.heap.size,0,none⟩=some (.string (za n))∧w'.cell? ⟨w.heap.size,1,none⟩=some (.string (za d))∧w'.cell? ⟨w.heap.size+1,0,none⟩=some (.string (za n'))∧w'.cell? ⟨w.heap.size+1,1,none⟩=some (.string (za d'))∧w'.cell? ⟨gx,0,none⟩=some (.string (za z)))
   (first | exact ⟨m1,m2,m3,m4,m5⟩ | exact ⟨qO N1.out m1,qO N2.out m2,qO N3.out m3,qO N4.out m4,qO N5.out m5⟩ | go_keep)
   (first
     | (go_simp
        go_at_call 33;(with_reducible first | refine (HM3.out _).mono ?_);rintro e w9 ⟨rfl,hb9⟩;replace q6:=q6.below hb9;have m1:=q6.is (w.heap.size) 2 33 #[.string (za n),.string (za d)] (by simp) 0 (by decide) (.string (za n)) rfl;have m2:=q6.is (w.heap.size) 2 33 #[.string (za n),.string (za d)] (by simp) 1 (by decide) (.string (za d)) rfl;have m3:=q6.is (w.heap.size+1) 2 33 #[.string (za n'),.string (za d')] (by simp) 0 (by decide) (.string (za n')) rfl;have m4:=q6.is (w.heap.size+1) 2 33 #[.string (za n'),.string (za d')] (by simp) 1 (by decide) (.string (za d')) rfl;have m5:=q6.is (gx) 1 31 #[.string (za z)] (by simp) 0 (by decide) (.string (za z)) rfl;have hr:=q6.rows (w.heap.size+1+1, 33,2,#[.string ⟨#[]⟩,.string ⟨#[]⟩]) (by simp);have y1:=hr.frozen 0;have y2:=hr.frozen 1;have z1:=q6.is (w.heap.size+1+1) 2 33 #[.string ⟨#[]⟩,.string ⟨#[]⟩] (by simp) 0 (by decide) (Value.string ⟨#[]⟩) rfl;have z2:=q6.is (w.heap.size+1+1) 2 33 #[.string ⟨#[]⟩,.string ⟨#[]⟩] (by simp) 1 (by decide) (Value.string ⟨#[]⟩) rfl;clear hr)
     | (go_simp
        go_at_call 73;(with_reducible first | refine (HDA.out _).mono ?_ | refine (HDB.out _).mono ?_);rintro e w9 ⟨rfl,hb9⟩;replace q6:=q6.below hb9;have m1:=q6.is (w.heap.size) 2 33 #[.string (za n),.string (za d)] (by simp) 0 (by decide) (.string (za n)) rfl;have m2:=q6.is (w.heap.size) 2 33 #[.string (za n),.string (za d)] (by simp) 1 (by decide) (.string (za d)) rfl;have m3:=q6.is (w.heap.size+1) 2 33 #[.string (za n'),.string (za d')] (by simp) 0 (by decide) (.string (za n')) rfl;have m4:=q6.is (w.heap.size+1) 2 33 #[.string (za n'),.string (za d')] (by simp) 1 (by decide) (.string (za d')) rfl;have m5:=q6.is (gx) 1 31 #[.string (za z)] (by simp) 0 (by decide) (.string (za z)) rfl;have hr:=q6.rows (w.heap.size+1+1, 33,2,#[.string ⟨#[]⟩,.string ⟨#[]⟩]) (by simp);have y1:=hr.frozen 0;have y2:=hr.frozen 1;have z1:=q6.is (w.heap.size+1+1) 2 33 #[.string ⟨#[]⟩,.string ⟨#[]⟩] (by simp) 0 (by decide) (Value.string ⟨#[]⟩) rfl;have z2:=q6.is (w.heap.size+1+1) 2 33 #[.string ⟨#[]⟩,.string ⟨#[]⟩] (by simp) 1 (by decide) (Value.string ⟨#[]⟩) rfl;clear hr)
     | (go_simp
        go_at_call 32;(with_reducible first | refine (HNW.out _).mono ?_);rintro e w9 ⟨rfl,hb9⟩;replace q6:=q6.below hb9;have m1:=q6.is (w.heap.size) 2 33 #[.string (za n),.string (za d)] (by simp) 0 (by decide) (.string (za n)) rfl;have m2:=q6.is (w.heap.size) 2 33 #[.string (za n),.string (za d)] (by simp) 1 (by decide) (.string (za d)) rfl;have m3:=q6.is (w.heap.size+1) 2 33 #[.string (za n'),.string (za d')] (by simp) 0 (by decide) (.string (za n')) rfl;have m4:=q6.is (w.heap.size+1) 2 33 #[.string (za n'),.string (za d')] (by simp) 1 (by decide) (.string (za d')) rfl;have m5:=q6.is (gx) 1 31 #[.string (za z)] (by simp) 0 (by decide) (.string (za z)) rfl;have hr:=q6.rows (w.heap.size+1+1, 33,2,#[.string ⟨#[]⟩,.string ⟨#[]⟩]) (by simp);have y1:=hr.frozen 0;have y2:=hr.frozen 1;have z1:=q6.is (w.heap.size+1+1) 2 33 #[.string ⟨#[]⟩,.string ⟨#[]⟩] (by simp) 0 (by decide) (Value.string ⟨#[]⟩) rfl;have z2:=q6.is (w.heap.size+1+1) 2 33 #[.string ⟨#[]⟩,.string ⟨#[]⟩] (by simp) 1 (by decide) (Value.string ⟨#[]⟩) rfl;clear hr))
  all_goals
   try go_wp2
   have hr:World.rowIs _ (w.heap.size+1+1) 33 2 (zy #[.string ⟨#[]⟩,.string ⟨#[]⟩]):=q6.rows (w.heap.size+1+1, 33,2,#[.string ⟨#[]⟩,.string ⟨#[]⟩]) (by simp);have y1:=hr.frozen 0;have y2:=hr.frozen 1;have z1:_=some (Value.string ⟨#[]⟩):=hr.cell (i:=0) (by omega);have z2:_=some (Value.string ⟨#[]⟩):=hr.cell (i:=1) (by omega);have hs:=(qx hr (.string (za N)) (.string (za D))).congr (zbK N D);have hb:=(q6.bl.setCell (p:=⟨w.heap.size+1+1,0,none⟩) (by simp;omega) (.string (za N))).setCell (p:=⟨w.heap.size+1+1,1,none⟩) (by simp;omega) (.string (za D));exact ju rfl N D rfl rfl hs rfl ⟨rfl,hb⟩
end Go.Proofs.YtmhllppjcilllaaGreatDoor
end
section
set_option maxRecDepth 100000
set_option maxHeartbeats 1000000
open Go Go.RowKit Cs
namespace Go.Proofs.YtmhllppjcilllaaGreatDoor
theorem qsub_any (w:World) (n d n' d':Nat) (hn:n8 n≤100000) (hd:n8 d≤100000) (hn':n8 n'≤100000) (hd':n8 d'≤100000) (hle:qq n' d'≤qq n d) :
  Calls Tryz.prog 60 #[zI n d,zI n' d'] w fun e w'=>e = .returned (.tuple #[zI (qn (qq n d-qq n' d')) (qq n d-qq n' d').den,.bool true])∧Below w.heap.size w w':=by
 have b1:=yK n (qd d');have b2:=yK n' (qd d);have h1:=yP d hd;have h2:=yP d' hd';have hle2:n'*qd d≤n*qd d':=Nat.le_of_not_lt fun h=>absurd ((xO n d n' d').2 h) (Rat.not_lt.2 hle);have hj:=fun W=>join_sub W n d n' d' (n*qd d' - n'*qd d) hn hd hn' hd' (Nat.le_trans (zdu (Nat.sub_le _ _)) (by omega)) (fun W=>sub_ge W _ _ (by omega) (by omega) hle2);simp only [jB n d n' d' hle2] at hj;generalize qn (qq n d-qq n' d')=N at *
 generalize (qq n d-qq n' d').den=D at *
 have HJ:=zb hj;clear hj b1 b2 h1 h2 hn hd hn' hd' hle hle2;have q0:=((((Bag.zero w).new #[.string (za n),.string (za d)] 33 w.heap.size 2 rfl rfl).new #[.string (za n'),.string (za d')] 33 (w.heap.size+1) 2 (by simp) rfl).new #[.string ⟨#[]⟩,.string ⟨#[]⟩] 33 (w.heap.size+1+1) 2 (by simp) rfl);go_enter Tryz.func60, Tryz.ntmps60;go_wp2_with (
  go_at_call 69;(with_reducible refine (HJ.out _).mono ?_);rintro e w1 ⟨rfl,hb1⟩;have q1:=q0.below hb1;have hr:=q1.rows (w.heap.size+1+1, 33,2,#[.string ⟨#[]⟩,.string ⟨#[]⟩]) (by simp);have y1:=hr.frozen 0;have y2:=hr.frozen 1;have z1:=q1.is (w.heap.size+1+1) 2 33 #[.string ⟨#[]⟩,.string ⟨#[]⟩] (by simp) 0 (by decide) (Value.string ⟨#[]⟩) rfl;have z2:=q1.is (w.heap.size+1+1) 2 33 #[.string ⟨#[]⟩,.string ⟨#[]⟩] (by simp) 1 (by decide) (Value.string ⟨#[]⟩) rfl)
 have hs:=(qx hr (.string (za N)) (.string (za D))).congr (zbK N D);have hb:=(q1.bl.setCell (p:=⟨w.heap.size+1+1,0,none⟩) (by simp;omega) (.string (za N))).setCell (p:=⟨w.heap.size+1+1,1,none⟩) (by simp;omega) (.string (za D));exact ju rfl N D rfl rfl hs rfl ⟨rfl,hb⟩
end Go.Proofs.YtmhllppjcilllaaGreatDoor
end
