import Derived.Test.YtmhllppjcilllaaGreatDoorBq
import Derived.WalkMore
import Derived.Deep.CutBlock
import Derived.Deep.CutRange
set_option linter.unusedSimpArgs false
set_option linter.unusedVariables false
set_option maxRecDepth 100000
set_option maxHeartbeats 4000000
section
open Go Go.RowKit Cs
namespace Go.Proofs.YtmhllppjcilllaaGreatDoor
theorem yP (d:Nat) (h:n8 d≤100000):n8 (qd d)≤100000:=by
 unfold qd;split
 ·have:n8 1≤1:=(pY _ _).2 (by decide);omega
 ·exact h
theorem zbK (n d:Nat):∀ i,i<2→zy #[.string (za n),.string (za d)] i=qI n d i:=fun i hi=>by
 have:i=0∨i=1:=by omega
 rcases this with rfl | rfl <;> rfl
theorem zje (w:World) (n d n' d':Nat) (hn:n8 n≤100000) (hd:n8 d≤100000) (hn':n8 n'≤100000) (hd':n8 d'≤100000) :
  Calls Tryz.prog 30 #[zI n d,zI n' d'] w fun e w'=>e = .returned (zI (qn (qq n d*qq n' d')) (qq n d*qq n' d').den)∧Below w.heap.size w w':=by
 have hm1:=fun W=>jP W n n' (by omega) (by omega);have h1:=yP d hd;have h2:=yP d' hd';have hda:=fun W=>oV W n d (by omega);have hdb:=fun W=>oV W n' d' (by omega);have hm2:=fun W=>jP W (qd d) (qd d') (by omega) (by omega);have b1:=yK n n';have b2:=yK (qd d) (qd d');have hnw:=fun W=>zd9 W (n*n') (qd d*qd d') (by omega) (by omega) (Nat.mul_pos (yq _) (yq _));simp only [zhn] at hnw;generalize qn (qq n d*qq n' d')=N at *
 generalize (qq n d*qq n' d').den=D at *
 generalize n*n'=M1 at *
 generalize qd d*qd d'=M2 at *
 generalize qd d=Q at *
 generalize qd d'=Q' at *
 have HM1:=zb hm1;have HM2:=zb hm2;have HDA:=zb hda;have HDB:=zb hdb;have HNW:=zb hnw;clear hm1 hm2 hda hdb hnw b1 b2 h1 h2 hn hd hn' hd';have q0:=((((Bag.zero w).new #[.string (za n),.string (za d)] 33 w.heap.size 2 rfl rfl).new #[.string (za n'),.string (za d')] 33 (w.heap.size+1) 2 (by simp) rfl).new #[.string ⟨#[]⟩,.string ⟨#[]⟩] 33 (w.heap.size+1+1) 2 (by simp) rfl);go_enter Tryz.func30, Tryz.ntmps30;go_wp2_with fail
 obtain ⟨W,hW⟩:∃ W,((w.alloc (.cells #[.string (za n),.string (za d)] 33)).alloc (.cells #[.string (za n'),.string (za d')] 33)).alloc (.cells #[.string ⟨#[]⟩,.string ⟨#[]⟩] 33)=W:=⟨_,rfl⟩;rw [hW] at q0 ⊢;clear hW;go_cut [5,6] from 8 to 20 (fun p x wx=>∃ gx,p = .pointer (some ⟨gx,0,none⟩)∧x = .bool true∧Bag w w w.heap.size ((gx, 33,2,#[.string (za N),.string (za D)])::[(w.heap.size+1+1, 33,2,#[.string ⟨#[]⟩,.string ⟨#[]⟩]),(w.heap.size+1, 33,2,#[.string (za n'),.string (za d')]),(w.heap.size, 33,2,#[.string (za n),.string (za d)])]) wx)
 case first =>
  have q6:=q0.drew;have hz:=(q0.new #[.string ⟨#[]⟩,.string ⟨#[]⟩] 33 _ 2 rfl rfl).row0.drew;have hX0:=q0.fresh;have m1:=q6.is (w.heap.size) 2 33 #[.string (za n),.string (za d)] (by simp) 0 (by decide) (.string (za n)) rfl;have m2:=q6.is (w.heap.size) 2 33 #[.string (za n),.string (za d)] (by simp) 1 (by decide) (.string (za d)) rfl;have m3:=q6.is (w.heap.size+1) 2 33 #[.string (za n'),.string (za d')] (by simp) 0 (by decide) (.string (za n')) rfl;have m4:=q6.is (w.heap.size+1) 2 33 #[.string (za n'),.string (za d')] (by simp) 1 (by decide) (.string (za d')) rfl;go_region_held3 (fun w'=>w'.cell? ⟨w.heap.size,0,none⟩=some (.string (za n))∧w'.cell? ⟨w.heap.size,1,none⟩=some (.string (za d))∧w'.cell? ⟨w.heap.size+1,0,none⟩=some (.string (za n'))∧w'.cell? ⟨w.heap.size+1,1,none⟩=some (.string (za d')))
   (first | exact ⟨m1,m2,m3,m4⟩ | exact ⟨qO N1.out m1,qO N2.out m2,qO N3.out m3,qO N4.out m4⟩ | exact ⟨(q0.alloc _).drew.is (w.heap.size) 2 33 #[.string (za n),.string (za d)] (by simp) 0 (by decide) (.string (za n)) rfl,(q0.alloc _).drew.is (w.heap.size) 2 33 #[.string (za n),.string (za d)] (by simp) 1 (by decide) (.string (za d)) rfl,(q0.alloc _).drew.is (w.heap.size+1) 2 33 #[.string (za n'),.string (za d')] (by simp) 0 (by decide) (.string (za n')) rfl,(q0.alloc _).drew.is (w.heap.size+1) 2 33 #[.string (za n'),.string (za d')] (by simp) 1 (by decide) (.string (za d')) rfl⟩ | exact ⟨(q6.alloc _).is (w.heap.size) 2 33 #[.string (za n),.string (za d)] (by simp) 0 (by decide) (.string (za n)) rfl,(q6.alloc _).is (w.heap.size) 2 33 #[.string (za n),.string (za d)] (by simp) 1 (by decide) (.string (za d)) rfl,(q6.alloc _).is (w.heap.size+1) 2 33 #[.string (za n'),.string (za d')] (by simp) 0 (by decide) (.string (za n')) rfl,(q6.alloc _).is (w.heap.size+1) 2 33 #[.string (za n'),.string (za d')] (by simp) 1 (by decide) (.string (za d')) rfl⟩ | go_keep)
   (first
     | (go_simp
        go_at_call 33;(with_reducible first | refine (HM1.out _).mono ?_ | refine (HM2.out _).mono ?_);rintro e w9 ⟨rfl,hb9⟩;first
         | (replace q6:=q6.below hb9
            try replace hz6:=zo hz6 hb9)
         | (have hz6:=zo hz hb9
            have hX6:=hX0;have N1:=zb (Ne.symm (hX6.2 (w.heap.size, 33,2,#[.string (za n),.string (za d)]) (by simp)));have N2:=zb (Ne.symm (hX6.2 (w.heap.size, 33,2,#[.string (za n),.string (za d)]) (by simp)));have N3:=zb (Ne.symm (hX6.2 (w.heap.size+1, 33,2,#[.string (za n'),.string (za d')]) (by simp)));have N4:=zb (Ne.symm (hX6.2 (w.heap.size+1, 33,2,#[.string (za n'),.string (za d')]) (by simp)));replace q6:=(q0.alloc _).drew.below hb9)
         | (have hX6:=q6.fresh
            have N1:=zb (Ne.symm (hX6.2 (w.heap.size, 33,2,#[.string (za n),.string (za d)]) (by simp)));have N2:=zb (Ne.symm (hX6.2 (w.heap.size, 33,2,#[.string (za n),.string (za d)]) (by simp)));have N3:=zb (Ne.symm (hX6.2 (w.heap.size+1, 33,2,#[.string (za n'),.string (za d')]) (by simp)));have N4:=zb (Ne.symm (hX6.2 (w.heap.size+1, 33,2,#[.string (za n'),.string (za d')]) (by simp)));have hz6:=zo (zF _ #[.string ⟨#[]⟩,.string ⟨#[]⟩] 33 _ 2 rfl rfl) hb9;replace q6:=(q6.alloc _).below hb9)
        have m1:=q6.is (w.heap.size) 2 33 #[.string (za n),.string (za d)] (by simp) 0 (by decide) (.string (za n)) rfl;have m2:=q6.is (w.heap.size) 2 33 #[.string (za n),.string (za d)] (by simp) 1 (by decide) (.string (za d)) rfl;have m3:=q6.is (w.heap.size+1) 2 33 #[.string (za n'),.string (za d')] (by simp) 0 (by decide) (.string (za n')) rfl;have m4:=q6.is (w.heap.size+1) 2 33 #[.string (za n'),.string (za d')] (by simp) 1 (by decide) (.string (za d')) rfl;try have y0:=hz6.frozen 0
        try have z0:=hz6.cell (i:=0) (by omega)
        try have y1:=hz6.frozen 1
        try have z1:=hz6.cell (i:=1) (by omega))
     | (go_simp
        go_at_call 73;(with_reducible first | refine (HDA.out _).mono ?_ | refine (HDB.out _).mono ?_);rintro e w9 ⟨rfl,hb9⟩;first
         | (replace q6:=q6.below hb9
            try replace hz6:=zo hz6 hb9)
         | (have hz6:=zo hz hb9
            have hX6:=hX0;have N1:=zb (Ne.symm (hX6.2 (w.heap.size, 33,2,#[.string (za n),.string (za d)]) (by simp)));have N2:=zb (Ne.symm (hX6.2 (w.heap.size, 33,2,#[.string (za n),.string (za d)]) (by simp)));have N3:=zb (Ne.symm (hX6.2 (w.heap.size+1, 33,2,#[.string (za n'),.string (za d')]) (by simp)));have N4:=zb (Ne.symm (hX6.2 (w.heap.size+1, 33,2,#[.string (za n'),.string (za d')]) (by simp)));replace q6:=(q0.alloc _).drew.below hb9)
         | (have hX6:=q6.fresh
            have N1:=zb (Ne.symm (hX6.2 (w.heap.size, 33,2,#[.string (za n),.string (za d)]) (by simp)));have N2:=zb (Ne.symm (hX6.2 (w.heap.size, 33,2,#[.string (za n),.string (za d)]) (by simp)));have N3:=zb (Ne.symm (hX6.2 (w.heap.size+1, 33,2,#[.string (za n'),.string (za d')]) (by simp)));have N4:=zb (Ne.symm (hX6.2 (w.heap.size+1, 33,2,#[.string (za n'),.string (za d')]) (by simp)));have hz6:=zo (zF _ #[.string ⟨#[]⟩,.string ⟨#[]⟩] 33 _ 2 rfl rfl) hb9;replace q6:=(q6.alloc _).below hb9)
        have m1:=q6.is (w.heap.size) 2 33 #[.string (za n),.string (za d)] (by simp) 0 (by decide) (.string (za n)) rfl;have m2:=q6.is (w.heap.size) 2 33 #[.string (za n),.string (za d)] (by simp) 1 (by decide) (.string (za d)) rfl;have m3:=q6.is (w.heap.size+1) 2 33 #[.string (za n'),.string (za d')] (by simp) 0 (by decide) (.string (za n')) rfl;have m4:=q6.is (w.heap.size+1) 2 33 #[.string (za n'),.string (za d')] (by simp) 1 (by decide) (.string (za d')) rfl;try have y0:=hz6.frozen 0
        try have z0:=hz6.cell (i:=0) (by omega)
        try have y1:=hz6.frozen 1
        try have z1:=hz6.cell (i:=1) (by omega))
     | (go_simp
        go_at_call 32;(with_reducible first | refine (HNW.out _).mono ?_);rintro e w9 ⟨rfl,hb9⟩;first
         | (replace q6:=q6.below hb9
            try replace hz6:=zo hz6 hb9)
         | (have hz6:=zo hz hb9
            have hX6:=hX0;have N1:=zb (Ne.symm (hX6.2 (w.heap.size, 33,2,#[.string (za n),.string (za d)]) (by simp)));have N2:=zb (Ne.symm (hX6.2 (w.heap.size, 33,2,#[.string (za n),.string (za d)]) (by simp)));have N3:=zb (Ne.symm (hX6.2 (w.heap.size+1, 33,2,#[.string (za n'),.string (za d')]) (by simp)));have N4:=zb (Ne.symm (hX6.2 (w.heap.size+1, 33,2,#[.string (za n'),.string (za d')]) (by simp)));replace q6:=(q0.alloc _).drew.below hb9)
         | (have hX6:=q6.fresh
            have N1:=zb (Ne.symm (hX6.2 (w.heap.size, 33,2,#[.string (za n),.string (za d)]) (by simp)));have N2:=zb (Ne.symm (hX6.2 (w.heap.size, 33,2,#[.string (za n),.string (za d)]) (by simp)));have N3:=zb (Ne.symm (hX6.2 (w.heap.size+1, 33,2,#[.string (za n'),.string (za d')]) (by simp)));have N4:=zb (Ne.symm (hX6.2 (w.heap.size+1, 33,2,#[.string (za n'),.string (za d')]) (by simp)));have hz6:=zo (zF _ #[.string ⟨#[]⟩,.string ⟨#[]⟩] 33 _ 2 rfl rfl) hb9;replace q6:=(q6.alloc _).below hb9)
        have m1:=q6.is (w.heap.size) 2 33 #[.string (za n),.string (za d)] (by simp) 0 (by decide) (.string (za n)) rfl;have m2:=q6.is (w.heap.size) 2 33 #[.string (za n),.string (za d)] (by simp) 1 (by decide) (.string (za d)) rfl;have m3:=q6.is (w.heap.size+1) 2 33 #[.string (za n'),.string (za d')] (by simp) 0 (by decide) (.string (za n')) rfl;have m4:=q6.is (w.heap.size+1) 2 33 #[.string (za n'),.string (za d')] (by simp) 1 (by decide) (.string (za d')) rfl;try have y0:=hz6.frozen 0
        try have z0:=hz6.cell (i:=0) (by omega)
        try have y1:=hz6.frozen 1
        try have z1:=hz6.cell (i:=1) (by omega)))
  all_goals
   try go_wp2
   go_meet
   case rel =>
    first
     | exact ⟨_,rfl,rfl,q6.new _ _ _ _ rfl rfl⟩
     | exact ⟨_,rfl,rfl,((q6.other hX6.1 hX6.2 _ _).other hX6.1 hX6.2 _ _).cons (qx hz6 _ _)⟩
 case rest =>
  obtain ⟨gx,rfl,rfl,q3⟩:=hcut;clear q0 HM1 HM2 HDA HDB HNW;have x1:=q3.is0 0 (by decide) (.string (za N)) rfl;have x2:=q3.is0 1 (by decide) (.string (za D)) rfl;have hr:wc.rowIs (w.heap.size+1+1) 33 2 (zy #[.string ⟨#[]⟩,.string ⟨#[]⟩]):=q3.rows (w.heap.size+1+1, 33,2,#[.string ⟨#[]⟩,.string ⟨#[]⟩]) (by simp);have y1:=hr.frozen 0;have y2:=hr.frozen 1;have z1:_=some (Value.string ⟨#[]⟩):=hr.cell (i:=0) (by omega);have z2:_=some (Value.string ⟨#[]⟩):=hr.cell (i:=1) (by omega);have hs:=(qx hr (.string (za N)) (.string (za D))).congr (zbK N D);have hb:=(q3.bl.setCell (p:=⟨w.heap.size+1+1,0,none⟩) (by simp;omega) (.string (za N))).setCell (p:=⟨w.heap.size+1+1,1,none⟩) (by simp;omega) (.string (za D));go_wp2_with fail
  exact zcF rfl N D rfl hs rfl ⟨rfl,hb⟩
end Go.Proofs.YtmhllppjcilllaaGreatDoor
end
section
open Go Go.RowKit Cs
namespace Go.Proofs.YtmhllppjcilllaaGreatDoor
theorem join_add (w:World) (n d n' d' z:Nat) (hn:n8 n≤100000) (hd:n8 d≤100000) (hn':n8 n'≤100000) (hd':n8 d'≤100000) (hz:n8 z≤1000000)
  (hf:∀ W,Calls Tryz.prog 70 #[zN (n*qd d'),zN (n'*qd d)] W fun e w'=>e = .returned (.tuple #[zN z,.bool true])∧Below W.heap.size W w') :
  Calls Tryz.prog 69 #[zI n d,zI n' d',.func (.func 70) #[] #[]] w fun e w'=>e = .returned (.tuple #[zI (qn (qq z (qd d*qd d'))) (qq z (qd d*qd d')).den,.bool true])∧Below w.heap.size w w':=by
 have h1:=yP d hd;have h2:=yP d' hd';have hm1:=fun W=>jP W n (qd d') (by omega) (by omega);have hda:=fun W=>oV W n d (by omega);have hdb:=fun W=>oV W n' d' (by omega);have hm2:=fun W=>jP W n' (qd d) (by omega) (by omega);have hm3:=fun W=>jP W (qd d) (qd d') (by omega) (by omega);have b2:=yK (qd d) (qd d');have hnw:=fun W=>zd9 W z (qd d*qd d') hz (by omega) (Nat.mul_pos (yq _) (yq _));generalize qn (qq z (qd d*qd d'))=N at *
 generalize (qq z (qd d*qd d')).den=D at *
 generalize n*qd d'=M1 at *
 generalize n'*qd d=M2 at *
 generalize qd d*qd d'=M3 at *
 generalize qd d=Q at *
 generalize qd d'=Q' at *
 have HM1:=zb hm1;have HM2:=zb hm2;have HM3:=zb hm3;have HDA:=zb hda;have HDB:=zb hdb;have HNW:=zb hnw;have HF:=zb hf;clear hm1 hm2 hm3 hda hdb hnw hf b2 h1 h2 hn hd hn' hd' hz;have q0:=((((Bag.zero w).new #[.string (za n),.string (za d)] 33 w.heap.size 2 rfl rfl).new #[.string (za n'),.string (za d')] 33 (w.heap.size+1) 2 (by simp) rfl).new #[.string ⟨#[]⟩,.string ⟨#[]⟩] 33 (w.heap.size+1+1) 2 (by simp) rfl);go_enter Tryz.func69, Tryz.ntmps69;go_wp2_with fail
 obtain ⟨W,hW⟩:∃ W,((w.alloc (.cells #[.string (za n),.string (za d)] 33)).alloc (.cells #[.string (za n'),.string (za d')] 33)).alloc (.cells #[.string ⟨#[]⟩,.string ⟨#[]⟩] 33)=W:=⟨_,rfl⟩;rw [hW] at q0 ⊢;clear hW;go_cut [8,9] from 11 to 24 (fun p x wx=>∃ gx,p = .pointer (some ⟨gx,0,none⟩)∧x = .bool true∧Bag w w w.heap.size ((gx, 31,1,#[.string (za z)])::[(w.heap.size+1+1, 33,2,#[.string ⟨#[]⟩,.string ⟨#[]⟩]),(w.heap.size+1, 33,2,#[.string (za n'),.string (za d')]),(w.heap.size, 33,2,#[.string (za n),.string (za d)])]) wx)
 case first =>
  have q6:=q0.drew;have hz:=(q0.new #[.string ⟨#[]⟩] 31 _ 1 rfl rfl).row0.drew;have hX0:=q0.fresh;have m1:=q6.is (w.heap.size) 2 33 #[.string (za n),.string (za d)] (by simp) 0 (by decide) (.string (za n)) rfl;have m2:=q6.is (w.heap.size) 2 33 #[.string (za n),.string (za d)] (by simp) 1 (by decide) (.string (za d)) rfl;have m3:=q6.is (w.heap.size+1) 2 33 #[.string (za n'),.string (za d')] (by simp) 0 (by decide) (.string (za n')) rfl;have m4:=q6.is (w.heap.size+1) 2 33 #[.string (za n'),.string (za d')] (by simp) 1 (by decide) (.string (za d')) rfl;go_region_held3 (fun w'=>w'.cell? ⟨w.heap.size,0,none⟩=some (.string (za n))∧w'.cell? ⟨w.heap.size,1,none⟩=some (.string (za d))∧w'.cell? ⟨w.heap.size+1,0,none⟩=some (.string (za n'))∧w'.cell? ⟨w.heap.size+1,1,none⟩=some (.string (za d')))
   (first | exact ⟨m1,m2,m3,m4⟩ | exact ⟨(World.cell?_setCell_far _ _ _ _ N1.out).trans m1,(World.cell?_setCell_far _ _ _ _ N2.out).trans m2,(World.cell?_setCell_far _ _ _ _ N3.out).trans m3,(World.cell?_setCell_far _ _ _ _ N4.out).trans m4⟩ | exact ⟨(q0.alloc _).drew.is (w.heap.size) 2 33 #[.string (za n),.string (za d)] (by simp) 0 (by decide) (.string (za n)) rfl,(q0.alloc _).drew.is (w.heap.size) 2 33 #[.string (za n),.string (za d)] (by simp) 1 (by decide) (.string (za d)) rfl,(q0.alloc _).drew.is (w.heap.size+1) 2 33 #[.string (za n'),.string (za d')] (by simp) 0 (by decide) (.string (za n')) rfl,(q0.alloc _).drew.is (w.heap.size+1) 2 33 #[.string (za n'),.string (za d')] (by simp) 1 (by decide) (.string (za d')) rfl⟩ | exact ⟨(q6.alloc _).is (w.heap.size) 2 33 #[.string (za n),.string (za d)] (by simp) 0 (by decide) (.string (za n)) rfl,(q6.alloc _).is (w.heap.size) 2 33 #[.string (za n),.string (za d)] (by simp) 1 (by decide) (.string (za d)) rfl,(q6.alloc _).is (w.heap.size+1) 2 33 #[.string (za n'),.string (za d')] (by simp) 0 (by decide) (.string (za n')) rfl,(q6.alloc _).is (w.heap.size+1) 2 33 #[.string (za n'),.string (za d')] (by simp) 1 (by decide) (.string (za d')) rfl⟩ | go_keep)
   (first
     | (go_simp
        go_at_call 33;(with_reducible first | refine (HM1.out _).mono ?_ | refine (HM2.out _).mono ?_);rintro e w9 ⟨rfl,hb9⟩;first
         | (replace q6:=q6.below hb9
            try replace hz6:=zo hz6 hb9)
         | (have hz6:=zo hz hb9
            have hX6:=hX0;have N1:=zb (Ne.symm (hX6.2 (w.heap.size, 33,2,#[.string (za n),.string (za d)]) (by simp)));have N2:=zb (Ne.symm (hX6.2 (w.heap.size, 33,2,#[.string (za n),.string (za d)]) (by simp)));have N3:=zb (Ne.symm (hX6.2 (w.heap.size+1, 33,2,#[.string (za n'),.string (za d')]) (by simp)));have N4:=zb (Ne.symm (hX6.2 (w.heap.size+1, 33,2,#[.string (za n'),.string (za d')]) (by simp)));replace q6:=(q0.alloc _).drew.below hb9)
         | (have hX6:=q6.fresh
            have N1:=zb (Ne.symm (hX6.2 (w.heap.size, 33,2,#[.string (za n),.string (za d)]) (by simp)));have N2:=zb (Ne.symm (hX6.2 (w.heap.size, 33,2,#[.string (za n),.string (za d)]) (by simp)));have N3:=zb (Ne.symm (hX6.2 (w.heap.size+1, 33,2,#[.string (za n'),.string (za d')]) (by simp)));have N4:=zb (Ne.symm (hX6.2 (w.heap.size+1, 33,2,#[.string (za n'),.string (za d')]) (by simp)));have hz6:=zo (zF _ #[.string ⟨#[]⟩] 31 _ 1 rfl rfl) hb9;replace q6:=(q6.alloc _).below hb9)
        have m1:=q6.is (w.heap.size) 2 33 #[.string (za n),.string (za d)] (by simp) 0 (by decide) (.string (za n)) rfl;have m2:=q6.is (w.heap.size) 2 33 #[.string (za n),.string (za d)] (by simp) 1 (by decide) (.string (za d)) rfl;have m3:=q6.is (w.heap.size+1) 2 33 #[.string (za n'),.string (za d')] (by simp) 0 (by decide) (.string (za n')) rfl;have m4:=q6.is (w.heap.size+1) 2 33 #[.string (za n'),.string (za d')] (by simp) 1 (by decide) (.string (za d')) rfl;try have y0:=hz6.frozen 0
        try have z0:=hz6.cell (i:=0) (by omega))
     | (go_simp
        go_at_call 73;(with_reducible first | refine (HDA.out _).mono ?_ | refine (HDB.out _).mono ?_);rintro e w9 ⟨rfl,hb9⟩;first
         | (replace q6:=q6.below hb9
            try replace hz6:=zo hz6 hb9)
         | (have hz6:=zo hz hb9
            have hX6:=hX0;have N1:=zb (Ne.symm (hX6.2 (w.heap.size, 33,2,#[.string (za n),.string (za d)]) (by simp)));have N2:=zb (Ne.symm (hX6.2 (w.heap.size, 33,2,#[.string (za n),.string (za d)]) (by simp)));have N3:=zb (Ne.symm (hX6.2 (w.heap.size+1, 33,2,#[.string (za n'),.string (za d')]) (by simp)));have N4:=zb (Ne.symm (hX6.2 (w.heap.size+1, 33,2,#[.string (za n'),.string (za d')]) (by simp)));replace q6:=(q0.alloc _).drew.below hb9)
         | (have hX6:=q6.fresh
            have N1:=zb (Ne.symm (hX6.2 (w.heap.size, 33,2,#[.string (za n),.string (za d)]) (by simp)));have N2:=zb (Ne.symm (hX6.2 (w.heap.size, 33,2,#[.string (za n),.string (za d)]) (by simp)));have N3:=zb (Ne.symm (hX6.2 (w.heap.size+1, 33,2,#[.string (za n'),.string (za d')]) (by simp)));have N4:=zb (Ne.symm (hX6.2 (w.heap.size+1, 33,2,#[.string (za n'),.string (za d')]) (by simp)));have hz6:=zo (zF _ #[.string ⟨#[]⟩] 31 _ 1 rfl rfl) hb9;replace q6:=(q6.alloc _).below hb9)
        have m1:=q6.is (w.heap.size) 2 33 #[.string (za n),.string (za d)] (by simp) 0 (by decide) (.string (za n)) rfl;have m2:=q6.is (w.heap.size) 2 33 #[.string (za n),.string (za d)] (by simp) 1 (by decide) (.string (za d)) rfl;have m3:=q6.is (w.heap.size+1) 2 33 #[.string (za n'),.string (za d')] (by simp) 0 (by decide) (.string (za n')) rfl;have m4:=q6.is (w.heap.size+1) 2 33 #[.string (za n'),.string (za d')] (by simp) 1 (by decide) (.string (za d')) rfl;try have y0:=hz6.frozen 0
        try have z0:=hz6.cell (i:=0) (by omega))
     | (go_simp
        go_at_call 70;(with_reducible first | refine (HF.out _).mono ?_);rintro e w9 ⟨rfl,hb9⟩;first
         | (replace q6:=q6.below hb9
            try replace hz6:=zo hz6 hb9)
         | (have hz6:=zo hz hb9
            have hX6:=hX0;have N1:=zb (Ne.symm (hX6.2 (w.heap.size, 33,2,#[.string (za n),.string (za d)]) (by simp)));have N2:=zb (Ne.symm (hX6.2 (w.heap.size, 33,2,#[.string (za n),.string (za d)]) (by simp)));have N3:=zb (Ne.symm (hX6.2 (w.heap.size+1, 33,2,#[.string (za n'),.string (za d')]) (by simp)));have N4:=zb (Ne.symm (hX6.2 (w.heap.size+1, 33,2,#[.string (za n'),.string (za d')]) (by simp)));replace q6:=(q0.alloc _).drew.below hb9)
         | (have hX6:=q6.fresh
            have N1:=zb (Ne.symm (hX6.2 (w.heap.size, 33,2,#[.string (za n),.string (za d)]) (by simp)));have N2:=zb (Ne.symm (hX6.2 (w.heap.size, 33,2,#[.string (za n),.string (za d)]) (by simp)));have N3:=zb (Ne.symm (hX6.2 (w.heap.size+1, 33,2,#[.string (za n'),.string (za d')]) (by simp)));have N4:=zb (Ne.symm (hX6.2 (w.heap.size+1, 33,2,#[.string (za n'),.string (za d')]) (by simp)));have hz6:=zo (zF _ #[.string ⟨#[]⟩] 31 _ 1 rfl rfl) hb9;replace q6:=(q6.alloc _).below hb9)
        have m1:=q6.is (w.heap.size) 2 33 #[.string (za n),.string (za d)] (by simp) 0 (by decide) (.string (za n)) rfl;have m2:=q6.is (w.heap.size) 2 33 #[.string (za n),.string (za d)] (by simp) 1 (by decide) (.string (za d)) rfl;have m3:=q6.is (w.heap.size+1) 2 33 #[.string (za n'),.string (za d')] (by simp) 0 (by decide) (.string (za n')) rfl;have m4:=q6.is (w.heap.size+1) 2 33 #[.string (za n'),.string (za d')] (by simp) 1 (by decide) (.string (za d')) rfl;try have y0:=hz6.frozen 0
        try have z0:=hz6.cell (i:=0) (by omega)))
  all_goals
   try go_wp2
   go_meet
   case rel =>
    first
     | exact ⟨_,rfl,rfl,q6.new _ _ _ _ rfl rfl⟩
     | exact ⟨_,rfl,rfl,(q6.other hX6.1 hX6.2 _ _).cons (oneRow hz6 _)⟩
 case rest =>
  obtain ⟨gx,rfl,rfl,q3⟩:=hcut;clear q0 HM1 HM2 HF;have hgx:Hid (w.heap.size+1+1≠gx):=zb (rowNe (q3.rows (w.heap.size+1+1, 33,2,#[.string ⟨#[]⟩,.string ⟨#[]⟩]) (by simp)) q3.row0 (by show 2≠1;decide));go_wp2_with fail
  have q6:=q3.drew;have m1:=q6.is (w.heap.size) 2 33 #[.string (za n),.string (za d)] (by simp) 0 (by decide) (.string (za n)) rfl;have m2:=q6.is (w.heap.size) 2 33 #[.string (za n),.string (za d)] (by simp) 1 (by decide) (.string (za d)) rfl;have m3:=q6.is (w.heap.size+1) 2 33 #[.string (za n'),.string (za d')] (by simp) 0 (by decide) (.string (za n')) rfl;have m4:=q6.is (w.heap.size+1) 2 33 #[.string (za n'),.string (za d')] (by simp) 1 (by decide) (.string (za d')) rfl;have m5:=q6.is (gx) 1 31 #[.string (za z)] (by simp) 0 (by decide) (.string (za z)) rfl;have N1:Hid (w.heap.size+1+1≠w.heap.size):=zb (by omega);have N2:Hid (w.heap.size+1+1≠w.heap.size):=zb (by omega);have N3:Hid (w.heap.size+1+1≠w.heap.size+1):=zb (by omega);have N4:Hid (w.heap.size+1+1≠w.heap.size+1):=zb (by omega);have N5:Hid (w.heap.size+1+1≠gx):=hgx;go_region_held3 (fun w'=>w'.cell? ⟨w.heap.size,0,none⟩=some (.string (za n))∧w'.cell? ⟨w.heap.size,1,none⟩=some (.string (za d))∧w'.cell? ⟨w.heap.size+1,0,none⟩=some (.string (za n'))∧w'.cell? ⟨w.heap.size+1,1,none⟩=some (.string (za d'))∧w'.cell? ⟨gx,0,none⟩=some (.string (za z)))
   (first | exact ⟨m1,m2,m3,m4,m5⟩ | exact ⟨qO N1.out m1,qO N2.out m2,qO N3.out m3,qO N4.out m4,qO N5.out m5⟩ | go_keep)
   (first
     | (go_simp
        go_at_call 33;(with_reducible first | refine (HM3.out _).mono ?_);rintro e w9 ⟨rfl,hb9⟩;replace q6:=q6.below hb9;have m1:=q6.is (w.heap.size) 2 33 #[.string (za n),.string (za d)] (by simp) 0 (by decide) (.string (za n)) rfl;have m2:=q6.is (w.heap.size) 2 33 #[.string (za n),.string (za d)] (by simp) 1 (by decide) (.string (za d)) rfl;have m3:=q6.is (w.heap.size+1) 2 33 #[.string (za n'),.string (za d')] (by simp) 0 (by decide) (.string (za n')) rfl;have m4:=q6.is (w.heap.size+1) 2 33 #[.string (za n'),.string (za d')] (by simp) 1 (by decide) (.string (za d')) rfl;have m5:=q6.is (gx) 1 31 #[.string (za z)] (by simp) 0 (by decide) (.string (za z)) rfl;have hr:=q6.rows (w.heap.size+1+1, 33,2,#[.string ⟨#[]⟩,.string ⟨#[]⟩]) (by simp);have y1:=hr.frozen 0;have y2:=hr.frozen 1;have z1:=q6.is (w.heap.size+1+1) 2 33 #[.string ⟨#[]⟩,.string ⟨#[]⟩] (by simp) 0 (by decide) (Value.string ⟨#[]⟩) rfl;have z2:=q6.is (w.heap.size+1+1) 2 33 #[.string ⟨#[]⟩,.string ⟨#[]⟩] (by simp) 1 (by decide) (Value.string ⟨#[]⟩) rfl;clear hr)
     | (go_simp
        go_at_call 73;(with_reducible first | refine (HDA.out _).mono ?_ | refine (HDB.out _).mono ?_);rintro e w9 ⟨rfl,hb9⟩;replace q6:=q6.below hb9;have m1:=q6.is (w.heap.size) 2 33 #[.string (za n),.string (za d)] (by simp) 0 (by decide) (.string (za n)) rfl;have m2:=q6.is (w.heap.size) 2 33 #[.string (za n),.string (za d)] (by simp) 1 (by decide) (.string (za d)) rfl;have m3:=q6.is (w.heap.size+1) 2 33 #[.string (za n'),.string (za d')] (by simp) 0 (by decide) (.string (za n')) rfl;have m4:=q6.is (w.heap.size+1) 2 33 #[.string (za n'),.string (za d')] (by simp) 1 (by decide) (.string (za d')) rfl;have m5:=q6.is (gx) 1 31 #[.string (za z)] (by simp) 0 (by decide) (.string (za z)) rfl;have hr:=q6.rows (w.heap.size+1+1, 33,2,#[.string ⟨#[]⟩,.string ⟨#[]⟩]) (by simp);have y1:=hr.frozen 0;have y2:=hr.frozen 1;have z1:=q6.is (w.heap.size+1+1) 2 33 #[.string ⟨#[]⟩,.string ⟨#[]⟩] (by simp) 0 (by decide) (Value.string ⟨#[]⟩) rfl;have z2:=q6.is (w.heap.size+1+1) 2 33 #[.string ⟨#[]⟩,.string ⟨#[]⟩] (by simp) 1 (by decide) (Value.string ⟨#[]⟩) rfl;clear hr)
     | (go_simp
        go_at_call 32;(with_reducible first | refine (HNW.out _).mono ?_);rintro e w9 ⟨rfl,hb9⟩;replace q6:=q6.below hb9;have m1:=q6.is (w.heap.size) 2 33 #[.string (za n),.string (za d)] (by simp) 0 (by decide) (.string (za n)) rfl;have m2:=q6.is (w.heap.size) 2 33 #[.string (za n),.string (za d)] (by simp) 1 (by decide) (.string (za d)) rfl;have m3:=q6.is (w.heap.size+1) 2 33 #[.string (za n'),.string (za d')] (by simp) 0 (by decide) (.string (za n')) rfl;have m4:=q6.is (w.heap.size+1) 2 33 #[.string (za n'),.string (za d')] (by simp) 1 (by decide) (.string (za d')) rfl;have m5:=q6.is (gx) 1 31 #[.string (za z)] (by simp) 0 (by decide) (.string (za z)) rfl;have hr:=q6.rows (w.heap.size+1+1, 33,2,#[.string ⟨#[]⟩,.string ⟨#[]⟩]) (by simp);have y1:=hr.frozen 0;have y2:=hr.frozen 1;have z1:=q6.is (w.heap.size+1+1) 2 33 #[.string ⟨#[]⟩,.string ⟨#[]⟩] (by simp) 0 (by decide) (Value.string ⟨#[]⟩) rfl;have z2:=q6.is (w.heap.size+1+1) 2 33 #[.string ⟨#[]⟩,.string ⟨#[]⟩] (by simp) 1 (by decide) (Value.string ⟨#[]⟩) rfl;clear hr))
  all_goals
   try go_wp2
   have hr:World.rowIs _ (w.heap.size+1+1) 33 2 (zy #[.string ⟨#[]⟩,.string ⟨#[]⟩]):=q6.rows (w.heap.size+1+1, 33,2,#[.string ⟨#[]⟩,.string ⟨#[]⟩]) (by simp);have y1:=hr.frozen 0;have y2:=hr.frozen 1;have z1:_=some (Value.string ⟨#[]⟩):=hr.cell (i:=0) (by omega);have z2:_=some (Value.string ⟨#[]⟩):=hr.cell (i:=1) (by omega);have hs:=(qx hr (.string (za N)) (.string (za D))).congr (zbK N D);have hb:=(q6.bl.setCell (p:=⟨w.heap.size+1+1,0,none⟩) (by simp;omega) (.string (za N))).setCell (p:=⟨w.heap.size+1+1,1,none⟩) (by simp;omega) (.string (za D));exact ju rfl N D rfl rfl hs rfl ⟨rfl,hb⟩
end Go.Proofs.YtmhllppjcilllaaGreatDoor
end
section
section
open Go Go.RowKit Cs
namespace Go.Proofs.YtmhllppjcilllaaGreatDoor
theorem ja {n:Nat} (h:n<18446744073709551616):n8 n≤8:=(pY 8 n).2 (by omega)
theorem zik (w:World) (n d:Nat) (hn:n<18446744073709551616) (hd:d<18446744073709551616) (h0:0<d) :
  Calls Tryz.prog 55 #[.int .u64 n,.int .u64 d] w fun e w'=>e = .returned (.tuple #[zI (qn (qq n d)) (qq n d).den,.bool true])∧Below w.heap.size w w':=by
 have h1:=ja hn;have h2:=ja hd;have ho1:=fun W=>zhs W n hn;have ho2:=fun W=>zhs W d hd;have hnw:=fun W=>zd9 W n d (by omega) (by omega) h0;generalize qn (qq n d)=N at *
 generalize (qq n d).den=D at *
 have HO1:=zb ho1;have HO2:=zb ho2;have HNW:=zb hnw;clear ho1 ho2 hnw h1 h2 hn hd h0;go_enter Tryz.func55, Tryz.ntmps55;have hr:=zco w 33 _ rfl;have hbel:=(Below.refl w.heap.size w).alloc (zu _) (.cells #[.string ⟨#[]⟩,.string ⟨#[]⟩] 33);go_wp2_with (first
  | (go_at_call 34
     (with_reducible first | refine (HO1.out _).mono ?_ | refine (HO2.out _).mono ?_);rintro e w1 ⟨rfl,hb1⟩;replace hr:=zo hr hb1;have hz1:=hb1.size;try simp at hz1
     replace hbel:=hbel.trans (hb1.mono (by first | omega | (simp;done) | (simp;omega)));clear hb1)
  | (go_at_call 32
     (with_reducible refine (HNW.out _).mono ?_);rintro e w1 ⟨rfl,hb1⟩;replace hr:=zo hr hb1;have hz2:=hb1.size;replace hbel:=hbel.trans (hb1.mono (by omega));obtain ⟨d0,d1⟩:=qj hr;have e0:=hr.frozen 0;have e1:=hr.frozen 1))
 exact ju rfl N D rfl rfl (oT hr N D) rfl ⟨rfl,(hbel.setCell (by simp) _).setCell (by simp) _⟩
theorem qof_one (w:World):Calls Tryz.prog 55 #[.int .u64 1,.int .u64 1] w fun e w'=>e = .returned (.tuple #[zI 1 1,.bool true])∧Below w.heap.size w w':=by
 have h:=zik w 1 1 (by decide) (by decide) (by decide);have e1:qn (qq 1 1)=1:=by decide +kernel
 have e2:(qq 1 1).den=1:=by decide +kernel
 rw [e1,e2] at h;exact h
theorem gK (w:World) (n d:Nat):Calls Tryz.prog 80 #[zI n d] w fun e w'=>e = .returned (zN n)∧Below w.heap.size w w':=by
 have hrt:=(pN w n d 33 _ rfl).alloc (.cells #[.string ⟨#[]⟩] 31);have hbx:=qF (w.alloc (.cells #[.string (za n),.string (za d)] 33)) (.string (za n)) 31 (w.heap.size+1) (by simp);have hbel:=((Below.refl w.heap.size w).alloc (zu _) (.cells #[.string (za n),.string (za d)] 33)).alloc (by simp) (.cells #[.string (za n)] 31);go_enter Tryz.func80, Tryz.ntmps80;go_wp2;exact pZ rfl _ rfl hbx rfl ⟨rfl,hbel⟩
end Go.Proofs.YtmhllppjcilllaaGreatDoor
end
section
open Go Go.RowKit Cs
namespace Go.Proofs.YtmhllppjcilllaaGreatDoor
theorem zgk {fn:Func} {R:Ending→World→Prop} {a:Act} {w:World} {p u:Tmp} (h:fn.results=#[.cell p 31,.tmp u]) {g:Nat} {t:TypeId} (V:Nat) {b:Value}
  (hp:a.tmps.getD p undef = .pointer (some ⟨g,0,none⟩)) (hb:a.tmps.getD u undef=b) (hrow:w.rowIs g t 1 fun _=>.string (za V)) (hdf:a.defers=[]) (hR:R (.returned (.tuple #[zN V,b])) w):bodyPost Tryz.prog fn R .ret a w:=by
 refine bodyPost_ret ?_ hdf hR;rw [results_cell_tmp h,hp];have hl:=run_loadVar_row (P:=Tryz.prog) w g t 31 _ (0,0) _ (jk hrow) Tryz.underlying31 rfl (by simpa using zd7);simp [asAddr,Result.andThen,hl,hb]
theorem xR (w:World) (a b:Nat) (ha:n8 a≤1000000) (hb:n8 b≤1000000) :
  Calls Tryz.prog 70 #[zN a,zN b] w fun e w'=>e = .returned (.tuple #[zN (a+b),.bool true])∧Below w.heap.size w w':=by
 have had:=fun W=>oG W a b ha hb;generalize a+b=S at *
 have HA:=zb had;clear had ha hb;have hbx:=qF ((w.alloc (.cells #[.string (za a)] 31)).alloc (.cells #[.string (za b)] 31)) (.string ⟨#[]⟩) 31 (w.heap.size+1+1) (by simp);have hbel:=(((Below.refl w.heap.size w).alloc (zu _) (.cells #[.string (za a)] 31)).alloc (by simp) (.cells #[.string (za b)] 31)).alloc (by simp;omega) (.cells #[.string ⟨#[]⟩] 31);go_enter Tryz.func70, Tryz.ntmps70;go_wp2_with (
  go_at_call 71;(with_reducible refine (HA.out _).mono ?_);rintro e w1 ⟨rfl,hb1⟩;replace hbx:=zo hbx hb1;have c:=zV hbx;have f:=hbx.frozen 0;replace hbel:=hbel.trans (hb1.mono (by simp;omega)))
 exact zgk rfl S rfl rfl (qZ hbx _) rfl ⟨rfl,hbel.setCell (by simp;omega) _⟩
theorem zjf (w:World) (n d n' d':Nat) (hn:n8 n≤100000) (hd:n8 d≤100000) (hn':n8 n'≤100000) (hd':n8 d'≤100000) :
  Calls Tryz.prog 27 #[zI n d,zI n' d'] w fun e w'=>e = .returned (zI (qn (qq n d+qq n' d')) (qq n d+qq n' d').den)∧Below w.heap.size w w':=by
 have b1:=yK n (qd d');have b2:=yK n' (qd d);have h1:=yP d hd;have h2:=yP d' hd';have b3:=zhy (n*qd d') (n'*qd d);have hj:=fun W=>join_add W n d n' d' (n*qd d'+n'*qd d) hn hd hn' hd' (by omega) (fun W=>xR W _ _ (by omega) (by omega));simp only [zfH] at hj;generalize qn (qq n d+qq n' d')=N at *
 generalize (qq n d+qq n' d').den=D at *
 have HJ:=zb hj;clear hj b1 b2 h1 h2 b3 hn hd hn' hd';have hr:=zco ((w.alloc (.cells #[.string (za n),.string (za d)] 33)).alloc (.cells #[.string (za n'),.string (za d')] 33)) 33 (w.heap.size+1+1) (by simp);have hbel:=(((Below.refl w.heap.size w).alloc (zu _) (.cells #[.string (za n),.string (za d)] 33)).alloc (by simp) (.cells #[.string (za n'),.string (za d')] 33)).alloc (by simp;omega) (.cells #[.string ⟨#[]⟩,.string ⟨#[]⟩] 33);go_enter Tryz.func27, Tryz.ntmps27;go_wp2_with (
  go_at_call 69;(with_reducible refine (HJ.out _).mono ?_);rintro e w1 ⟨rfl,hb1⟩;have hz1:=hb1.size;simp at hz1;replace hr:=(zo hr hb1).alloc (.cells #[.string (za N),.string (za D)] 33);obtain ⟨c0,c1⟩:=qj hr;have f0:=hr.frozen 0;have f1:=hr.frozen 1;replace hbel:=(hbel.trans (hb1.mono (by simp;omega))).alloc (by omega) (.cells #[.string (za N),.string (za D)] 33))
 exact zcF rfl N D rfl (oT hr N D) rfl ⟨rfl,(hbel.setCell (by simp;omega) _).setCell (by simp;omega) _⟩
end Go.Proofs.YtmhllppjcilllaaGreatDoor
end
end
