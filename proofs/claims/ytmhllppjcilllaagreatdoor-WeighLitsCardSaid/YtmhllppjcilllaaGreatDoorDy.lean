import Derived.Test.YtmhllppjcilllaaGreatDoorBq
import Derived.Test.YtmhllppjcilllaaGreatDoorDl
import Derived.WalkMore
import Derived.Deep.CutBlock
import Derived.Deep.CutRange
set_option linter.unusedSimpArgs false
set_option linter.unusedVariables false
section
set_option maxRecDepth 100000
set_option maxHeartbeats 4000000
open Go Go.RowKit Cs
namespace Go.Proofs.YtmhllppjcilllaaGreatDoor
theorem qdiv_any (w:World) (n d n' d':Nat) (hn:n8 n≤100000) (hd:n8 d≤100000) (hn':n8 n'≤100000) (hd':n8 d'≤100000) (h0:0<n') :
  Calls Tryz.prog 36 #[zI n d,zI n' d'] w fun e w'=>e = .returned (.tuple #[zI (qn (qq n d / qq n' d')) (qq n d / qq n' d').den,.bool true])∧Below w.heap.size w w':=by
 have h1:=yP d hd;have h2:=yP d' hd';have hm1:=fun W=>jP W n (qd d') (by omega) (by omega);have hda:=fun W=>oV W n d (by omega);have hdb:=fun W=>oV W n' d' (by omega);have hm2:=fun W=>jP W (qd d) n' (by omega) (by omega);have b1:=yK n (qd d');have b2:=yK (qd d) n';have hnw:=fun W=>zd9 W (n*qd d') (qd d*n') (by omega) (by omega) (Nat.mul_pos (yq _) h0);simp only [jC n d n' d' h0] at hnw;generalize qn (qq n d / qq n' d')=N at *
 generalize (qq n d / qq n' d').den=D at *
 generalize n*qd d'=M1 at *
 generalize qd d*n'=M2 at *
 generalize qd d=Q at *
 generalize qd d'=Q' at *
 have HM1:=zb hm1;have HM2:=zb hm2;have HDA:=zb hda;have HDB:=zb hdb;have HNW:=zb hnw;clear hm1 hm2 hda hdb hnw b1 b2 h1 h2 hn hd hn' hd' h0;have q0:=((((Bag.zero w).new #[.string (za n),.string (za d)] 33 w.heap.size 2 rfl rfl).new #[.string (za n'),.string (za d')] 33 (w.heap.size+1) 2 (by simp) rfl).new #[.string ⟨#[]⟩,.string ⟨#[]⟩] 33 (w.heap.size+1+1) 2 (by simp) rfl);go_enter Tryz.func36, Tryz.ntmps36;go_wp2_with fail
 obtain ⟨W,hW⟩:∃ W,((w.alloc (.cells #[.string (za n),.string (za d)] 33)).alloc (.cells #[.string (za n'),.string (za d')] 33)).alloc (.cells #[.string ⟨#[]⟩,.string ⟨#[]⟩] 33)=W:=⟨_,rfl⟩;rw [hW] at q0 ⊢;clear hW;have q6:=q0.drew;have m1:=q6.is (w.heap.size) 2 33 #[.string (za n),.string (za d)] (by simp) 0 (by decide) (.string (za n)) rfl;have m2:=q6.is (w.heap.size) 2 33 #[.string (za n),.string (za d)] (by simp) 1 (by decide) (.string (za d)) rfl;have m3:=q6.is (w.heap.size+1) 2 33 #[.string (za n'),.string (za d')] (by simp) 0 (by decide) (.string (za n')) rfl;have m4:=q6.is (w.heap.size+1) 2 33 #[.string (za n'),.string (za d')] (by simp) 1 (by decide) (.string (za d')) rfl;have N1:Hid (w.heap.size+1+1≠w.heap.size):=zb (by omega);have N2:Hid (w.heap.size+1+1≠w.heap.size):=zb (by omega);have N3:Hid (w.heap.size+1+1≠w.heap.size+1):=zb (by omega);have N4:Hid (w.heap.size+1+1≠w.heap.size+1):=zb (by omega);go_region_held3 (fun w'=>w'.cell? ⟨w.heap.size,0,none⟩=some (.string (za n))∧w'.cell? ⟨w.heap.size,1,none⟩=some (.string (za d))∧w'.cell? ⟨w.heap.size+1,0,none⟩=some (.string (za n'))∧w'.cell? ⟨w.heap.size+1,1,none⟩=some (.string (za d')))
  (first | exact ⟨m1,m2,m3,m4⟩ | exact ⟨qO N1.out m1,qO N2.out m2,qO N3.out m3,qO N4.out m4⟩ | go_keep)
  (first
    | (go_simp
       go_at_call 33;(with_reducible first | refine (HM1.out _).mono ?_ | refine (HM2.out _).mono ?_);rintro e w9 ⟨rfl,hb9⟩;replace q6:=q6.below hb9;have m1:=q6.is (w.heap.size) 2 33 #[.string (za n),.string (za d)] (by simp) 0 (by decide) (.string (za n)) rfl;have m2:=q6.is (w.heap.size) 2 33 #[.string (za n),.string (za d)] (by simp) 1 (by decide) (.string (za d)) rfl;have m3:=q6.is (w.heap.size+1) 2 33 #[.string (za n'),.string (za d')] (by simp) 0 (by decide) (.string (za n')) rfl;have m4:=q6.is (w.heap.size+1) 2 33 #[.string (za n'),.string (za d')] (by simp) 1 (by decide) (.string (za d')) rfl;have hr:=q6.rows (w.heap.size+1+1, 33,2,#[.string ⟨#[]⟩,.string ⟨#[]⟩]) (by simp);have y1:=hr.frozen 0;have y2:=hr.frozen 1;have z1:=q6.is (w.heap.size+1+1) 2 33 #[.string ⟨#[]⟩,.string ⟨#[]⟩] (by simp) 0 (by decide) (Value.string ⟨#[]⟩) rfl;have z2:=q6.is (w.heap.size+1+1) 2 33 #[.string ⟨#[]⟩,.string ⟨#[]⟩] (by simp) 1 (by decide) (Value.string ⟨#[]⟩) rfl;clear hr)
    | (go_simp
       go_at_call 73;(with_reducible first | refine (HDA.out _).mono ?_ | refine (HDB.out _).mono ?_);rintro e w9 ⟨rfl,hb9⟩;replace q6:=q6.below hb9;have m1:=q6.is (w.heap.size) 2 33 #[.string (za n),.string (za d)] (by simp) 0 (by decide) (.string (za n)) rfl;have m2:=q6.is (w.heap.size) 2 33 #[.string (za n),.string (za d)] (by simp) 1 (by decide) (.string (za d)) rfl;have m3:=q6.is (w.heap.size+1) 2 33 #[.string (za n'),.string (za d')] (by simp) 0 (by decide) (.string (za n')) rfl;have m4:=q6.is (w.heap.size+1) 2 33 #[.string (za n'),.string (za d')] (by simp) 1 (by decide) (.string (za d')) rfl;have hr:=q6.rows (w.heap.size+1+1, 33,2,#[.string ⟨#[]⟩,.string ⟨#[]⟩]) (by simp);have y1:=hr.frozen 0;have y2:=hr.frozen 1;have z1:=q6.is (w.heap.size+1+1) 2 33 #[.string ⟨#[]⟩,.string ⟨#[]⟩] (by simp) 0 (by decide) (Value.string ⟨#[]⟩) rfl;have z2:=q6.is (w.heap.size+1+1) 2 33 #[.string ⟨#[]⟩,.string ⟨#[]⟩] (by simp) 1 (by decide) (Value.string ⟨#[]⟩) rfl;clear hr)
    | (go_simp
       go_at_call 32;(with_reducible first | refine (HNW.out _).mono ?_);rintro e w9 ⟨rfl,hb9⟩;replace q6:=q6.below hb9;have m1:=q6.is (w.heap.size) 2 33 #[.string (za n),.string (za d)] (by simp) 0 (by decide) (.string (za n)) rfl;have m2:=q6.is (w.heap.size) 2 33 #[.string (za n),.string (za d)] (by simp) 1 (by decide) (.string (za d)) rfl;have m3:=q6.is (w.heap.size+1) 2 33 #[.string (za n'),.string (za d')] (by simp) 0 (by decide) (.string (za n')) rfl;have m4:=q6.is (w.heap.size+1) 2 33 #[.string (za n'),.string (za d')] (by simp) 1 (by decide) (.string (za d')) rfl;have hr:=q6.rows (w.heap.size+1+1, 33,2,#[.string ⟨#[]⟩,.string ⟨#[]⟩]) (by simp);have y1:=hr.frozen 0;have y2:=hr.frozen 1;have z1:=q6.is (w.heap.size+1+1) 2 33 #[.string ⟨#[]⟩,.string ⟨#[]⟩] (by simp) 0 (by decide) (Value.string ⟨#[]⟩) rfl;have z2:=q6.is (w.heap.size+1+1) 2 33 #[.string ⟨#[]⟩,.string ⟨#[]⟩] (by simp) 1 (by decide) (Value.string ⟨#[]⟩) rfl;clear hr))
 all_goals
  try go_wp2
  have hr:World.rowIs _ (w.heap.size+1+1) 33 2 (zy #[.string ⟨#[]⟩,.string ⟨#[]⟩]):=q6.rows (w.heap.size+1+1, 33,2,#[.string ⟨#[]⟩,.string ⟨#[]⟩]) (by simp);have y1:=hr.frozen 0;have y2:=hr.frozen 1;have z1:_=some (Value.string ⟨#[]⟩):=hr.cell (i:=0) (by omega);have z2:_=some (Value.string ⟨#[]⟩):=hr.cell (i:=1) (by omega);have hs:=(qx hr (.string (za N)) (.string (za D))).congr (zbK N D);have hb:=(q6.bl.setCell (p:=⟨w.heap.size+1+1,0,none⟩) (by simp;omega) (.string (za N))).setCell (p:=⟨w.heap.size+1+1,1,none⟩) (by simp;omega) (.string (za D));exact ju rfl N D rfl rfl hs rfl ⟨rfl,hb⟩
end Go.Proofs.YtmhllppjcilllaaGreatDoor
end
section
set_option maxRecDepth 100000
set_option maxHeartbeats 8000000
open Go Go.RowKit Cs
namespace Go.Proofs.YtmhllppjcilllaaGreatDoor
theorem qdiv_gen (w:World) (n d n' d' N D:Nat) (b:Bool) (hn:n8 n≤100000) (hd:n8 d≤100000) (hn':n8 n'≤100000) (hd':n8 d'≤100000)
  (hnw:∀ W,Calls Tryz.prog 32 #[zN (n*qd d'),zN (qd d*n')] W fun e w'=>e = .returned (.tuple #[zI N D,.bool b])∧Below W.heap.size W w') :
  Calls Tryz.prog 36 #[zI n d,zI n' d'] w fun e w'=>e = .returned (.tuple #[zI N D,.bool b])∧Below w.heap.size w w':=by
 have h1:=yP d hd;have h2:=yP d' hd';have hm1:=fun W=>jP W n (qd d') (by omega) (by omega);have hda:=fun W=>oV W n d (by omega);have hdb:=fun W=>oV W n' d' (by omega);have hm2:=fun W=>jP W (qd d) n' (by omega) (by omega);have b1:=yK n (qd d');have b2:=yK (qd d) n';generalize n*qd d'=M1 at *
 generalize qd d*n'=M2 at *
 generalize qd d=Q at *
 generalize qd d'=Q' at *
 have HM1:=zb hm1;have HM2:=zb hm2;have HDA:=zb hda;have HDB:=zb hdb;have HNW:=zb hnw;clear hm1 hm2 hda hdb hnw b1 b2 h1 h2 hn hd hn' hd';have q0:=((((Bag.zero w).new #[.string (za n),.string (za d)] 33 w.heap.size 2 rfl rfl).new #[.string (za n'),.string (za d')] 33 (w.heap.size+1) 2 (by simp) rfl).new #[.string ⟨#[]⟩,.string ⟨#[]⟩] 33 (w.heap.size+1+1) 2 (by simp) rfl);go_enter Tryz.func36, Tryz.ntmps36;go_wp2_with fail
 obtain ⟨W,hW⟩:∃ W,((w.alloc (.cells #[.string (za n),.string (za d)] 33)).alloc (.cells #[.string (za n'),.string (za d')] 33)).alloc (.cells #[.string ⟨#[]⟩,.string ⟨#[]⟩] 33)=W:=⟨_,rfl⟩;rw [hW] at q0 ⊢;clear hW;have q6:=q0.drew;have m1:=q6.is (w.heap.size) 2 33 #[.string (za n),.string (za d)] (by simp) 0 (by decide) (.string (za n)) rfl;have m2:=q6.is (w.heap.size) 2 33 #[.string (za n),.string (za d)] (by simp) 1 (by decide) (.string (za d)) rfl;have m3:=q6.is (w.heap.size+1) 2 33 #[.string (za n'),.string (za d')] (by simp) 0 (by decide) (.string (za n')) rfl;have m4:=q6.is (w.heap.size+1) 2 33 #[.string (za n'),.string (za d')] (by simp) 1 (by decide) (.string (za d')) rfl;have N1:Hid (w.heap.size+1+1≠w.heap.size):=zb (by omega);have N2:Hid (w.heap.size+1+1≠w.heap.size):=zb (by omega);have N3:Hid (w.heap.size+1+1≠w.heap.size+1):=zb (by omega);have N4:Hid (w.heap.size+1+1≠w.heap.size+1):=zb (by omega);go_region_held3 (fun w'=>w'.cell? ⟨w.heap.size,0,none⟩=some (.string (za n))∧w'.cell? ⟨w.heap.size,1,none⟩=some (.string (za d))∧w'.cell? ⟨w.heap.size+1,0,none⟩=some (.string (za n'))∧w'.cell? ⟨w.heap.size+1,1,none⟩=some (.string (za d')))
  (first | exact ⟨m1,m2,m3,m4⟩ | exact ⟨qO N1.out m1,qO N2.out m2,qO N3.out m3,qO N4.out m4⟩ | go_keep)
  (first
    | (go_simp
       go_at_call 33;(with_reducible first | refine (HM1.out _).mono ?_ | refine (HM2.out _).mono ?_);rintro e w9 ⟨rfl,hb9⟩;replace q6:=q6.below hb9;have m1:=q6.is (w.heap.size) 2 33 #[.string (za n),.string (za d)] (by simp) 0 (by decide) (.string (za n)) rfl;have m2:=q6.is (w.heap.size) 2 33 #[.string (za n),.string (za d)] (by simp) 1 (by decide) (.string (za d)) rfl;have m3:=q6.is (w.heap.size+1) 2 33 #[.string (za n'),.string (za d')] (by simp) 0 (by decide) (.string (za n')) rfl;have m4:=q6.is (w.heap.size+1) 2 33 #[.string (za n'),.string (za d')] (by simp) 1 (by decide) (.string (za d')) rfl;have hr:=q6.rows (w.heap.size+1+1, 33,2,#[.string ⟨#[]⟩,.string ⟨#[]⟩]) (by simp);have y1:=hr.frozen 0;have y2:=hr.frozen 1;have z1:=q6.is (w.heap.size+1+1) 2 33 #[.string ⟨#[]⟩,.string ⟨#[]⟩] (by simp) 0 (by decide) (Value.string ⟨#[]⟩) rfl;have z2:=q6.is (w.heap.size+1+1) 2 33 #[.string ⟨#[]⟩,.string ⟨#[]⟩] (by simp) 1 (by decide) (Value.string ⟨#[]⟩) rfl;clear hr)
    | (go_simp
       go_at_call 73;(with_reducible first | refine (HDA.out _).mono ?_ | refine (HDB.out _).mono ?_);rintro e w9 ⟨rfl,hb9⟩;replace q6:=q6.below hb9;have m1:=q6.is (w.heap.size) 2 33 #[.string (za n),.string (za d)] (by simp) 0 (by decide) (.string (za n)) rfl;have m2:=q6.is (w.heap.size) 2 33 #[.string (za n),.string (za d)] (by simp) 1 (by decide) (.string (za d)) rfl;have m3:=q6.is (w.heap.size+1) 2 33 #[.string (za n'),.string (za d')] (by simp) 0 (by decide) (.string (za n')) rfl;have m4:=q6.is (w.heap.size+1) 2 33 #[.string (za n'),.string (za d')] (by simp) 1 (by decide) (.string (za d')) rfl;have hr:=q6.rows (w.heap.size+1+1, 33,2,#[.string ⟨#[]⟩,.string ⟨#[]⟩]) (by simp);have y1:=hr.frozen 0;have y2:=hr.frozen 1;have z1:=q6.is (w.heap.size+1+1) 2 33 #[.string ⟨#[]⟩,.string ⟨#[]⟩] (by simp) 0 (by decide) (Value.string ⟨#[]⟩) rfl;have z2:=q6.is (w.heap.size+1+1) 2 33 #[.string ⟨#[]⟩,.string ⟨#[]⟩] (by simp) 1 (by decide) (Value.string ⟨#[]⟩) rfl;clear hr)
    | (go_simp
       go_at_call 32;(with_reducible first | refine (HNW.out _).mono ?_);rintro e w9 ⟨rfl,hb9⟩;replace q6:=q6.below hb9;have m1:=q6.is (w.heap.size) 2 33 #[.string (za n),.string (za d)] (by simp) 0 (by decide) (.string (za n)) rfl;have m2:=q6.is (w.heap.size) 2 33 #[.string (za n),.string (za d)] (by simp) 1 (by decide) (.string (za d)) rfl;have m3:=q6.is (w.heap.size+1) 2 33 #[.string (za n'),.string (za d')] (by simp) 0 (by decide) (.string (za n')) rfl;have m4:=q6.is (w.heap.size+1) 2 33 #[.string (za n'),.string (za d')] (by simp) 1 (by decide) (.string (za d')) rfl;have hr:=q6.rows (w.heap.size+1+1, 33,2,#[.string ⟨#[]⟩,.string ⟨#[]⟩]) (by simp);have y1:=hr.frozen 0;have y2:=hr.frozen 1;have z1:=q6.is (w.heap.size+1+1) 2 33 #[.string ⟨#[]⟩,.string ⟨#[]⟩] (by simp) 0 (by decide) (Value.string ⟨#[]⟩) rfl;have z2:=q6.is (w.heap.size+1+1) 2 33 #[.string ⟨#[]⟩,.string ⟨#[]⟩] (by simp) 1 (by decide) (Value.string ⟨#[]⟩) rfl;clear hr))
 all_goals
  try go_wp2
  have hr:World.rowIs _ (w.heap.size+1+1) 33 2 (zy #[.string ⟨#[]⟩,.string ⟨#[]⟩]):=q6.rows (w.heap.size+1+1, 33,2,#[.string ⟨#[]⟩,.string ⟨#[]⟩]) (by simp);have y1:=hr.frozen 0;have y2:=hr.frozen 1;have z1:_=some (Value.string ⟨#[]⟩):=hr.cell (i:=0) (by omega);have z2:_=some (Value.string ⟨#[]⟩):=hr.cell (i:=1) (by omega);have hs:=(qx hr (.string (za N)) (.string (za D))).congr (zbK N D);have hb:=(q6.bl.setCell (p:=⟨w.heap.size+1+1,0,none⟩) (by simp;omega) (.string (za N))).setCell (p:=⟨w.heap.size+1+1,1,none⟩) (by simp;omega) (.string (za D));exact ju rfl N D rfl rfl hs rfl ⟨rfl,hb⟩
theorem xQ (w:World) (n d d':Nat) (hn:n8 n≤100000) (hd:n8 d≤100000) (hd':n8 d'≤100000) :
  Calls Tryz.prog 36 #[zI n d,zI 0 d'] w fun e w'=>e = .returned (.tuple #[zI 0 0,.bool false])∧Below w.heap.size w w' :=
 qdiv_gen w n d 0 d' 0 0 false hn hd (by rw [oW];omega) hd' fun W=>by
  rw [Nat.mul_zero];exact xP W _
end Go.Proofs.YtmhllppjcilllaaGreatDoor
end
