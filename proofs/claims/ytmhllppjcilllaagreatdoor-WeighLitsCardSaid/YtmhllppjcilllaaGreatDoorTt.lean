import Derived.Test.YtmhllppjcilllaaGreatDoorIs
import Derived.BigGuardPart
import Derived.Deep.CutRange
set_option linter.unusedSimpArgs false
set_option linter.unusedVariables false
open Go Go.RowKit Cs
namespace Go
open Go.Proofs.YtmhllppjcilllaaGreatDoor
theorem Kp.box {w V W:World} {l:List (Nat×TypeId×Nat×(Nat→Value))} {X:Nat} {t:TypeId} {f:Nat→Value} (h:Kp w l V) (hW:Below V.heap.size V W) (hX:V.heap.size≤X) (hr:W.rowIs X t 2 f) (x y:Value):Kp w ((X,t,2,zy #[x,y])::l) ((W.setCell ⟨X,0,none⟩ x).setCell ⟨X,1,none⟩ y) :=
 ⟨jv (h.below hW).bl (Nat.le_trans h.bl.size hX) _ _,fun r hr'=>by
   rcases List.mem_cons.1 hr' with rfl | h2
   ·exact qx hr _ _
   ·have hlt:=(h.rows r h2).lt;have hne:r.1≠X:=by omega
    exact (((h.below hW).rows r h2).setOther hne _).setOther hne _⟩
end Go
namespace Go.Proofs.YtmhllppjcilllaaGreatDoor
abbrev yG (n:Nat) (L H:List Pr) (v:Value) (W:World):Prop:=∃ Al Ah cl ch,v = .agg #[.slice Al (n+1) cl,.slice Ah (n+1) ch]∧n+1≤cl∧n+1≤ch∧Rd W W.heap.size Al ((n+1)*2) (zL (L.map qp))∧Rd W W.heap.size Ah ((n+1)*2) (zL (H.map qp))
abbrev PwV (n:Nat) (L H:List Pr) (v:Value) (W:World):Prop:=∃ Al Ah cl ch,v=yJ Al Ah (n+1) (n+1) cl ch∧n+1≤cl∧n+1≤ch∧Rd W W.heap.size Al ((n+1)*2) (zD L)∧Rd W W.heap.size Ah ((n+1)*2) (zD H)
theorem zbW {n:Nat} {L H:List Pr} (v:Value) (W W':World) (h:yG n L H v W) (hb:Below W.heap.size W W'):yG n L H v W':=by
 obtain ⟨Al,Ah,cl,ch,h1,h2,h3,h4,h5⟩:=h;exact ⟨Al,Ah,cl,ch,h1,h2,h3,(h4.below hb).more hb.size,(h5.below hb).more hb.size⟩
theorem zcY {n:Nat} {L H:List Pr} (v:Value) (W W':World) (h:PwV n L H v W) (hb:Below W.heap.size W W'):PwV n L H v W':=by
 obtain ⟨Al,Ah,cl,ch,h1,h2,h3,h4,h5⟩:=h;exact ⟨Al,Ah,cl,ch,h1,h2,h3,(h4.below hb).more hb.size,(h5.below hb).more hb.size⟩
theorem aw_pq (lw:Nat) (F:Nat→Nat) (k j:Nat) (hj:j<k):pq (qp ((qK lw F k).getD j (0,0)))=(qK lw F k).getD j (0,0)∧pq (qp ((qL lw F k).getD j (0,0)))=(qL lw F k).getD j (0,0):=by
 unfold qK qL;rw [zck,zck,if_pos hj,if_pos hj];unfold pD pE;exact ⟨by rw [zij (zby _ _)],by rw [zij (zby _ _)]⟩
theorem aw_six (lw:Nat) (F:Nat→Nat) (k j:Nat):(((qK lw F k).getD j (0,0)).1≤6∧((qK lw F k).getD j (0,0)).2≤6)∧(((qL lw F k).getD j (0,0)).1≤6∧((qL lw F k).getD j (0,0)).2≤6):=by
 unfold qK qL;rw [zck,zck];refine ⟨?_,?_⟩
 ·split
  ·exact zfp lw F j
  ·exact ⟨Nat.zero_le _,Nat.zero_le _⟩
 ·split
  ·exact zfq lw F j
  ·exact ⟨Nat.zero_le _,Nat.zero_le _⟩
theorem pw_hyp (w:World) (N:Nt) (A:Option Addr) (c:Nat) (Aw:Option Addr) (lw cw:Nat) (At:Option Addr) (lt ct:Nat) (F:Nat→Nat) (hlw:lw≤140737488355328) (hw:Rd w w.heap.size Aw (lw*4) (fun i=>.int .u8 (F i:Nat))) (hF:∀ i,F i<256) (n:Nat) (hn:N.n=(n:Int)) (h8:n≤128) :
  ∀ W,Below w.heap.size w W→Calls Tryz.prog 17 #[yu N A c Aw lw cw At lt ct] W fun e w'=>∃ v,e = .returned v∧PwV n (qK lw F (n+1)) (qL lw F (n+1)) v w'∧Below W.heap.size W w':=fun W h=>by
 refine (aw_hyp w N A c Aw lw cw At lt ct F hlw hw hF n hn h8 W h).mono ?_;rintro e w' ⟨v,g1,c1,g2,c2,F1,F2,rfl,hq,hb⟩;have m1:=hq.m1;have m2:=hq.m2;exact ⟨v,rfl,⟨_,_,c1,c2,hq.v,m1,m2,zjb hq.r1 (by omega) hq.f1,zjb hq.r2 (by omega) hq.f2⟩,hb⟩
theorem ps_hyp (w:World) (N:Nt) (A:Option Addr) (c:Nat) (Aw:Option Addr) (lw cw:Nat) (At:Option Addr) (lt ct:Nat) (F:Nat→Nat) (hlw:lw≤140737488355328) (hw:Rd w w.heap.size Aw (lw*4) (fun i=>.int .u8 (F i:Nat))) (hF:∀ i,F i<256) (n:Nat) (hn:N.n=(n:Int)) (h8:n≤128) :
  ∀ W,Below w.heap.size w W→Calls Tryz.prog 19 #[yu N A c Aw lw cw At lt ct] W fun e w'=>∃ v,e = .returned v∧yG n (qK lw F (n+1)) (qL lw F (n+1)) v w'∧Below W.heap.size W w':=fun W h=>by
 refine (zgL W N A c Aw lw cw At lt ct F hlw ((hw.below h).more h.size) hF (n+1) (by omega)).mono ?_;rintro e w' ⟨s1,s2,rfl,hq⟩;obtain ⟨A1,c1,rfl,m1,r1⟩:=zjo hq.o1 (Nat.succ_pos _);obtain ⟨A2,c2,rfl,m2,r2⟩:=zjo hq.o2 (Nat.succ_pos _);exact ⟨_,rfl,⟨A1,A2,c1,c2,rfl,m1,m2,fun h0=>by
  obtain ⟨b,o,h1,h2,h3⟩:=r1 h0;exact ⟨b,o,h1,h2,fun i hi=>(h3 i hi).trans (congrArg some (prF_rf (aw_pq lw F (n+1) (i / 2) (by omega)).1))⟩,fun h0=>by
  obtain ⟨b,o,h1,h2,h3⟩:=r2 h0;exact ⟨b,o,h1,h2,fun i hi=>(h3 i hi).trans (congrArg some (prF_rf (aw_pq lw F (n+1) (i / 2) (by omega)).2))⟩⟩,hq.bl⟩
theorem zbY:Lp (0,0)∧Sp (0,0):=⟨Lp.zero,Sp.zero⟩
end Go.Proofs.YtmhllppjcilllaaGreatDoor
