import Derived.Test.YtmhllppjcilllaaGreatDoorLt
import Derived.Test.YtmhllppjcilllaaGreatDoorI2
import Derived.BigGuardPart
import Derived.Test.YtmhllppjcilllaaGreatDoorSh
import Derived.Test.YtmhllppjcilllaaGreatDoorZa
set_option linter.unusedSimpArgs false
set_option linter.unusedVariables false
section
set_option maxRecDepth 100000
set_option maxHeartbeats 2000000
open Go Go.RowKit Cs
namespace Cs
def askB (N:Nt) (lt:Nat):Bool:=lightB N 40&&decide (lt≤140)&&(decide (N.n≤8) || !vld N)
end Cs
namespace Go.Proofs.YtmhllppjcilllaaGreatDoor
theorem fourCells {W:World} {g:Nat} {t:TypeId} {a b c d:Value} (h:W.rowIs g t 4 (arrF #[a,b,c,d])):W.cell? ⟨g,0,none⟩=some a∧W.cell? ⟨g,1,none⟩=some b∧W.cell? ⟨g,2,none⟩=some c∧W.cell? ⟨g,3,none⟩=some d :=
 ⟨h.cell (i:=0) (by decide),h.cell (i:=1) (by decide),h.cell (i:=2) (by decide),h.cell (i:=3) (by decide)⟩
theorem light40 (w:World) (N:Nt) (A:Option Addr) (c:Nat) (hlen:N.l.length≤140737488355328) (hN:NtAt w w.heap.size A N.l) :
  Calls Tryz.prog 43 #[ntV N A c,.int .i64 40] w fun e w'=>e = .returned (.bool (lightB N 40))∧Below w.heap.size w w':=light_any w N A c 40 hlen hN (by decide)
theorem askLight_any (w:World) (N:Nt) (A:Option Addr) (c:Nat) (Aw:Option Addr) (lw cw:Nat) (At:Option Addr) (lt ct:Nat) (hlen:N.l.length≤140737488355328) (hN:NtAt w w.heap.size A N.l) :
  Calls Tryz.prog 14 #[askV N A c Aw lw cw At lt ct] w fun e w'=>e = .returned (.bool (askB N lt))∧Below w.heap.size w w':=by
 have hr:=arrNew w #[.int .i64 N.n,.slice A N.l.length c,.slice Aw lw cw,.slice At lt ct] 28 w.heap.size 4 rfl rfl;have hb:=(Below.refl w.heap.size w).alloc (zqn _) (.cells #[.int .i64 N.n,.slice A N.l.length c,.slice Aw lw cw,.slice At lt ct] 28);have hL:∀ W,Below w.heap.size w W→_:=fun W h=>light40 W N A c hlen ((hN.below h).more h.size);have hV:∀ W,Below w.heap.size w W→_:=fun W h=>valid21_any W N A c hlen ((hN.below h).more h.size);have hB:askB N lt=(lightB N 40&&decide (lt≤140)&&(decide (N.n≤8) || !vld N)):=rfl;obtain ⟨R,hR⟩:∃ R,askB N lt=R:=⟨_,rfl⟩;rw [hR] at hB ⊢;clear hR;obtain ⟨e0,e1,e2,e3⟩:=fourCells hr;obtain ⟨L,hLL⟩:∃ L,lightB N 40=L:=⟨_,rfl⟩;obtain ⟨V,hVV⟩:∃ V,vld N=V:=⟨_,rfl⟩;rw [hLL] at hB hL;rw [hVV] at hB hV;have HL:=zqh hL;have HV:=zqh hV;have HB:=zqh hB;have BL:=zqh hb;have HR:=zqh hr;clear hL hV hB hb hr hN hlen hLL hVV;have fin:∀ W1 W2,Below w.heap.size w W1→Below W1.heap.size W1 W2→Below w.heap.size w W2:=fun W1 W2 h1 h2=>zqx h1 h2 h1.size;have FI:=zqh fin;clear fin;cases L with
 | false =>
   go_enter Tryz.func14, Tryz.ntmps14
   go_wp2_with (go_at_call 43;(with_reducible refine (HL.out _ BL.out).mono ?_);rintro e w1 ⟨rfl,hb1⟩)
   go_ret
   exact ⟨by rw [HB.out];rfl,FI.out _ _ BL.out hb1⟩
 | true =>
   by_cases h140:lt≤140
   ·have g1:decide ((lt:Int)≤140)=true:=decide_eq_true (by omega);by_cases h8:N.n≤8
    ·have g2:decide (N.n≤8)=true:=decide_eq_true h8;have HH:=zqh h140;have H8:=zqh h8;clear h140 h8
     go_enter Tryz.func14, Tryz.ntmps14
     go_wp2_with (go_at_call 43;(with_reducible refine (HL.out _ BL.out).mono ?_);rintro e w1 ⟨rfl,hb1⟩;obtain ⟨e4,e5,e6,e7⟩:=fourCells (rowBelow HR.out hb1))
     go_ret
     exact ⟨by rw [HB.out,decide_eq_true HH.out,decide_eq_true H8.out];rfl,FI.out _ _ BL.out hb1⟩
    ·have g2:decide (N.n≤8)=false:=decide_eq_false h8;have G2:=zqh g2;have HH:=zqh h140;have H8:=zqh h8;clear h140 h8
     go_enter Tryz.func14, Tryz.ntmps14
     go_wp2_with (first
      | (go_at_call 43;(with_reducible refine (HL.out _ BL.out).mono ?_);rintro e w1 ⟨rfl,hb1⟩;have B1:=zqh (FI.out _ _ BL.out hb1);obtain ⟨e4,e5,e6,e7⟩:=fourCells (rowBelow HR.out hb1);clear hb1)
      | (go_at_call 51;(with_reducible refine (HV.out _ B1.out).mono ?_);rintro e w2 ⟨rfl,hb2⟩))
     go_ret
     exact ⟨by rw [HB.out,decide_eq_true HH.out,G2.out];rfl,FI.out _ _ B1.out hb2⟩
   ·have g1:decide ((lt:Int)≤140)=false:=decide_eq_false (by omega);have G1:=zqh (decide_eq_false h140);clear h140
    go_enter Tryz.func14, Tryz.ntmps14
    go_wp2_with (go_at_call 43;(with_reducible refine (HL.out _ BL.out).mono ?_);rintro e w1 ⟨rfl,hb1⟩;obtain ⟨e4,e5,e6,e7⟩:=fourCells (rowBelow HR.out hb1))
    go_ret
    exact ⟨by rw [HB.out,G1.out];rfl,FI.out _ _ BL.out hb1⟩
end Go.Proofs.YtmhllppjcilllaaGreatDoor
end
section
set_option maxRecDepth 100000
set_option maxHeartbeats 1000000
open Go Go.RowKit Cs
namespace Go.Proofs.YtmhllppjcilllaaGreatDoor
section
variable (w:World) (N:Nt) (A:Option Addr) (c cl ch ll lh:Nat) (Al Ah:Option Addr) (E:Int)
abbrev CkE:Prop:=∀ W,Below w.heap.size w W→Calls Tryz.prog 35 #[ntV N A c,wtsV Al Ah ll lh cl ch] W fun e w'=>e = .returned (.int .i64 E)∧Below W.heap.size W w'
theorem total_err (h0:E≠0) (hck:CkE w N A c cl ch ll lh Al Ah E) :
  Calls Tryz.prog 16 #[ntV N A c,wtsV Al Ah ll lh cl ch] w fun e w'=>e = .returned (.tuple #[ratV 0 0,.int .i64 E])∧Below w.heap.size w w':=by
 have q0:=(((Bag.zero w).new #[.int .i64 N.n,.slice A N.l.length c] 24 w.heap.size 2 rfl rfl).new #[.slice Al ll cl,.slice Ah lh ch] 39 (w.heap.size+1) 2 (by simp) rfl).new #[.string ⟨#[]⟩,.string ⟨#[]⟩] 33 (w.heap.size+1+1) 2 (by simp) rfl;have hb0:(E==0)=false:=beq_eq_false_iff_ne.2 h0
 have hb1:(E != 0)=true:=by simp [bne,hb0]
 have HCK:=zqh hck;clear hck
 go_enter Tryz.func16, Tryz.ntmps16
 go_wp2_with (
  go_at_call 35
  (with_reducible refine (HCK.out _ q0.bl).mono ?_)
  rintro e w5 ⟨rfl,hb5⟩;have q1:=q0.below hb5;have hr:=q1.rows (w.heap.size+1+1, 33,2,#[.string ⟨#[]⟩,.string ⟨#[]⟩]) (by simp);have c0:w5.cell? ⟨w.heap.size+1+1,0,none⟩=some (.string ⟨#[]⟩):=hr.cell (i:=0) (by simp);have c1:w5.cell? ⟨w.heap.size+1+1,1,none⟩=some (.string ⟨#[]⟩):=hr.cell (i:=1) (by simp);have f0:=hr.frozen 0
  have f1:=hr.frozen 1)
 exact ret_rat_slot rfl 0 0 rfl rfl (ratRow0' (pairRow hr _ _)) rfl ⟨rfl,(q1.bl.setCell (p:=⟨w.heap.size+1+1,0,none⟩) (by simp only;omega) _).setCell (p:=⟨w.heap.size+1+1,1,none⟩) (by simp only;omega) _⟩
end
end Go.Proofs.YtmhllppjcilllaaGreatDoor
end
