import Derived.Test.YtmhllppjcilllaaGreatDoorGv
import Derived.Test.YtmhllppjcilllaaGreatDoorTt
set_option linter.unusedSimpArgs false
set_option linter.unusedVariables false
section
set_option maxRecDepth 100000
set_option maxHeartbeats 2000000
open Go Go.RowKit Cs
namespace Go
theorem Kp.nil' {w W:World} (h:Below w.heap.size w W):Kp w [] W:=⟨h,fun _ h=>(nomatch h)⟩
end Go
namespace Go.Proofs.YtmhllppjcilllaaGreatDoor
theorem xM (w:World) (A:Option Addr) (c:Nat) (l:List Int) (x:Int) (hl:l.length≤1000000) (hA:Rd w w.heap.size A l.length (zO l)) :
  Calls Tryz.prog 114 #[.slice A l.length c,.int .i64 x] w fun e w'=>e = .returned (.bool (decide (x∈l)))∧Below w.heap.size w w':=by
 obtain ⟨R,hR⟩:∃ R,decide (x∈l)=R:=⟨_,rfl⟩;rw [hR];have HR:=zb hR;have HL:=zb hl;have HA:=zb hA;clear hl hA hR;go_enter Tryz.func114, Tryz.ntmps114;go_wp2;go_loopw [5] (fun u wr=>∃ k:Nat,k≤l.length∧u = .int .i64 (k:Int)∧Below w.heap.size w wr∧∀ j,j<k→l.getD j 0≠x) (fun u _=>l.length-(intOf u).toNat)
 case atStart=>exact ⟨0,Nat.zero_le _,rfl,zx _ _,fun j hj=>absurd hj (Nat.not_lt_zero _)⟩
 case round =>
  obtain ⟨k,hk,rfl,hb,hno⟩:=hrel;by_cases hlt:k<l.length
  ·have hc0:decide ((k:Int)<(l.length:Int))=true:=decide_eq_true (by omega);have hc1:(k:Int)<(l.length:Int):=by omega
   have hc2:(0:Int)≤(k:Int):=by omega
   have hll:=HL.out;obtain ⟨tb,ot,rfl,hbt,hct⟩:=HA.out (by omega);have hc:wr.cell? ⟨tb,ot+k,none⟩=some (.int .i64 (l.getD k 0)):=zB hb hbt (hct k hlt);have e9:IntKind.i64.wrap ((k:Int)+1)=(k:Int)+1:=by rw [IntKind.wrap_i64];omega
   have hme:l.getD k 0∈l:=by rw [List.getD_eq_getElem?_getD,List.getElem?_eq_getElem hlt];exact List.getElem_mem hlt
   have HNO:=zb hno;have HB:=zb hb;have HLT:=zb hlt;have HME:=zb hme;obtain ⟨y,hy⟩:∃ y,l.getD k 0=y:=⟨_,rfl⟩;rw [hy] at hc HME;have HY:=zb hy;clear hno hb hk hlt hme hy hct hll;by_cases hxy:y=x
   ·subst hxy;have hin:decide (y∈l)=true:=decide_eq_true HME.out;rw [HR.out] at hin;have HI:=zb hin;clear hin;go_wp2;go_ret;exact ⟨by rw [HI.out];rfl,HB.out⟩
   ·have hb2:(y==x)=false:=beq_eq_false_iff_ne.2 hxy;have HXY:=zb hxy;clear hxy;go_wp2;go_roundw
    case rel=>exact ⟨k+1,Nat.succ_le_of_lt HLT.out,by go_num,HB.out,fun j hj=>by
     rcases Nat.lt_succ_iff_lt_or_eq.1 hj with h | rfl
     ·exact HNO.out j h
     ·rw [HY.out];exact HXY.out⟩
    case measure=>have:=HLT.out;simp [intOf];omega
  ·obtain rfl:k=l.length:=by omega
   have hc0:decide ((l.length:Int)<(l.length:Int))=false:=decide_eq_false (by omega);have hnin:decide (x∈l)=false:=decide_eq_false fun h=>by
    obtain ⟨j,hj,he⟩:=List.mem_iff_getElem.1 h;exact hno j hj (by rw [List.getD_eq_getElem?_getD,List.getElem?_eq_getElem hj];exact he)
   rw [HR.out] at hnin;have HI:=zb hnin;have HB:=zb hb;clear hno hk hlt hnin hb;go_wp2;go_ret;exact ⟨by rw [HI.out];rfl,HB.out⟩
theorem xJ (w:World) (A:Option Addr) (c:Nat) (l:List Int) (n:Int) (h0:0≤n) (hn:n≤128) (hl:l.length≤1000000) (hA:Rd w w.heap.size A l.length (zO l)) :
  Calls Tryz.prog 63 #[.slice A l.length c,.int .i64 n] w fun e w'=>e = .returned (.bool (yj n l))∧Below w.heap.size w w':=by
 have hva:=fun W x=>zf2 W x n h0 hn;have hco:∀ W,Below w.heap.size w W→∀ x,_:=fun W h x=>xM W A c l x hl ((hA.below h).more h.size);obtain ⟨R,hR⟩:∃ R,yj n l=R:=⟨_,rfl⟩;rw [hR];have HR:=zb hR;clear hR;have HVA:=zb hva;have HCO:=zb hco;have HL:=zb hl;have HA:=zb hA;have H0:=zb h0;have HN:=zb hn;clear hl hA hva hco h0 hn;go_enter Tryz.func63, Tryz.ntmps63;go_wp2;go_loopw [5] (fun u wr=>∃ k:Nat,k≤l.length∧u = .int .i64 (k:Int)∧Below w.heap.size w wr∧∀ j,j<k→qh (l.getD j 0) n=true∧¬ -(l.getD j 0)∈l) (fun u _=>l.length-(intOf u).toNat)
 case atStart=>exact ⟨0,Nat.zero_le _,rfl,zx _ _,fun j hj=>absurd hj (Nat.not_lt_zero _)⟩
 case round =>
  obtain ⟨k,hk,rfl,hb,hno⟩:=hrel;by_cases hlt:k<l.length
  ·have hc0:decide ((k:Int)<(l.length:Int))=true:=decide_eq_true (by omega);have hc1:(k:Int)<(l.length:Int):=by omega
   have hc2:(0:Int)≤(k:Int):=by omega
   have hll:=HL.out;obtain ⟨tb,ot,rfl,hbt,hct⟩:=HA.out (by omega);have hc:wr.cell? ⟨tb,ot+k,none⟩=some (.int .i64 (l.getD k 0)):=zB hb hbt (hct k hlt);have e9:IntKind.i64.wrap ((k:Int)+1)=(k:Int)+1:=by rw [IntKind.wrap_i64];omega
   have hme:l.getD k 0∈l:=by rw [List.getD_eq_getElem?_getD,List.getElem?_eq_getElem hlt];exact List.getElem_mem hlt
   have HNO:=zb hno;have HB:=zb hb;have HLT:=zb hlt;have HME:=zb hme;obtain ⟨y,hy⟩:∃ y,l.getD k 0=y:=⟨_,rfl⟩;rw [hy] at hc HME;have HY:=zb hy;have hva:=fun W=>HVA.out W y;clear hno hb hk hlt hme hy hct hll;cases hok:qh y n with
   | false =>
     simp only [hok] at hva;have HV1:=zb hva;have hter:yj n l=false:=by
      unfold yj;have:l.all (fun x=>qh x n)=false:=by
       rw [List.all_eq_false];exact ⟨y,HME.out,by rw [hok];decide⟩
      rw [this,Bool.false_and]
     rw [HR.out] at hter;have HI:=zb hter;clear hva hok hter;go_wp2_with (go_at_call 97;(with_reducible refine (HV1.out _).mono ?_);rintro e w1 ⟨rfl,rfl⟩)
     go_ret;exact ⟨by rw [HI.out];rfl,HB.out⟩
   | true =>
     simp only [hok] at hva;have HV1:=zb hva;obtain ⟨m,hm⟩:∃ m:Nat,n=(m:Int):=⟨n.toNat,by have:=H0.out;omega⟩;have hrg:=zc2 hok hm (by have:=HN.out;omega);have i9:IntKind.i64.wrap (-y) = -y:=by have:=HN.out;rw [IntKind.wrap_i64];omega
     have hco:=HCO.out wr HB.out (-y);have HOK:=zb hok;clear hva hrg hm hok;by_cases hin : -y∈l
     ·rw [decide_eq_true hin] at hco;have HC1:=zb hco;have hter:yj n l=false:=by
       unfold yj;rw [decide_eq_true (show ∃ x∈l,-x∈l from ⟨y,HME.out,hin⟩)];simp
      rw [HR.out] at hter;have HI:=zb hter;clear hco hter hin;go_wp2_with (first | (go_at_call 97;(with_reducible refine (HV1.out _).mono ?_);rintro e w1 ⟨rfl,rfl⟩) | (go_at_call 114;(with_reducible refine HC1.out.mono ?_);rintro e w2 ⟨rfl,hb2⟩))
      go_ret;exact ⟨by rw [HI.out];rfl,zw HB.out hb2 HB.out.size⟩
     ·rw [decide_eq_false hin] at hco;have HC1:=zb hco;have HIN:=zb hin;clear hco hin;go_wp2_with (first | (go_at_call 97;(with_reducible refine (HV1.out _).mono ?_);rintro e w1 ⟨rfl,rfl⟩) | (go_at_call 114;(with_reducible refine HC1.out.mono ?_);rintro e w2 ⟨rfl,hb2⟩))
      go_roundw
      case rel=>exact ⟨k+1,Nat.succ_le_of_lt HLT.out,by go_num,zw HB.out hb2 HB.out.size,fun j hj=>by
       rcases Nat.lt_succ_iff_lt_or_eq.1 hj with h | rfl
       ·exact HNO.out j h
       ·rw [HY.out];exact ⟨HOK.out,HIN.out⟩⟩
      case measure=>have:=HLT.out;simp [intOf];omega
  ·obtain rfl:k=l.length:=by omega
   have hc0:decide ((l.length:Int)<(l.length:Int))=false:=decide_eq_false (by omega);have hat:∀ x∈l,qh x n=true∧¬ -x∈l:=fun x h=>by
    obtain ⟨j,hj,he⟩:=List.mem_iff_getElem.1 h;have:=hno j hj;rw [List.getD_eq_getElem?_getD,List.getElem?_eq_getElem hj] at this;rw [← he];exact this
   have hter:yj n l=true:=by
    unfold yj;rw [decide_eq_false (fun h=>by obtain ⟨x,h1,h2⟩:=h;exact (hat x h1).2 h2),List.all_eq_true.2 (fun x h=>(hat x h).1)];rfl
   rw [HR.out] at hter;have HI:=zb hter;have HB:=zb hb;clear hno hk hlt hat hter hb;go_wp2;go_ret;exact ⟨by rw [HI.out];rfl,HB.out⟩
theorem zii (w:World) (p:Rat):Calls Tryz.prog 64 #[zS p,zS 0] w fun e w'=>e = .returned (.tuple #[zS 0,.bool false])∧Below w.heap.size w w':=by
 have e0:zc (qn 0)=⟨#[48]⟩:=by rw [show qn (0:Rat)=0 by decide];exact pU
 have hcz:((⟨#[48]⟩:ByteArray).toList==[48])=true:=by decide +kernel
 have hz:=fun W=>jt W;have ez:zc 0=⟨#[48]⟩:=pU;unfold zS;rw [e0];rw [ez] at hz;rw [show (0:Rat).den=1 from rfl];have q0:=(((Kp.nil w).new #[.string (zc (qn p)),.string (zc p.den)] 42 w.heap.size 2 rfl rfl).new #[.string ⟨#[48]⟩,.string (zc 1)] 42 (w.heap.size+1) 2 (by simp) rfl).new #[.string ⟨#[]⟩,.string ⟨#[]⟩] 42 (w.heap.size+1+1) 2 (by simp) rfl;have s1:World.cell? _ ⟨w.heap.size+1,0,none⟩=some (.string ⟨#[48]⟩):=(q0.row 1 rfl).cell (i:=0) (by decide);have HZ:=zb hz;have Q0:=zb q0;clear hz q0 e0 ez;go_enter Tryz.func64, Tryz.ntmps64;go_wp2_with (go_at_call 37;(with_reducible refine (HZ.out _).mono ?_);rintro e w6 ⟨rfl,hb6⟩;have Q2:=zb (Q0.out.below hb6);have hr:=Q2.out.row 0 rfl;have k1:World.cell? _ ⟨w.heap.size+1+1,0,none⟩=some (.string ⟨#[]⟩):=hr.cell (i:=0) (by decide);have k2:World.cell? _ ⟨w.heap.size+1+1,1,none⟩=some (.string ⟨#[]⟩):=hr.cell (i:=1) (by decide);have f1:=hr.frozen 0;have f2:=hr.frozen 1)
 exact zbd rfl rfl rfl (qx (Q2.out.row 0 rfl) _ _) rfl ⟨by rfl,jv Q2.out.bl (by omega) _ _⟩
section
variable (w:World) (N:Nt) (A:Option Addr) (c cl ch ll lh:Nat) (Al Ah At:Option Addr) (tl ct:Nat)
theorem zdU (hck:RkE w N A c cl ch ll lh Al Ah 1) :
  Calls Tryz.prog 24 #[qg N A c,.agg #[.slice Al ll cl,.slice Ah lh ch],.slice At tl ct] w fun e w'=>e = .returned (.tuple #[zS 0,.int .i64 1])∧Below w.heap.size w w':=by
 have q0:=(((Kp.nil w).new #[.int .i64 N.n,.slice A N.l.length c] 24 w.heap.size 2 rfl rfl).new #[.slice Al ll cl,.slice Ah lh ch] 47 (w.heap.size+1) 2 (by simp) rfl).new #[.string ⟨#[]⟩,.string ⟨#[]⟩] 42 (w.heap.size+1+1) 2 (by simp) rfl;have s1:World.cell? _ ⟨w.heap.size,0,none⟩=some (.int .i64 N.n):=(q0.row 2 rfl).cell (i:=0) (by decide);have s2:World.cell? _ ⟨w.heap.size,1,none⟩=some (.slice A N.l.length c):=(q0.row 2 rfl).cell (i:=1) (by decide);have s3:World.cell? _ ⟨w.heap.size+1,0,none⟩=some (.slice Al ll cl):=(q0.row 1 rfl).cell (i:=0) (by decide);have s4:World.cell? _ ⟨w.heap.size+1,1,none⟩=some (.slice Ah lh ch):=(q0.row 1 rfl).cell (i:=1) (by decide);have HCK:=zb hck;have Q0:=zb q0;clear hck q0;go_enter Tryz.func24, Tryz.ntmps24;go_wp2_with (first | (go_at_call 38;(with_reducible refine (HCK.out _ Q0.out.bl).mono ?_);rintro e w5 ⟨rfl,hb5⟩;have Q1:=zb (Q0.out.below hb5);clear s1 s2 s3 s4;have s1:World.cell? _ ⟨w.heap.size,0,none⟩=some (.int .i64 N.n):=(Q1.out.row 2 rfl).cell (i:=0) (by decide);have s2:World.cell? _ ⟨w.heap.size,1,none⟩=some (.slice A N.l.length c):=(Q1.out.row 2 rfl).cell (i:=1) (by decide)) | (go_at_call 37;(with_reducible refine (jt _).mono ?_);rintro e w7 ⟨rfl,hb7⟩;have Q3:=zb (Q1.out.below hb7);have hr:=Q3.out.row 0 rfl;have k1:World.cell? _ ⟨w.heap.size+1+1,0,none⟩=some (.string ⟨#[]⟩):=hr.cell (i:=0) (by decide);have k2:World.cell? _ ⟨w.heap.size+1+1,1,none⟩=some (.string ⟨#[]⟩):=hr.cell (i:=1) (by decide);have f1:=hr.frozen 0;have f2:=hr.frozen 1))
 exact zbd rfl rfl rfl (qx (Q3.out.row 0 rfl) _ _) rfl ⟨rfl,jv Q3.out.bl (by omega) _ _⟩
theorem zib (E:Int) (h1:E≠1) (hck:RkE w N A c cl ch ll lh Al Ah E) (hte:∀ W,Below w.heap.size w W→Calls Tryz.prog 63 #[.slice At tl ct,.int .i64 N.n] W fun e w'=>e = .returned (.bool false)∧Below W.heap.size W w') :
  Calls Tryz.prog 24 #[qg N A c,.agg #[.slice Al ll cl,.slice Ah lh ch],.slice At tl ct] w fun e w'=>e = .returned (.tuple #[zS 0,.int .i64 1])∧Below w.heap.size w w':=by
 have q0:=(((Kp.nil w).new #[.int .i64 N.n,.slice A N.l.length c] 24 w.heap.size 2 rfl rfl).new #[.slice Al ll cl,.slice Ah lh ch] 47 (w.heap.size+1) 2 (by simp) rfl).new #[.string ⟨#[]⟩,.string ⟨#[]⟩] 42 (w.heap.size+1+1) 2 (by simp) rfl;have s1:World.cell? _ ⟨w.heap.size,0,none⟩=some (.int .i64 N.n):=(q0.row 2 rfl).cell (i:=0) (by decide);have s2:World.cell? _ ⟨w.heap.size,1,none⟩=some (.slice A N.l.length c):=(q0.row 2 rfl).cell (i:=1) (by decide);have s3:World.cell? _ ⟨w.heap.size+1,0,none⟩=some (.slice Al ll cl):=(q0.row 1 rfl).cell (i:=0) (by decide);have s4:World.cell? _ ⟨w.heap.size+1,1,none⟩=some (.slice Ah lh ch):=(q0.row 1 rfl).cell (i:=1) (by decide);have hb1:(E==1)=false:=beq_eq_false_iff_ne.2 h1;have HCK:=zb hck;have HTE:=zb hte;have Q0:=zb q0;clear hck hte q0;go_enter Tryz.func24, Tryz.ntmps24;go_wp2_with (first | (go_at_call 38;(with_reducible refine (HCK.out _ Q0.out.bl).mono ?_);rintro e w5 ⟨rfl,hb5⟩;have Q1:=zb (Q0.out.below hb5);clear s1 s2 s3 s4;have s1:World.cell? _ ⟨w.heap.size,0,none⟩=some (.int .i64 N.n):=(Q1.out.row 2 rfl).cell (i:=0) (by decide);have s2:World.cell? _ ⟨w.heap.size,1,none⟩=some (.slice A N.l.length c):=(Q1.out.row 2 rfl).cell (i:=1) (by decide)) | (go_at_call 63;(with_reducible refine (HTE.out _ Q1.out.bl).mono ?_);rintro e w6 ⟨rfl,hb6⟩;have Q2:=zb (Q1.out.below hb6);clear s1 s2) | (go_at_call 37;(with_reducible refine (jt _).mono ?_);rintro e w7 ⟨rfl,hb7⟩;have Q3:=zb (Q2.out.below hb7);have hr:=Q3.out.row 0 rfl;have k1:World.cell? _ ⟨w.heap.size+1+1,0,none⟩=some (.string ⟨#[]⟩):=hr.cell (i:=0) (by decide);have k2:World.cell? _ ⟨w.heap.size+1+1,1,none⟩=some (.string ⟨#[]⟩):=hr.cell (i:=1) (by decide);have f1:=hr.frozen 0;have f2:=hr.frozen 1))
 exact zbd rfl rfl rfl (qx (Q3.out.row 0 rfl) _ _) rfl ⟨rfl,jv Q3.out.bl (by omega) _ _⟩
theorem zic (E:Int) (h0:E≠0) (h1:E≠1) (hck:RkE w N A c cl ch ll lh Al Ah E) (hte:∀ W,Below w.heap.size w W→Calls Tryz.prog 63 #[.slice At tl ct,.int .i64 N.n] W fun e w'=>e = .returned (.bool true)∧Below W.heap.size W w') :
  Calls Tryz.prog 24 #[qg N A c,.agg #[.slice Al ll cl,.slice Ah lh ch],.slice At tl ct] w fun e w'=>e = .returned (.tuple #[zS 0,.int .i64 E])∧Below w.heap.size w w':=by
 have q0:=(((Kp.nil w).new #[.int .i64 N.n,.slice A N.l.length c] 24 w.heap.size 2 rfl rfl).new #[.slice Al ll cl,.slice Ah lh ch] 47 (w.heap.size+1) 2 (by simp) rfl).new #[.string ⟨#[]⟩,.string ⟨#[]⟩] 42 (w.heap.size+1+1) 2 (by simp) rfl;have s1:World.cell? _ ⟨w.heap.size,0,none⟩=some (.int .i64 N.n):=(q0.row 2 rfl).cell (i:=0) (by decide);have s2:World.cell? _ ⟨w.heap.size,1,none⟩=some (.slice A N.l.length c):=(q0.row 2 rfl).cell (i:=1) (by decide);have s3:World.cell? _ ⟨w.heap.size+1,0,none⟩=some (.slice Al ll cl):=(q0.row 1 rfl).cell (i:=0) (by decide);have s4:World.cell? _ ⟨w.heap.size+1,1,none⟩=some (.slice Ah lh ch):=(q0.row 1 rfl).cell (i:=1) (by decide);have hb1:(E==1)=false:=beq_eq_false_iff_ne.2 h1;have hb0:(E==0)=false:=beq_eq_false_iff_ne.2 h0;have hb2:(E != 0)=true:=by simp [bne,hb0]
 have HCK:=zb hck;have HTE:=zb hte;have Q0:=zb q0;clear hck hte q0;go_enter Tryz.func24, Tryz.ntmps24;go_wp2_with (first | (go_at_call 38;(with_reducible refine (HCK.out _ Q0.out.bl).mono ?_);rintro e w5 ⟨rfl,hb5⟩;have Q1:=zb (Q0.out.below hb5);clear s1 s2 s3 s4;have s1:World.cell? _ ⟨w.heap.size,0,none⟩=some (.int .i64 N.n):=(Q1.out.row 2 rfl).cell (i:=0) (by decide);have s2:World.cell? _ ⟨w.heap.size,1,none⟩=some (.slice A N.l.length c):=(Q1.out.row 2 rfl).cell (i:=1) (by decide)) | (go_at_call 63;(with_reducible refine (HTE.out _ Q1.out.bl).mono ?_);rintro e w6 ⟨rfl,hb6⟩;have Q2:=zb (Q1.out.below hb6);clear s1 s2) | (go_at_call 37;(with_reducible refine (jt _).mono ?_);rintro e w7 ⟨rfl,hb7⟩;have Q3:=zb (Q2.out.below hb7);have hr:=Q3.out.row 0 rfl;have k1:World.cell? _ ⟨w.heap.size+1+1,0,none⟩=some (.string ⟨#[]⟩):=hr.cell (i:=0) (by decide);have k2:World.cell? _ ⟨w.heap.size+1+1,1,none⟩=some (.string ⟨#[]⟩):=hr.cell (i:=1) (by decide);have f1:=hr.frozen 0;have f2:=hr.frozen 1))
 exact zbd rfl rfl rfl (qx (Q3.out.row 0 rfl) _ _) rfl ⟨rfl,jv Q3.out.bl (by omega) _ _⟩
theorem zkc (x1 x2 Q:Rat) (b:Bool) (hQ:b=false→Q=0) (hck:RkE w N A c cl ch ll lh Al Ah 0) (hte:∀ W,Below w.heap.size w W→Calls Tryz.prog 63 #[.slice At tl ct,.int .i64 N.n] W fun e w'=>e = .returned (.bool true)∧Below W.heap.size W w') (PG:Value→World→Prop) (hpg:∀ v W W',PG v W→Below W.heap.size W W'→PG v W')
  (hgv:∀ W,Below w.heap.size w W→Calls Tryz.prog 61 #[.agg #[.slice Al ll cl,.slice Ah lh ch],.slice At tl ct] W fun e w'=>∃ v,e = .returned v∧PG v w'∧Below W.heap.size W w')
  (hs1:∀ W v,Below w.heap.size w W→PG v W→Calls Tryz.prog 56 #[qg N A c,v] W fun e w'=>e = .returned (zS x1)∧Below W.heap.size W w')
  (hs2:∀ W,Below w.heap.size w W→Calls Tryz.prog 56 #[qg N A c,.agg #[.slice Al ll cl,.slice Ah lh ch]] W fun e w'=>e = .returned (zS x2)∧Below W.heap.size W w')
  (hdv:∀ W,Calls Tryz.prog 64 #[zS x1,zS x2] W fun e w'=>e = .returned (.tuple #[zS Q,.bool b])∧Below W.heap.size W w') :
  Calls Tryz.prog 24 #[qg N A c,.agg #[.slice Al ll cl,.slice Ah lh ch],.slice At tl ct] w fun e w'=>e = .returned (.tuple #[zS Q,.int .i64 (if b then 0 else 3)])∧Below w.heap.size w w':=by
 have q0:=(((Kp.nil w).new #[.int .i64 N.n,.slice A N.l.length c] 24 w.heap.size 2 rfl rfl).new #[.slice Al ll cl,.slice Ah lh ch] 47 (w.heap.size+1) 2 (by simp) rfl).new #[.string ⟨#[]⟩,.string ⟨#[]⟩] 42 (w.heap.size+1+1) 2 (by simp) rfl;have s1:World.cell? _ ⟨w.heap.size,0,none⟩=some (.int .i64 N.n):=(q0.row 2 rfl).cell (i:=0) (by decide);have s2:World.cell? _ ⟨w.heap.size,1,none⟩=some (.slice A N.l.length c):=(q0.row 2 rfl).cell (i:=1) (by decide);have s3:World.cell? _ ⟨w.heap.size+1,0,none⟩=some (.slice Al ll cl):=(q0.row 1 rfl).cell (i:=0) (by decide);have s4:World.cell? _ ⟨w.heap.size+1,1,none⟩=some (.slice Ah lh ch):=(q0.row 1 rfl).cell (i:=1) (by decide);unfold zS at hs1 hs2 hdv ⊢;have HCK:=zb hck;have HTE:=zb hte;have HPG:=zb hpg;have HGV:=zb hgv;have HS1:=zb hs1;have HS2:=zb hs2;have HDV:=zb hdv;have HQQ:=zb hQ;have Q0:=zb q0;clear hck hte hpg hgv hs1 hs2 hdv hQ q0;go_enter Tryz.func24, Tryz.ntmps24;go_upto_region 6 with (first | (go_at_call 38;(with_reducible refine (HCK.out _ Q0.out.bl).mono ?_);rintro e w5 ⟨rfl,hb5⟩;have Q1:=zb (Q0.out.below hb5);clear s1 s2 s3 s4;have s1:World.cell? _ ⟨w.heap.size,0,none⟩=some (.int .i64 N.n):=(Q1.out.row 2 rfl).cell (i:=0) (by decide);have s2:World.cell? _ ⟨w.heap.size,1,none⟩=some (.slice A N.l.length c):=(Q1.out.row 2 rfl).cell (i:=1) (by decide)) | (go_at_call 63;(with_reducible refine (HTE.out _ Q1.out.bl).mono ?_);rintro e w6 ⟨rfl,hb6⟩;have Q2:=zb (Q1.out.below hb6);clear s1 s2))
 have s1:World.cell? _ ⟨w.heap.size,0,none⟩=some (.int .i64 N.n):=(Q2.out.row 2 rfl).cell (i:=0) (by decide);have s2:World.cell? _ ⟨w.heap.size,1,none⟩=some (.slice A N.l.length c):=(Q2.out.row 2 rfl).cell (i:=1) (by decide);have s3:World.cell? _ ⟨w.heap.size+1,0,none⟩=some (.slice Al ll cl):=(Q2.out.row 1 rfl).cell (i:=0) (by decide);have s4:World.cell? _ ⟨w.heap.size+1,1,none⟩=some (.slice Ah lh ch):=(Q2.out.row 1 rfl).cell (i:=1) (by decide);obtain ⟨V,rfl⟩:∃ V,V=w6:=⟨w6,rfl⟩;go_cut [9,10] from 28 to 39 (fun p q wx=>∃ b9,p = .pointer (some ⟨b9,0,none⟩)∧q = .bool b∧Kp w [(b9, 42,2,zy #[.string (zc (qn Q)),.string (zc Q.den)]),(w.heap.size+1+1, 42,2,zy #[.string ⟨#[]⟩,.string ⟨#[]⟩])] wx∧w.heap.size+1+1<b9)
 case first =>
  have BL:=zb Q2.out.bl;have g0:=(Q2.out.row 2 rfl).lt;have g1:=(Q2.out.row 1 rfl).lt;have HS:Hid (∀ W,Below V.heap.size V W→W.cell? ⟨w.heap.size,0,none⟩=some (.int .i64 N.n)∧W.cell? ⟨w.heap.size,1,none⟩=some (.slice A N.l.length c)∧W.cell? ⟨w.heap.size+1,0,none⟩=some (.slice Al ll cl)∧W.cell? ⟨w.heap.size+1,1,none⟩=some (.slice Ah lh ch)):=zb fun W hb=>⟨zC hb s1 g0,zC hb s2 g0,zC hb s3 g1,zC hb s4 g1⟩;refine zaN (n:=_) (PX:=[zl (.agg #[.int .i64 N.n,.slice A N.l.length c]),
     zl (.agg #[.slice Al ll cl,.slice Ah lh ch]),
     zl (.slice At tl ct),
     fun xl xv xw=>∃ v,xv=v∧PG v xw,
     zl (.agg #[.string (zc (qn x1)),.string (zc x1.den)]),
     zl (.agg #[.int .i64 N.n,.slice A N.l.length c]),
     zl (.agg #[.slice Al ll cl,.slice Ah lh ch]),
     zl (.agg #[.string (zc (qn x2)),.string (zc x2.den)]),
     zl (.tuple #[.agg #[.string (zc (qn Q)),.string (zc Q.den)],.bool b]),
     zl (.tuple #[.agg #[.string (zc (qn Q)),.string (zc Q.den)],.bool b]),
     zl (.agg #[.string (zc (qn Q)),.string (zc Q.den)]),
     zl (.bool b),
     fun xl xv xw=>∃ X,xv = .pointer (some ⟨X,0,none⟩)∧V.heap.size≤X∧World.rowIs xw X 42 2 (zy #[.string ⟨#[]⟩,.string ⟨#[]⟩])])
    (AL:=[12]) (DP:=[[],[],[],[1,2],[0,3],[],[],[5,6],[4,7],[8],[9],[9],[]]) (L1:=[0,1,2,3,4,5,6,7,8,9,10,12]) (ex:=[11]) (by kernel_rfl) rfl (by kernel_rfl) (by kernel_rfl) (fun _ _ _ _ _ h=>h) ?_ ?_ ?_ ?_
  ·repeat' first|exact zW|refine zk ?_ ?_|exact fun _ _ _ _ h _=>h|fail
   ·exact fun l v w w2 h hb=>by obtain ⟨x,h1,h2⟩:=h;exact ⟨x,h1,HPG.out _ _ _ h2 hb⟩
   ·exact fun l v w w2 h hb=>by obtain ⟨X,h1,h2,h3⟩:=h;exact ⟨X,h1,h2,zo h3 hb⟩
  ·refine zk (zv rfl [] ?_) (zk (zv rfl [] ?_) (zk (zv rfl [] ?_) (zk ?_ (zk ?_ (zk (zv rfl [] ?_) (zk (zv rfl [] ?_) (zk ?_ (zk ?_ (zk (zv rfl [(8,some 37)] ?_) (zk (zv rfl [(9,some 28)] ?_) (zk ?_ zW)))))))))));all_goals try (intro vs W hW hd K hK;(try simp only [qa,zl,and_true,List.getD_cons_succ,List.getD_cons_zero] at hd);(first | simp only [hd,zm,Act.put,zj,zi,zh,zg,zf,ze] at hK ⊢ | simp only [zm,Act.put,zj,zi,zh,zg,zf,ze] at hK ⊢ | skip);obtain ⟨m1,m2,m3,m4⟩:=HS.out W hW;go_simp;exact hK.out _ _ rfl (zx _ _) (qU rfl))
   ·refine zJ rfl [(1,some 30),(2,some 31)] ?_;intro vs W hW hd K hK;have d1:vs 1 = .agg #[.slice Al ll cl,.slice Ah lh ch]:=hd 1 (by decide);have d2:vs 2 = .slice At tl ct:=hd 2 (by decide);clear hd;try simp only [d1,d2,zm,Act.put,zj,zi,zh,zg,zf,ze] at hK ⊢
    go_simp;go_at_call 61;(with_reducible first | refine (HGV.out _ (zw BL.out hW BL.out.size)).mono ?_);rintro e w9 ⟨v,rfl,hq9,hb9⟩;exact hK.out _ _ (⟨_,rfl,hq9⟩) hb9 (fun h=>absurd h (by decide))
   ·refine zJ rfl [(0,some 29),(3,some 32)] ?_;intro vs W hW hd K hK;have d0:vs 0 = .agg #[.int .i64 N.n,.slice A N.l.length c]:=hd 0 (by decide);obtain ⟨v,d3,hq8⟩:∃ v,vs 3=v∧PG v W:=hd 3 (by decide);clear hd;try simp only [d0,d3,zm,Act.put,zj,zi,zh,zg,zf,ze] at hK ⊢
    go_simp;go_at_call 56;(with_reducible first | refine (HS1.out _ _ (zw BL.out hW BL.out.size) hq8).mono ?_);rintro e w9 ⟨rfl,hb9⟩;exact hK.out _ _ (rfl) hb9 (fun h=>absurd h (by decide))
   ·refine zJ rfl [(5,some 34),(6,some 35)] ?_;intro vs W hW hd K hK;have d5:vs 5 = .agg #[.int .i64 N.n,.slice A N.l.length c]:=hd 5 (by decide);have d6:vs 6 = .agg #[.slice Al ll cl,.slice Ah lh ch]:=hd 6 (by decide);clear hd;try simp only [d5,d6,zm,Act.put,zj,zi,zh,zg,zf,ze] at hK ⊢
    go_simp;go_at_call 56;(with_reducible first | refine (HS2.out _ (zw BL.out hW BL.out.size)).mono ?_);rintro e w9 ⟨rfl,hb9⟩;exact hK.out _ _ (rfl) hb9 (fun h=>absurd h (by decide))
   ·refine zJ rfl [(4,some 33),(7,some 36)] ?_;intro vs W hW hd K hK;have d4:vs 4 = .agg #[.string (zc (qn x1)),.string (zc x1.den)]:=hd 4 (by decide);have d7:vs 7 = .agg #[.string (zc (qn x2)),.string (zc x2.den)]:=hd 7 (by decide);clear hd;try simp only [d4,d7,zm,Act.put,zj,zi,zh,zg,zf,ze] at hK ⊢
    go_simp;go_at_call 64;(with_reducible first | refine (HDV.out _).mono ?_);rintro e w9 ⟨rfl,hb9⟩;exact hK.out _ _ (rfl) hb9 (fun h=>absurd h (by decide))
   ·refine zJ rfl [] ?_;intro vs W hW hd K hK;clear hd;try simp only [zm,Act.put,zj,zi,zh,zg,zf,ze] at hK ⊢
    go_simp;exact hK.out _ _ ⟨W.heap.size,rfl,hW.size,zF _ _ _ _ _ rfl rfl⟩ ((zx _ _).alloc (zu _) _) (fun _ b hb=>by simp [z7] at hb;subst hb;exact ⟨zu _,by simp⟩)
  ·refine zk ?_ zW
   ·refine YieldOk.intro rfl [(9,some 28)] (by kernel_rfl) (fun _=>.bool b) rfl ?_;intro vs W hd;have d9:vs 9 = .tuple #[.agg #[.string (zc (qn Q)),.string (zc Q.den)],.bool b]:=hd 9 (by decide);clear hd;refine ⟨rfl,fun w2=>?_⟩;try simp only [d9,zm,Act.put,zj,zi,zh,zg,zf,ze]
    go_simp
  refine qQ [(0,some 29),(1,some 30),(2,some 31),(3,some 32),(4,some 33),(5,some 34),(6,some 35),(7,some 36),(8,some 37),(9,some 28),(10,some 38),(12,some 9),(11,some 39)] #[true,true,true,true,true,true,true,true,true,true,true,true,true,false,false] 2 ?_;intro vs Wf hW hd hbk hdis kf;simp only [qa,zl,and_true,List.getD_cons_succ,List.getD_cons_zero] at hd;obtain ⟨d0,d1,d2,⟨v,d3,hq8⟩,d4,d5,d6,d7,d8,d9,d10,⟨X9,d12,b9,r9⟩,d11⟩:=hd;clear hbk hdis;try simp only [d0,d1,d2,d3,d4,d5,d6,d7,d8,d9,d10,d12,d11,zm,Act.put,zj,zi,zh,zg,zf,ze]
  clear d0 d1 d2 d3 d4 d5 d6 d7 d8 d9 d10 d12 d11 vs;clear HS;have l9:=r9.lt;have y9_0:=r9.frozen 0;have k9_0:=r9.cell (i:=0) (by decide);have y9_1:=r9.frozen 1;have k9_1:=r9.cell (i:=1) (by decide);refine zE 13 (by kernel_rfl) rfl (fun K hK=>?_);go_simp;refine hK.out _ _ ?_;clear hK K;try simp only [zm,Act.put,zj,zi,zh,zg,zf,ze]
  refine zE 14 (by kernel_rfl) rfl (fun K hK=>?_);go_simp;refine hK.out _ _ ?_;clear hK K;try simp only [zm,Act.put,zj,zi,zh,zg,zf,ze]
  refine qc (by kernel_rfl) ?_ _;all_goals
   try go_wp2
   go_meet;have g2:=(Q2.out.row 0 rfl).lt;exact ⟨X9,rfl,rfl,Kp.box ((Kp.nil' Q2.out.bl).add (Q2.out.row 0 rfl)) hW b9 r9 _ _,by omega⟩
 case rest =>
 obtain ⟨b9,rfl,rfl,hq,hlt⟩:=hcut;have Q3:=zb hq;have HLT:=zb hlt;have y1:World.cell? _ ⟨b9,0,none⟩=some (.string (zc (qn Q))):=(hq.row 0 rfl).cell (i:=0) (by decide);have y2:World.cell? _ ⟨b9,1,none⟩=some (.string (zc Q.den)):=(hq.row 0 rfl).cell (i:=1) (by decide);have k1:World.cell? _ ⟨w.heap.size+1+1,0,none⟩=some (.string ⟨#[]⟩):=(hq.row 1 rfl).cell (i:=0) (by decide);have k2:World.cell? _ ⟨w.heap.size+1+1,1,none⟩=some (.string ⟨#[]⟩):=(hq.row 1 rfl).cell (i:=1) (by decide);have f1:=(hq.row 1 rfl).frozen 0;have f2:=(hq.row 1 rfl).frozen 1;clear hq hlt s1 s2 s3 s4;cases b with
 | true =>
   go_wp2_with fail
   exact zbd rfl rfl rfl (qx (Q3.out.row 1 rfl) _ _) rfl ⟨rfl,jv Q3.out.bl (by omega) _ _⟩
 | false =>
   obtain rfl:=HQQ.out rfl;clear y1 y2;clear k1 k2 f1 f2;go_wp2_with (go_at_call 37;(with_reducible refine (jt _).mono ?_);rintro e w7 ⟨rfl,hb7⟩;have Q4:=zb (Q3.out.below hb7);have hr:=Q4.out.row 1 rfl;have k1:World.cell? _ ⟨w.heap.size+1+1,0,none⟩=some (.string ⟨#[]⟩):=hr.cell (i:=0) (by decide);have k2:World.cell? _ ⟨w.heap.size+1+1,1,none⟩=some (.string ⟨#[]⟩):=hr.cell (i:=1) (by decide);have f1:=hr.frozen 0;have f2:=hr.frozen 1)
   exact zbd rfl rfl rfl (qx (Q4.out.row 1 rfl) _ _) rfl ⟨rfl,jv Q4.out.bl (by omega) _ _⟩
end
end Go.Proofs.YtmhllppjcilllaaGreatDoor
end
section
open Go Go.RowKit Cs
namespace Cs
open Go.Proofs.YtmhllppjcilllaaGreatDoor
theorem rfF_snoc (L:List Rat) (k:Nat):(List.range ((k+1)*2)).map (zL L)=(List.range (k*2)).map (zL L)++[.string (zc (qn (L.getD k 0))),.string (zc (L.getD k 0).den)]:=by
 rw [show (k+1)*2=k*2+1+1 by omega,List.range_succ,List.range_succ];simp [oP,oQ]
theorem zdr (f:Nat→Pr) (k:Nat):(List.range ((k+1)*2)).map (zL (((List.range (k+1)).map f).map qp))=(List.range (k*2)).map (zL (((List.range k).map f).map qp))++[.string (zc (qn (qp (f k)))),.string (zc (qp (f k)).den)]:=by
 rw [rfF_snoc];have e:(((List.range (k+1)).map f).map qp).getD k 0=qp (f k):=by simp [List.getD_eq_getElem?_getD]
 rw [e];congr 1;refine List.map_congr_left fun i hi=>?_;rw [List.mem_range] at hi;unfold zL;have e2:(((List.range (k+1)).map f).map qp).getD (i / 2) 0=(((List.range k).map f).map qp).getD (i / 2) 0:=by
  have h1:i / 2<k:=by omega
  simp [List.getD_eq_getElem?_getD,h1,Nat.lt_succ_of_lt h1]
 rw [e2]
end Cs
namespace Go.Proofs.YtmhllppjcilllaaGreatDoor
theorem zgo {W W':World} {A:Option Addr} {m:Nat} {f:Nat→Value} (h:Rd W W.heap.size A m f) (hb:Below W.heap.size W W'):Rd W' W'.heap.size A m f:=(h.below hb).more hb.size
theorem six_lo {n:Nat} {lo:List Pr} {T:List Int} (h:∀ k,(lo.getD k (0,0)).1≤6∧(lo.getD k (0,0)).2≤6) (k:Nat):((z6 n lo T).getD k (0,0)).1≤6∧((z6 n lo T).getD k (0,0)).2≤6:=zhR (P:=fun p=>p.1≤6∧p.2≤6) ⟨Nat.zero_le _,Nat.zero_le _⟩ h k
theorem six_hi {n:Nat} {hi:List Pr} {T:List Int} (h:∀ k,(hi.getD k (0,0)).1≤6∧(hi.getD k (0,0)).2≤6) (k:Nat):((z8 n hi T).getD k (0,0)).1≤6∧((z8 n hi T).getD k (0,0)).2≤6:=zhS (P:=fun p=>p.1≤6∧p.2≤6) ⟨Nat.zero_le _,Nat.zero_le _⟩ h k
theorem xt {n:Nat} {t:List Int} (hn:n≤128) (h:yj (n:Int) t=true):∀ l∈t,(1≤l∧l≤(n:Int))∨(l≤-1∧-l≤(n:Int)):=fun l hl=>by
 unfold yj at h;rw [Bool.and_eq_true,List.all_eq_true] at h;exact zc2 (h.1 l hl) rfl hn
theorem zif (w:World) (N:Nt) (A:Option Addr) (c n cl ch ct:Nat) (lo hi:List Pr) (t:List Int) (Al Ah At:Option Addr) (hN:NtAt w w.heap.size A N.l) (hv:zG N=true) (hn:N.n=(n:Int)) (hd:qt N=true) (hs:qJ N=true) (hW:WtIn n lo hi) (hb:¬ 16384<zK lo n+zK hi n)
  (hl:∀ k,(lo.getD k (0,0)).1≤6∧(lo.getD k (0,0)).2≤6) (hh:∀ k,(hi.getD k (0,0)).1≤6∧(hi.getD k (0,0)).2≤6) (hto:∀ l∈t,(1≤l∧l≤(n:Int))∨(l≤-1∧-l≤(n:Int))) (htl:t.length≤1000000) :
  (∀ W At ct,Below w.heap.size w W→Rd W W.heap.size At t.length (zO t)→Rd W W.heap.size Al ((n+1)*2) (zL (lo.map qp))→Rd W W.heap.size Ah ((n+1)*2) (zL (hi.map qp))→Calls Tryz.prog 61 #[.agg #[.slice Al (n+1) cl,.slice Ah (n+1) ch],.slice At t.length ct] W fun e w'=>∃ v,e = .returned v∧yG n (z6 n lo t) (z8 n hi t) v w'∧Below W.heap.size W w') ∧
  (∀ W v,Below w.heap.size w W→yG n (z6 n lo t) (z8 n hi t) v W→Calls Tryz.prog 56 #[qg N A c,v] W fun e w'=>e = .returned (zS (qp (yI N n lo hi t)))∧Below W.heap.size W w'):=by
 have hn128:=zhT hv hn;refine ⟨fun W At ct hWb ht h1 h2=>?_,?_⟩
 ·refine (zkd W cl ch n ct lo hi t Al Ah At hn128 h1 h2 ht htl hto hW.ll hW.lh).mono ?_;rintro e w' ⟨g1,c1,g2,c2,rfl,m1,m2,r1,r2,hb2⟩;exact ⟨_,rfl,⟨_,_,c1,c2,rfl,m1,m2,r1,r2⟩,hb2⟩
 ·rintro W v hWb ⟨Al',Ah',cl',ch',rfl,m1,m2,r1,r2⟩;exact ziU W N A c n cl' ch' (z6 n lo t) (z8 n hi t) Al' Ah' ((hN.below hWb).more hWb.size) hv hn hd hs (hW.okT hb t) (six_lo hl) (six_hi hh) r1 r2 m1 m2
end Go.Proofs.YtmhllppjcilllaaGreatDoor
end
