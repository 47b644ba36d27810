import Derived.Test.YtmhllppjcilllaaGreatDoorBq
import Derived.Test.YtmhllppjcilllaaGreatDoorN1
import Derived.Test.YtmhllppjcilllaaGreatDoorV1
import Derived.Test.YtmhllppjcilllaaGreatDoorN4
import Derived.Test.YtmhllppjcilllaaGreatDoorS1
import Derived.IntWalk
import Derived.Test.YtmhllppjcilllaaGreatDoorLt
import Derived.BigGuardPart
import Derived.Test.YtmhllppjcilllaaGreatDoorSh
import Derived.Test.YtmhllppjcilllaaGreatDoorZa
set_option linter.unusedSimpArgs false
set_option linter.unusedVariables false
section
set_option maxRecDepth 100000
set_option maxHeartbeats 2000000
section
open Go Go.RowKit Cs
namespace Cs
theorem ze2 (s:Nat) (v:Int) (h1:1≤v) (h2:v≤128):gZ s v=s.testBit (v.toNat-1):=by unfold gZ;rw [decide_eq_true ⟨h1,h2⟩,Bool.true_and]
theorem zjE (x k:Nat):((((x:Nat):Int) / 2^k).tmod 2==1)=x.testBit k:=by
 have e:((x:Nat):Int) / 2^k=((x / 2^k:Nat):Int):=by rw [Int.natCast_ediv,Int.natCast_pow];rfl
 have e2:(((x / 2^k:Nat):Int)).tmod 2=((x / 2^k%2:Nat):Int):=(Int.ofNat_tmod _ 2).symm;rw [e,e2,Nat.testBit_eq_decide_div_mod_eq,Bool.eq_iff_iff];simp;omega
end Cs
namespace Go.Proofs.YtmhllppjcilllaaGreatDoor
theorem ze3 (w:World) (s:Nat) (v:Int):Calls Tryz.prog 145 #[qm s,.int .i64 v] w fun e w'=>e = .returned (.bool (gZ s v))∧Below w.heap.size w w':=by
 have hbl:Below w.heap.size w (w.alloc (.cells #[.int .u64 (lo s:Int),.int .u64 (hi s:Int)] 96)):=(zx _ _).alloc (zu _) _;have l1:=yO s;have l2:=yN s;by_cases hv:1≤v∧v≤128
 ·obtain ⟨hv1,hv2⟩:=hv;obtain ⟨n,rfl⟩:∃ n:Nat,v=(n:Int)+1:=⟨(v-1).toNat,by omega⟩;have hh:gZ s ((n:Int)+1)=s.testBit n:=by rw [ze2 s _ hv1 hv2];congr 1
  rw [hh];clear hh;have hlo:=jO s n;have hhi:=jN s (n-64);rcases Nat.lt_or_ge n 64 with h | h
  ·have hq:(n:Int) / 64=0:=by omega
   have hr:(n:Int)%64=(n:Int):=by omega
   have hb:=zjE (lo s) n;rw [hlo,decide_eq_true h,Bool.true_and] at hb;have HB:=zb hb;clear hlo hhi hb;go_enter Tryz.func145, Tryz.ntmps145;go_wp2;go_ret;exact ⟨congrArg (fun b=>Ending.returned (.bool b)) HB.out,hbl⟩
  ·have hq:(n:Int) / 64=1:=by omega
   have hr:(n:Int)%64=(n:Int)-64:=by omega
   have i0:(0:Int)≤(n:Int)-64:=by omega
   have i1:(n:Int)-64<64:=by omega
   have hb:=zjE (hi s) (n-64);rw [hhi,show n-64+64=n by omega,decide_eq_true (by omega),Bool.true_and] at hb;have HB:=zb hb;clear hlo hhi hb;go_enter Tryz.func145, Tryz.ntmps145;go_wp2;go_ret;exact ⟨congrArg (fun b=>Ending.returned (.bool b)) HB.out,hbl⟩
 ·have hh:gZ s v=false:=by unfold gZ;rw [decide_eq_false hv];rfl
  rw [hh];clear hh;rcases Int.lt_or_le v 1 with h | h
  ·have hd:decide (1≤v)=false:=decide_eq_false (by omega);clear hv;go_enter Tryz.func145, Tryz.ntmps145;go_wp2;go_ret;exact ⟨rfl,hbl⟩
  ·have hd:decide (v≤128)=false:=decide_eq_false (by omega);clear hv;go_enter Tryz.func145, Tryz.ntmps145;go_wp2;go_ret;exact ⟨rfl,hbl⟩
theorem xY (l n:Int) (h0:0≤n) (hn:n≤128):qh l n=(decide (l≠0)&&decide (-n≤l)&&decide (l≤n)):=by
 unfold qh zQ;rw [Bool.eq_iff_iff];simp;by_cases h1:1≤l∧l≤128
 ·rw [if_pos h1];omega
 ·rw [if_neg h1];by_cases h2:l≤-1∧-128≤l
  ·rw [if_pos h2];omega
  ·rw [if_neg h2];omega
theorem zf2 (w:World) (l n:Int) (h0:0≤n) (hn:n≤128):Calls Tryz.prog 97 #[.int .i64 l,.int .i64 n] w fun e w'=>e = .returned (.bool (qh l n))∧w=w':=by
 rw [xY l n h0 hn];by_cases h1:l=0
 ·subst h1;go_enter Tryz.func97, Tryz.ntmps97;go_wp2;go_ret;exact ⟨rfl,rfl⟩
 ·rw [decide_eq_true h1,Bool.true_and];have hb1:(l != 0)=true:=bne_iff_ne.2 h1;by_cases h2 : -n≤l
  ·rw [decide_eq_true h2,Bool.true_and];go_enter Tryz.func97, Tryz.ntmps97;go_wp2;go_ret;exact ⟨rfl,rfl⟩
  ·rw [decide_eq_false h2,Bool.false_and];go_enter Tryz.func97, Tryz.ntmps97;go_wp2;go_ret;exact ⟨rfl,rfl⟩
end Go.Proofs.YtmhllppjcilllaaGreatDoor
end
section
open Go Go.RowKit Cs
namespace Cs
theorem oF {x n:Nat} (h:x.testBit n=false):x+2^n=x ||| 2^n:=by
 have hx:x=2^(n+1)*(x / 2^(n+1))+x%2^(n+1):=(Nat.div_add_mod x (2^(n+1))).symm;have hr:x%2^(n+1)<2^n:=by
  have h1:=Nat.mod_lt x (Nat.two_pow_pos (n+1));rcases Nat.lt_or_ge (x%2^(n+1)) (2^n) with h2 | h2
  ·exact h2
  ·have h3:(x%2^(n+1)).testBit n=true:=by
    rw [Nat.testBit_eq_decide_div_mod_eq];have:x%2^(n+1) / 2^n=1:=by
     rw [Nat.pow_succ] at h1 h2 ⊢;exact Nat.div_eq_of_lt_le (by omega) (by omega)
    rw [this];rfl
   rw [Nat.testBit_mod_two_pow,h] at h3;simp at h3
 obtain ⟨q,hq⟩:∃ q,x / 2^(n+1)=q:=⟨_,rfl⟩;obtain ⟨r,hr'⟩:∃ r,x%2^(n+1)=r:=⟨_,rfl⟩;rw [hq,hr'] at hx;rw [hr'] at hr;have hp:2^(n+1)=2^n+2^n:=by rw [Nat.pow_succ];omega
 have e1:2^(n+1)*q+r=2^(n+1)*q ||| r:=Nat.two_pow_add_eq_or_of_lt (by omega) q
 have e2:2^(n+1)*q+(2^n+r)=2^(n+1)*q ||| (2^n+r):=Nat.two_pow_add_eq_or_of_lt (by omega) q
 have e3:2^n*1+r=2^n*1 ||| r:=Nat.two_pow_add_eq_or_of_lt hr 1
 rw [Nat.mul_one] at e3;rw [hx,Nat.add_assoc,Nat.add_comm r,e2,e3,e1,Nat.or_assoc,Nat.or_comm (2^n) r]
theorem zjN {a b k:Nat}:a ||| b%2^(k+1)=if b.testBit k then (a ||| b%2^k) ||| 2^k else a ||| b%2^k:=by
 apply Nat.eq_of_testBit_eq;intro i;have e:(a ||| b%2^(k+1)).testBit i=(a.testBit i||(decide (i<k+1)&&b.testBit i)):=by rw [Nat.testBit_or,Nat.testBit_mod_two_pow]
 rw [e];have e2:(a ||| b%2^k).testBit i=(a.testBit i||(decide (i<k)&&b.testBit i)):=by rw [Nat.testBit_or,Nat.testBit_mod_two_pow]
 rcases Nat.lt_trichotomy i k with h | h | h
 ·have d1:decide (i<k+1)=true:=decide_eq_true (by omega);have d2:decide (i<k)=true:=decide_eq_true h;split
  ·rw [Nat.testBit_or,e2,Nat.testBit_two_pow,d1,d2,decide_eq_false (show ¬ k=i by omega)];simp
  ·rw [e2,d1,d2]
 ·subst h;have d1:decide (i<i+1)=true:=decide_eq_true (by omega);have d2:decide (i<i)=false:=decide_eq_false (by omega);split
  ·rename_i hb;rw [Nat.testBit_or,e2,Nat.testBit_two_pow,d1,d2,decide_eq_true rfl,hb];simp
  ·rename_i hb;rw [e2,d1,d2,show b.testBit i=false by simpa using hb];simp
 ·have d1:decide (i<k+1)=false:=decide_eq_false (by omega);have d2:decide (i<k)=false:=decide_eq_false (by omega);split
  ·rw [Nat.testBit_or,e2,Nat.testBit_two_pow,d1,d2,decide_eq_false (show ¬ k=i by omega)];simp
  ·rw [e2,d1,d2]
end Cs
namespace Go.Proofs.YtmhllppjcilllaaGreatDoor
theorem zdP (w:World) (s n:Nat) (hn:n<128):Calls Tryz.prog 107 #[qm s,.int .i64 ((n:Int)+1)] w fun e w'=>e = .returned (qm (s ||| 2^n))∧Below w.heap.size w w':=by
 have hh:=fun W=>ze3 W s ((n:Int)+1);have hb:gZ s ((n:Int)+1)=s.testBit n:=by rw [ze2 s _ (by omega) (by omega)];congr 1
 simp only [hb] at hh;have hq0:((w.alloc (.cells #[.int .u64 (lo s:Int),.int .u64 (hi s:Int)] 96)).alloc (.cells #[.int .u64 0,.int .u64 0] 96)).rowIs w.heap.size 96 2 (pJ s):=(setNew w s _ _ rfl).alloc _;have hr0:((w.alloc (.cells #[.int .u64 (lo s:Int),.int .u64 (hi s:Int)] 96)).alloc (.cells #[.int .u64 0,.int .u64 0] 96)).rowIs (w.heap.size+1) 96 2 (pJ 0):=zdS _ _ _ (by simp);have hbl:Below w.heap.size w ((w.alloc (.cells #[.int .u64 (lo s:Int),.int .u64 (hi s:Int)] 96)).alloc (.cells #[.int .u64 0,.int .u64 0] 96)):=((zx _ _).alloc (zu _) _).alloc (by simp) _;clear hb;cases hb:s.testBit n
 ·simp only [hb] at hh;have HH:=zb hh;clear hh;by_cases h64:n<64
  ·have hq:(n:Int) / 64=0:=by omega
   have hr:(n:Int)%64=(n:Int):=by omega
   have e3:=zcT n h64;have hl:lo (s ||| 2^n)=lo s+2^n:=by
    rw [zko,zfL,if_pos h64,oF (by rw [jO,decide_eq_true h64,hb];rfl)]
   have hh2:hi (s ||| 2^n)=hi s:=by rw [zkv,zfQ n hn,if_pos h64,Nat.or_zero]
   have hlt:=yO (s ||| 2^n);rw [hl] at hlt;obtain ⟨P,hP⟩:∃ P,2^n=P:=⟨_,rfl⟩;have e3':IntKind.u64.wrap (2^n)=(P:Int):=by rw [e3,hP]
   have hsum:IntKind.u64.wrap ((lo s:Int)+(P:Int))=((lo s+P:Nat):Int):=by
    rw [hP] at hlt;rw [show (lo s:Int)+(P:Int)=((lo s+P:Nat):Int) by simp];exact IntWalk.u64_in _ (by omega)
   have HL:=zb hl;have HR:=zb hh2;have HP:=zb hP;clear hl hh2 e3 hP hb hlt;go_enter Tryz.func107, Tryz.ntmps107;obtain ⟨c1,c2,f1,f2⟩:=yF hq0;go_wp2_with fail
   refine (HH.out _).mono ?_;rintro e w5 ⟨rfl,hb5⟩;have q5:=zo hq0 hb5;have r5:=zo hr0 hb5;have hbl5:=zw hbl hb5 hbl.size;clear c1 c2 f1 f2;obtain ⟨c1,c2,f1,f2⟩:=yF q5;obtain ⟨d1,d2,g1,g2⟩:=yF r5;go_wp2;refine pR rfl (s ||| 2^n) rfl (((r5.setOther (by simp) _).set 0 _).set 1 _) (by rw [HL.out,HP.out];rfl) (by rw [HR.out];rfl) rfl ⟨rfl,?_⟩;exact ((hbl5.setCell (zu _) _).setCell (by simp) _).setCell (by simp) _
  ·have hq:(n:Int) / 64=1:=by omega
   have hr:(n:Int)%64=(n:Int)-64:=by omega
   have i0:(0:Int)≤(n:Int)-64:=by omega
   have i1:(n:Int)-64<64:=by omega
   have e3:=zcT (n-64) (by omega);have hh2:hi (s ||| 2^n)=hi s+2^(n-64):=by
    rw [zkv,zfQ n hn,if_neg h64,oF (by rw [jN,decide_eq_true (by omega),show n-64+64=n by omega,hb];rfl)]
   have hl:lo (s ||| 2^n)=lo s:=by rw [zko,zfL,if_neg h64,Nat.or_zero]
   have hlt:=yN (s ||| 2^n);rw [hh2] at hlt;obtain ⟨P,hP⟩:∃ P,2^(n-64)=P:=⟨_,rfl⟩;have e3':IntKind.u64.wrap (2^(n-64))=(P:Int):=by rw [e3,hP]
   have hsum:IntKind.u64.wrap ((hi s:Int)+(P:Int))=((hi s+P:Nat):Int):=by
    rw [hP] at hlt;rw [show (hi s:Int)+(P:Int)=((hi s+P:Nat):Int) by simp];exact IntWalk.u64_in _ (by omega)
   have HL:=zb hl;have HR:=zb hh2;have HP:=zb hP;clear hl hh2 e3 hP hb hlt;go_enter Tryz.func107, Tryz.ntmps107;obtain ⟨c1,c2,f1,f2⟩:=yF hq0;go_wp2_with fail
   refine (HH.out _).mono ?_;rintro e w5 ⟨rfl,hb5⟩;have q5:=zo hq0 hb5;have r5:=zo hr0 hb5;have hbl5:=zw hbl hb5 hbl.size;clear c1 c2 f1 f2;obtain ⟨c1,c2,f1,f2⟩:=yF q5;obtain ⟨d1,d2,g1,g2⟩:=yF r5;go_wp2;refine pR rfl (s ||| 2^n) rfl (((r5.setOther (by simp) _).set 0 _).set 1 _) (by rw [HL.out];rfl) (by rw [HR.out,HP.out];rfl) rfl ⟨rfl,?_⟩;exact ((hbl5.setCell (zu _) _).setCell (by simp) _).setCell (by simp) _
 ·simp only [hb] at hh;have HH:=zb hh;have e:s ||| 2^n=s:=by
   apply Nat.eq_of_testBit_eq;intro i;rw [Nat.testBit_or,Nat.testBit_two_pow];by_cases h:n=i
   ·subst h;simp [hb]
   ·simp [h]
  rw [e];clear hh e hb;go_enter Tryz.func107, Tryz.ntmps107;obtain ⟨c1,c2,f1,f2⟩:=yF hq0;go_wp2_with fail
  refine (HH.out _).mono ?_;rintro e w5 ⟨rfl,hb5⟩;have q5:=zo hq0 hb5;have r5:=zo hr0 hb5;have hbl5:=zw hbl hb5 hbl.size;clear c1 c2 f1 f2;obtain ⟨c1,c2,f1,f2⟩:=yF q5;obtain ⟨d1,d2,g1,g2⟩:=yF r5;go_wp2;exact pR rfl s rfl (zeJ r5 s) rfl rfl rfl ⟨rfl,(hbl5.setCell (by simp) _).setCell (by simp) _⟩
end Go.Proofs.YtmhllppjcilllaaGreatDoor
end
section
open Go Go.RowKit Cs
namespace Cs
theorem set_mod {b:Nat} (hb:qD b):b%2^128=b:=Nat.mod_eq_of_lt (show b<2^128 by unfold qD at hb;omega)
theorem has_nat (s n:Nat) (hn:n<128):gZ s ((n:Int)+1)=s.testBit n:=by rw [ze2 s _ (by omega) (by omega)];congr 1
end Cs
namespace Go.Proofs.YtmhllppjcilllaaGreatDoor
theorem unionBag {w wr:World} {b Y Z:Nat} (q:Bag w w w.heap.size [(w.heap.size+1+1, 96,2,#[.int .u64 0,.int .u64 0]),(w.heap.size+1, 96,2,#[.int .u64 (lo b:Int),.int .u64 (hi b:Int)]),(w.heap.size, 96,2,#[.int .u64 (lo Y:Int),.int .u64 (hi Y:Int)])] wr) :
  Bag w w w.heap.size [(w.heap.size+1+1, 96,2,#[.int .u64 0,.int .u64 0]),(w.heap.size+1, 96,2,#[.int .u64 (lo b:Int),.int .u64 (hi b:Int)]),(w.heap.size, 96,2,#[.int .u64 (lo Z:Int),.int .u64 (hi Z:Int)])] ((wr.setCell ⟨w.heap.size,0,none⟩ (.int .u64 (lo Z:Int))).setCell ⟨w.heap.size,1,none⟩ (.int .u64 (hi Z:Int))):=by
 have q0:Bag w w w.heap.size [] ((wr.setCell ⟨w.heap.size,0,none⟩ (.int .u64 (lo Z:Int))).setCell ⟨w.heap.size,1,none⟩ (.int .u64 (hi Z:Int))):=(q.tail.tail.tail.other (zu _) (fun r h=>by cases h) 0 _).other (zu _) (fun r h=>by cases h) 1 _;exact ((q0.cons (qx q.tail.tail.row0 _ _)).cons ((q.tail.row0.setOther (by simp) _).setOther (by simp) _)).cons ((q.row0.setOther (by simp <;> omega) _).setOther (by simp <;> omega) _)
theorem zhV (w:World) (a b:Nat) (hb:qD b):Calls Tryz.prog 142 #[qm a,qm b] w fun e w'=>e = .returned (qm (a ||| b))∧Below w.heap.size w w':=by
 have hq0:=((((Bag.start (Below.refl _ w)).new #[.int .u64 (lo a:Int),.int .u64 (hi a:Int)] 96 w.heap.size 2 rfl rfl).new #[.int .u64 (lo b:Int),.int .u64 (hi b:Int)] 96 (w.heap.size+1) 2 (by simp) rfl).new #[.int .u64 0,.int .u64 0] 96 (w.heap.size+1+1) 2 (by simp) rfl);have hst:∀ k,a ||| b%2^(k+1)=if b.testBit k then (a ||| b%2^k) ||| 2^k else a ||| b%2^k:=fun k=>zjN
 have he:=set_mod hb;have HST:=zb hst;have HE:=zb he;clear hst he hb;go_enter Tryz.func142, Tryz.ntmps142;go_wp2;go_loopw [5] (fun t wr=>∃ k:Nat,k≤128∧t = .int .i64 ((k:Int)+1)∧Bag w w w.heap.size [(w.heap.size+1+1, 96,2,#[.int .u64 0,.int .u64 0]),(w.heap.size+1, 96,2,#[.int .u64 (lo b:Int),.int .u64 (hi b:Int)]),(w.heap.size, 96,2,#[.int .u64 (lo (a ||| b%2^k):Int),.int .u64 (hi (a ||| b%2^k):Int)])] wr) (fun t _=>129-(intOf t).toNat)
 case atStart=>exact ⟨0,by omega,rfl,by rw [Nat.pow_zero,Nat.mod_one,Nat.or_zero];exact hq0⟩
 case round =>
  clear hq0;obtain ⟨k,hk,rfl,q⟩:=hrel;have hs:=HST.out k;obtain ⟨Y,hY⟩:∃ Y,a ||| b%2^k=Y:=⟨_,rfl⟩;rw [hY] at hs q;by_cases hlt:k<128
  ·have hh:=fun W=>ze3 W b ((k:Int)+1);simp only [has_nat b k hlt] at hh;have b1:=q.tail.is0 0 (by decide) (.int .u64 (lo b:Int)) rfl;have b2:=q.tail.is0 1 (by decide) (.int .u64 (hi b:Int)) rfl;cases hb:b.testBit k
   ·rw [hb,if_neg (by decide)] at hs;simp only [hb] at hh;have HH:=zb hh;have HS:=zb hs;clear hh hs hb hY;go_wp2_with fail
    refine (HH.out _).mono ?_;rintro e w5 ⟨rfl,hb5⟩;go_wp2;go_roundw
    case rel=>exact ⟨k+1,by omega,by go_num,by rw [HS.out];exact q.below hb5⟩
    case measure=>simp [intOf];omega
   ·rw [hb,if_pos rfl] at hs;simp only [hb] at hh;have hwi:=fun W=>zdP W Y k hlt;have HH:=zb hh;have HS:=zb hs;have HW:=zb hwi;clear hh hs hb hY hwi;go_wp2_with fail
    refine (HH.out _).mono ?_;rintro e w5 ⟨rfl,hb5⟩;have q5:=q.below hb5;have a1:=q5.tail.tail.is0 0 (by decide) (.int .u64 (lo Y:Int)) rfl;have a2:=q5.tail.tail.is0 1 (by decide) (.int .u64 (hi Y:Int)) rfl;clear b1 b2 q;go_wp2_with fail
    refine (HW.out _).mono ?_;rintro e w6 ⟨rfl,hb6⟩;have q6:=q5.below hb6;have f1:=q6.tail.tail.row0.frozen 0;have f2:=q6.tail.tail.row0.frozen 1;clear a1 a2 q5;have a1:=q6.tail.tail.is0 0 (by decide) (.int .u64 (lo Y:Int)) rfl;have a2:=q6.tail.tail.is0 1 (by decide) (.int .u64 (hi Y:Int)) rfl;go_wp2;go_roundw
    case rel =>
     refine ⟨k+1,by omega,by go_num,?_⟩;rw [HS.out];exact unionBag q6
    case measure=>simp [intOf];omega
  ·obtain rfl:k=128:=by omega
   rw [HE.out] at hY;subst hY;have a1:=q.tail.tail.is0 0 (by decide) (.int .u64 (lo (a ||| b):Int)) rfl;have a2:=q.tail.tail.is0 1 (by decide) (.int .u64 (hi (a ||| b):Int)) rfl;have r1:=q.is0 0 (by decide) (.int .u64 0) rfl;have r2:=q.is0 1 (by decide) (.int .u64 0) rfl;have f1:=q.row0.frozen 0;have f2:=q.row0.frozen 1;clear hs;go_wp2;exact pR rfl (a ||| b) rfl (zeJ q.row0 _) rfl rfl rfl ⟨rfl,(q.bl.setCell (by simp <;> omega) _).setCell (by simp <;> omega) _⟩
end Go.Proofs.YtmhllppjcilllaaGreatDoor
end
section
open Go Go.RowKit Cs
namespace Cs
def pX (before:Int) (i:Int):Bool:=decide (i<0)||decide (before≤i)
theorem zkx {x:Nd} {n b:Int} (h:x.ins.any (pX b)=true):qk x n b=false:=by unfold qk;exact if_pos h
theorem zhA {x:Nd} {n b:Int} (h:x.kind<0∨4<x.kind):qk x n b=false:=by
 unfold qk;by_cases h1:x.ins.any (fun i=>decide (i<0)||decide (b≤i))=true
 ·rw [if_pos h1]
 ·rw [if_neg h1,if_neg (by omega),if_neg (by omega),if_neg (by omega)]
theorem zfS {x:Nd} {n b:Int} (h:x.kind≠2) (hl:x.lit≠0):qk x n b=false:=by
 unfold qk;by_cases h1:x.ins.any (fun i=>decide (i<0)||decide (b≤i))=true
 ·rw [if_pos h1]
 ·rw [if_neg h1];by_cases h2:x.kind=0∨x.kind=1
  ·rw [if_pos h2,decide_eq_false hl];rfl
  ·rw [if_neg h2,if_neg h];by_cases h3:x.kind=3∨x.kind=4
   ·rw [if_pos h3,decide_eq_false hl]
   ·rw [if_neg h3]
theorem zkw {x:Nd} {n b:Int} (h:x.kind=2) (hl:qh x.lit n=false):qk x n b=false:=by
 unfold qk;by_cases h1:x.ins.any (fun i=>decide (i<0)||decide (b≤i))=true
 ·rw [if_pos h1]
 ·rw [if_neg h1,if_neg (by omega),if_pos h,hl];rfl
theorem zeb {x:Nd} {n b:Int} (h:x.kind<3) (hl:0<x.ins.length):qk x n b=false:=by
 unfold qk;by_cases h1:x.ins.any (fun i=>decide (i<0)||decide (b≤i))=true
 ·rw [if_pos h1]
 ·rw [if_neg h1];have e:decide (x.ins.length=0)=false:=decide_eq_false (by omega);by_cases h2:x.kind=0∨x.kind=1
  ·rw [if_pos h2,e,Bool.and_false]
  ·rw [if_neg h2];by_cases h3:x.kind=2
   ·rw [if_pos h3,e,Bool.and_false]
   ·rw [if_neg h3,if_neg (by omega)]
theorem zc4 {x:Nd} {n b:Int} (h:x.ins.any (pX b)=false) (hk:((x.kind=0∨x.kind=1)∧x.lit=0∧x.ins.length=0)∨(x.kind=2∧qh x.lit n=true∧x.ins.length=0)∨((x.kind=3∨x.kind=4)∧x.lit=0)):qk x n b=true:=by
 have h1:¬ x.ins.any (fun i=>decide (i<0)||decide (b≤i))=true:=by
  have:x.ins.any (fun i=>decide (i<0)||decide (b≤i))=false:=h;rw [this];decide
 unfold qk;rw [if_neg h1];rcases hk with ⟨a1,a2,a3⟩ | ⟨a1,a2,a3⟩ | ⟨a1,a2⟩
 ·rw [if_pos a1,a2,a3];rfl
 ·rw [if_neg (by omega),if_pos a1,a2,a3];rfl
 ·rw [if_neg (by omega),if_neg (by omega),if_pos a1,a2];rfl
end Cs
namespace Go.Proofs.YtmhllppjcilllaaGreatDoor
theorem zdn (w:World) (N:Nt) (A:Option Addr) (c:Nat) (hlen:N.l.length≤140737488355328) (hN:NtAt w w.heap.size A N.l) :
  Calls Tryz.prog 51 #[qg N A c] w fun e w'=>e = .returned (.bool (zG N))∧Below w.heap.size w w':=by
 obtain ⟨n,l⟩:=N;simp only at hlen hN;have hbl:Below w.heap.size w (w.alloc (.cells #[.int .i64 n,.slice A l.length c] 24)):=(zx _ _).alloc (zu _) _;have hbx:=yQ w ⟨n,l⟩ A c 24 _ rfl;obtain ⟨c1,c2⟩:=qy hbx;simp only at c1 c2;by_cases hb:0≤n∧n≤128∧1≤l.length∧l.length≤65536
 ·obtain ⟨h1,h2,h3,h4⟩:=hb;obtain ⟨B,hB⟩:∃ B,zG ⟨n,l⟩=B:=⟨_,rfl⟩;have hv:zG ⟨n,l⟩=qR n 0 l:=by unfold zG;simp [h1,h2,h3,h4]
  have hbad:∀ k (hk:k<l.length),qk l[k] n (k:Int)=false→B=false:=fun k hk hf=>by
   rw [← hB];cases hv2:zG ⟨n,l⟩
   ·rfl
   ·have:=jn hv2 k hk;rw [show (⟨n,l⟩:Nt).l[k]=l[k] from rfl] at this;rw [hf] at this;cases this
  have hgo:qR n 0 l=true→B=true:=fun h=>by rw [← hB,hv,h]
  rw [hB];have HBAD:=zb hbad;have HGO:=zb hgo;have hz0:((l.length:Int)==0)=false:=beq_eq_false_iff_ne.2 (by omega);clear hB hv hbad hgo;go_enter Tryz.func51, Tryz.ntmps51;go_wp2_with fail
  go_loopw [3] (fun t wr=>∃ k:Nat,k≤l.length∧t = .int .i64 (k:Int)∧Hid (qR n 0 (l.take k)=true)∧wr.rowIs w.heap.size 24 2 (gL ⟨n,l⟩ A c)∧Below w.heap.size w wr) (fun t _=>l.length-(intOf t).toNat)
  case atStart=>exact ⟨0,by omega,rfl,rfl,hbx,hbl⟩
  case round =>
   clear hbx hbl c1 c2;obtain ⟨k,hk,rfl,HA,hbx,hbl⟩:=hrel;obtain ⟨c1,c2⟩:=qy hbx;simp only at c1 c2;by_cases hlt:k<l.length
   ·obtain ⟨b,o,rfl,hbB,hcs⟩:=hN (by omega);have hnd:=hcs k hlt;clear hcs;have hbd:=HBAD.out k hlt;have hst:=zbN n l k hlt;rw [HA.out,Bool.true_and] at hst;obtain ⟨x,hx⟩:∃ x,l[k]=x:=⟨_,rfl⟩;rw [hx] at hnd hbd hst;obtain ⟨hk1,hk2,⟨A',c',hk3,hrd⟩,hr1,hr2,hr3,hr4⟩:=hnd;replace hk1:=zB hbl hbB hk1;replace hk2:=zB hbl hbB hk2;replace hk3:=zB hbl hbB hk3;have HRD:=zb (hrd.below hbl);have HBD:=zb hbd;have HST:=zb hst;have hz:=hbx.lt;clear hrd hbd hst hx hr3;obtain ⟨kd,lt,ins⟩:=x;simp only at hk1 hk2 hk3 hr1 hr2 hr4 HRD;have hkd:(kd<0∨4<kd)∨(kd=0∨kd=1)∨kd=2∨(kd=3∨kd=4):=by omega
    rcases hkd with hkd | hkd | hkd | hkd
    ·have h:=HBD.out (zhA hkd);have H:=zb h;clear h;rcases hkd with hkd | hkd
     ·go_wp2;go_ret;exact ⟨by rw [H.out];try rfl,hbl.alloc hbl.size _⟩
     ·have hkn:¬ kd<0:=by omega
      go_wp2;go_ret;exact ⟨by rw [H.out];try rfl,hbl.alloc hbl.size _⟩
    ·by_cases hlt0:lt=0
     ·subst hlt0;rcases hkd with rfl | rfl
      ·by_cases hln:0<ins.length
       ·have h:=HBD.out (zeb (by show 0<3;omega) hln);have H:=zb h;have hli:decide ((0:Int)<(ins.length:Int))=true:=decide_eq_true (by omega);clear h;go_wp2;go_ret;exact ⟨by rw [H.out];try rfl,hbl.alloc hbl.size _⟩
       ·have hl0:ins.length=0:=by omega
        have h:=HST.out.trans (zc4 (by rw [List.eq_nil_of_length_eq_zero hl0];rfl) (.inl ⟨by first | exact .inl rfl | exact .inr rfl,rfl,hl0⟩));have H:=zb h;have hli:decide ((0:Int)<(ins.length:Int))=false:=decide_eq_false (by omega);have hln2:¬ (0:Int)<(ins.length:Int):=by omega
        clear h;obtain ⟨W0,rfl⟩:∃ W0,W0=wr:=⟨wr,rfl⟩;go_wp2_with fail
        go_loopw [5] (fun t wq=>t = .int .i64 0∧wq=W0.alloc (.cells #[.int .i64 0,.int .i64 0,.slice A' 0 c'] 66)) (fun t _=>0)
        case atStart=>exact ⟨rfl,rfl⟩
        case round =>
         obtain ⟨rfl,rfl⟩:=hrel;go_wp2;go_roundw
         case rel=>exact ⟨k+1,by omega,by go_num,H.out,hbx.alloc _,hbl.alloc hbl.size _⟩
         case measure=>simp [intOf];omega
      ·by_cases hln:0<ins.length
       ·have h:=HBD.out (zeb (by show 1<3;omega) hln);have H:=zb h;have hli:decide ((0:Int)<(ins.length:Int))=true:=decide_eq_true (by omega);clear h;go_wp2;go_ret;exact ⟨by rw [H.out];try rfl,hbl.alloc hbl.size _⟩
       ·have hl0:ins.length=0:=by omega
        have h:=HST.out.trans (zc4 (by rw [List.eq_nil_of_length_eq_zero hl0];rfl) (.inl ⟨by first | exact .inl rfl | exact .inr rfl,rfl,hl0⟩));have H:=zb h;have hli:decide ((0:Int)<(ins.length:Int))=false:=decide_eq_false (by omega);have hln2:¬ (0:Int)<(ins.length:Int):=by omega
        clear h;obtain ⟨W0,rfl⟩:∃ W0,W0=wr:=⟨wr,rfl⟩;go_wp2_with fail
        go_loopw [5] (fun t wq=>t = .int .i64 0∧wq=W0.alloc (.cells #[.int .i64 1,.int .i64 0,.slice A' 0 c'] 66)) (fun t _=>0)
        case atStart=>exact ⟨rfl,rfl⟩
        case round =>
         obtain ⟨rfl,rfl⟩:=hrel;go_wp2;go_roundw
         case rel=>exact ⟨k+1,by omega,by go_num,H.out,hbx.alloc _,hbl.alloc hbl.size _⟩
         case measure=>simp [intOf];omega
     ·have h:=HBD.out (zfS (by show kd≠2;omega) hlt0);have H:=zb h;clear h;have hl1:(lt != 0)=true:=bne_iff_ne.2 hlt0;rcases hkd with rfl | rfl
      all_goals
       go_wp2;go_ret;exact ⟨by rw [H.out];try rfl,hbl.alloc hbl.size _⟩
    ·subst hkd;have hlv:=fun W=>zf2 W lt n h1 h2;cases hlo:qh lt n
     ·have h:=HBD.out (zkw rfl hlo);rw [hlo] at hlv;have H:=zb h;have HLV:=zb hlv;clear h hlv hlo;go_wp2_with fail
      refine (HLV.out _).mono ?_;rintro e w5 ⟨rfl,rfl⟩;go_wp2;go_ret;exact ⟨by rw [H.out];try rfl,hbl.alloc hbl.size _⟩
     ·rw [hlo] at hlv;have HLV:=zb hlv;have HLO:=zb hlo;clear hlv hlo;by_cases hln:0<ins.length
      ·have h:=HBD.out (zeb (by show 2<3;omega) hln);have H:=zb h;have hli:decide ((0:Int)<(ins.length:Int))=true:=decide_eq_true (by omega);clear h;go_wp2_with fail
       refine (HLV.out _).mono ?_;rintro e w5 ⟨rfl,rfl⟩;go_wp2;go_ret;exact ⟨by rw [H.out];try rfl,hbl.alloc hbl.size _⟩
      ·have hl0:ins.length=0:=by omega
       have h:=HST.out.trans (zc4 (by rw [List.eq_nil_of_length_eq_zero hl0];rfl) (.inr (.inl ⟨rfl,HLO.out,hl0⟩)));have H:=zb h;have hli:decide ((0:Int)<(ins.length:Int))=false:=decide_eq_false (by omega);have hln2:¬ (0:Int)<(ins.length:Int):=by omega
       clear h;obtain ⟨W0,rfl⟩:∃ W0,W0=wr:=⟨wr,rfl⟩;go_wp2_with fail
       refine (HLV.out _).mono ?_;rintro e w5 ⟨rfl,rfl⟩;go_wp2_with fail
       go_loopw [5] (fun t wq=>t = .int .i64 0∧wq=W0.alloc (.cells #[.int .i64 2,.int .i64 lt,.slice A' 0 c'] 66)) (fun t _=>0)
       case atStart=>exact ⟨rfl,rfl⟩
       case round =>
        obtain ⟨rfl,rfl⟩:=hrel;go_wp2;go_roundw
        case rel=>exact ⟨k+1,by omega,by go_num,H.out,hbx.alloc _,hbl.alloc hbl.size _⟩
        case measure=>simp [intOf];omega
    ·by_cases hlt0:lt=0
     ·subst hlt0;have hgd:ins.any (pX (k:Int))=false→qR n 0 (l.take (k+1))=true:=fun h=>HST.out.trans (zc4 h (.inr (.inr ⟨hkd,rfl⟩)));have hba:ins.any (pX (k:Int))=true→B=false:=fun h=>HBD.out (zkx h);have HGD:=zb hgd;have HBA:=zb hba;clear hgd hba HST HBD;obtain ⟨W0,rfl⟩:∃ W0,W0=wr:=⟨wr,rfl⟩;rcases hkd with rfl | rfl
      all_goals
       go_wp2_with fail
       go_loopw [5] (fun t wq=>∃ j:Nat,j≤ins.length∧t = .int .i64 (j:Int)∧Hid ((ins.take j).any (pX (k:Int))=false)∧wq=W0.alloc (.cells #[.int .i64 _,.int .i64 0,.slice A' ins.length c'] 66)) (fun t _=>ins.length-(intOf t).toNat)
       case atStart=>exact ⟨0,by omega,rfl,rfl,rfl⟩
       case round =>
        obtain ⟨j,hj,rfl,HJ,rfl⟩:=hrel;by_cases hjl:j<ins.length
        ·obtain ⟨b',o',rfl,hbB',hcs⟩:=HRD.out (by omega);have hc:=hcs j hjl;clear hcs;have hsz:=hbl.size;have hlt':b'<W0.heap.size:=by omega
         have ht:ins.take (j+1)=ins.take j++[ins[j]]:=List.take_succ_eq_append_getElem hjl;have hmem:ins[j]∈ins:=List.getElem_mem hjl;have hii:zO ins j = .int .i64 ins[j]:=by unfold zO;rw [List.getD_eq_getElem?_getD,List.getElem?_eq_getElem hjl];rfl
         rw [hii] at hc;obtain ⟨y,hy⟩:∃ y,ins[j]=y:=⟨_,rfl⟩;rw [hy] at hc ht hmem;have hbad:pX (k:Int) y=true→B=false:=fun h=>HBA.out (List.any_eq_true.2 ⟨y,hmem,h⟩);have hnx:pX (k:Int) y=false→(ins.take (j+1)).any (pX (k:Int))=false:=fun h=>by rw [ht,List.any_append,HJ.out];simp [h]
         have HB2:=zb hbad;have HNX:=zb hnx;clear hii hy ht hmem hbad hnx;by_cases h1':y<0
         ·have h:=HB2.out (by unfold pX;rw [decide_eq_true h1'];rfl);have H:=zb h;clear h;go_wp2;go_ret;exact ⟨by rw [H.out];try rfl,hbl.alloc hbl.size _⟩
         ·by_cases h2':(k:Int)≤y
          ·have h:=HB2.out (by unfold pX;rw [decide_eq_true h2'];simp);have H:=zb h;clear h;go_wp2;go_ret;exact ⟨by rw [H.out];try rfl,hbl.alloc hbl.size _⟩
          ·have h:=HNX.out (by unfold pX;rw [decide_eq_false h1',decide_eq_false h2'];rfl);have H:=zb h;clear h;go_wp2;go_roundw
           case rel=>exact ⟨j+1,by omega,by go_num,H.out,by first | trivial | rfl⟩
           case measure=>simp [intOf];omega
        ·obtain rfl:j=ins.length:=by omega
         have h:=HGD.out (by have:=HJ.out;rwa [List.take_length] at this);have H:=zb h;clear h;go_wp2;go_roundw
         case rel=>exact ⟨k+1,by omega,by go_num,H.out,hbx.alloc _,hbl.alloc hbl.size _⟩
         case measure=>simp [intOf];omega
     ·have h:=HBD.out (zfS (by show kd≠2;omega) hlt0);have H:=zb h;clear h;have hl1:(lt != 0)=true:=bne_iff_ne.2 hlt0;rcases hkd with rfl | rfl
      all_goals
       go_wp2;go_ret;exact ⟨by rw [H.out];try rfl,hbl.alloc hbl.size _⟩
   ·obtain rfl:k=l.length:=by omega
    have h:=HGO.out (by have:=HA.out;rwa [List.take_length] at this);have H:=zb h;clear h;go_wp2;go_ret;exact ⟨by rw [H.out];try rfl,hbl⟩
 ·have hv:zG ⟨n,l⟩=false:=by unfold zG;rw [decide_eq_false (by simpa using hb)];rfl
  rw [hv];clear hv;by_cases h1:n<0
  ·clear hb;go_enter Tryz.func51, Tryz.ntmps51;go_wp2;go_ret;exact ⟨rfl,hbl⟩
  ·by_cases h2:128<n
   ·clear hb;go_enter Tryz.func51, Tryz.ntmps51;go_wp2;go_ret;exact ⟨rfl,hbl⟩
   ·by_cases h3:l.length=0
    ·have hi3:((l.length:Int)==0)=true:=by rw [h3];rfl
     have H3:=zb h3;clear hb h3;go_enter Tryz.func51, Tryz.ntmps51;go_wp2;go_ret;exact ⟨rfl,hbl⟩
    ·have h4:65536<l.length:=by omega
     have hi3:((l.length:Int)==0)=false:=beq_eq_false_iff_ne.2 (by omega);clear hb;go_enter Tryz.func51, Tryz.ntmps51;go_wp2;go_ret;exact ⟨rfl,hbl⟩
end Go.Proofs.YtmhllppjcilllaaGreatDoor
end
end
section
set_option maxRecDepth 100000
set_option maxHeartbeats 2000000
open Go Go.RowKit Cs
namespace Cs
def jL (N:Nt) (lt:Nat):Bool:=zek N 40&&decide (lt≤140)&&(decide (N.n≤8) || !zG N)
end Cs
namespace Go.Proofs.YtmhllppjcilllaaGreatDoor
theorem jR {W:World} {g:Nat} {t:TypeId} {a b c d:Value} (h:W.rowIs g t 4 (zy #[a,b,c,d])):W.cell? ⟨g,0,none⟩=some a∧W.cell? ⟨g,1,none⟩=some b∧W.cell? ⟨g,2,none⟩=some c∧W.cell? ⟨g,3,none⟩=some d :=
 ⟨h.cell (i:=0) (by decide),h.cell (i:=1) (by decide),h.cell (i:=2) (by decide),h.cell (i:=3) (by decide)⟩
theorem light40 (w:World) (N:Nt) (A:Option Addr) (c:Nat) (hlen:N.l.length≤140737488355328) (hN:NtAt w w.heap.size A N.l) :
  Calls Tryz.prog 43 #[qg N A c,.int .i64 40] w fun e w'=>e = .returned (.bool (zek N 40))∧Below w.heap.size w w':=x4 w N A c 40 hlen hN (by decide)
theorem zcn (w:World) (N:Nt) (A:Option Addr) (c:Nat) (Aw:Option Addr) (lw cw:Nat) (At:Option Addr) (lt ct:Nat) (hlen:N.l.length≤140737488355328) (hN:NtAt w w.heap.size A N.l) :
  Calls Tryz.prog 14 #[yu N A c Aw lw cw At lt ct] w fun e w'=>e = .returned (.bool (jL N lt))∧Below w.heap.size w w':=by
 have hr:=zF w #[.int .i64 N.n,.slice A N.l.length c,.slice Aw lw cw,.slice At lt ct] 28 w.heap.size 4 rfl rfl;have hb:=(Below.refl w.heap.size w).alloc (zu _) (.cells #[.int .i64 N.n,.slice A N.l.length c,.slice Aw lw cw,.slice At lt ct] 28);have hL:∀ W,Below w.heap.size w W→_:=fun W h=>light40 W N A c hlen ((hN.below h).more h.size);have hV:∀ W,Below w.heap.size w W→_:=fun W h=>zdn W N A c hlen ((hN.below h).more h.size);have hB:jL N lt=(zek N 40&&decide (lt≤140)&&(decide (N.n≤8) || !zG N)):=rfl;obtain ⟨R,hR⟩:∃ R,jL N lt=R:=⟨_,rfl⟩;rw [hR] at hB ⊢;clear hR;obtain ⟨e0,e1,e2,e3⟩:=jR hr;obtain ⟨L,hLL⟩:∃ L,zek N 40=L:=⟨_,rfl⟩;obtain ⟨V,hVV⟩:∃ V,zG N=V:=⟨_,rfl⟩;rw [hLL] at hB hL;rw [hVV] at hB hV;have HL:=zb hL;have HV:=zb hV;have HB:=zb hB;have BL:=zb hb;have HR:=zb hr;clear hL hV hB hb hr hN hlen hLL hVV;have fin:∀ W1 W2,Below w.heap.size w W1→Below W1.heap.size W1 W2→Below w.heap.size w W2:=fun W1 W2 h1 h2=>zw h1 h2 h1.size;have FI:=zb fin;clear fin;cases L with
 | false =>
   go_enter Tryz.func14, Tryz.ntmps14;go_wp2_with (go_at_call 43;(with_reducible refine (HL.out _ BL.out).mono ?_);rintro e w1 ⟨rfl,hb1⟩)
   go_ret;exact ⟨by rw [HB.out];rfl,FI.out _ _ BL.out hb1⟩
 | true =>
   by_cases h140:lt≤140
   ·have g1:decide ((lt:Int)≤140)=true:=decide_eq_true (by omega);by_cases h8:N.n≤8
    ·have g2:decide (N.n≤8)=true:=decide_eq_true h8;have HH:=zb h140;have H8:=zb h8;clear h140 h8;go_enter Tryz.func14, Tryz.ntmps14;go_wp2_with (go_at_call 43;(with_reducible refine (HL.out _ BL.out).mono ?_);rintro e w1 ⟨rfl,hb1⟩;obtain ⟨e4,e5,e6,e7⟩:=jR (zo HR.out hb1))
     go_ret;exact ⟨by rw [HB.out,decide_eq_true HH.out,decide_eq_true H8.out];rfl,FI.out _ _ BL.out hb1⟩
    ·have g2:decide (N.n≤8)=false:=decide_eq_false h8;have G2:=zb g2;have HH:=zb h140;have H8:=zb h8;clear h140 h8;go_enter Tryz.func14, Tryz.ntmps14;go_wp2_with (first
      | (go_at_call 43;(with_reducible refine (HL.out _ BL.out).mono ?_);rintro e w1 ⟨rfl,hb1⟩;have B1:=zb (FI.out _ _ BL.out hb1);obtain ⟨e4,e5,e6,e7⟩:=jR (zo HR.out hb1);clear hb1)
      | (go_at_call 51;(with_reducible refine (HV.out _ B1.out).mono ?_);rintro e w2 ⟨rfl,hb2⟩))
     go_ret;exact ⟨by rw [HB.out,decide_eq_true HH.out,G2.out];rfl,FI.out _ _ B1.out hb2⟩
   ·have g1:decide ((lt:Int)≤140)=false:=decide_eq_false (by omega);have G1:=zb (decide_eq_false h140);clear h140;go_enter Tryz.func14, Tryz.ntmps14;go_wp2_with (go_at_call 43;(with_reducible refine (HL.out _ BL.out).mono ?_);rintro e w1 ⟨rfl,hb1⟩;obtain ⟨e4,e5,e6,e7⟩:=jR (zo HR.out hb1))
    go_ret;exact ⟨by rw [HB.out,G1.out];rfl,FI.out _ _ BL.out hb1⟩
end Go.Proofs.YtmhllppjcilllaaGreatDoor
end
section
set_option maxRecDepth 100000
set_option maxHeartbeats 1000000
open Go Go.RowKit Cs
namespace Go.Proofs.YtmhllppjcilllaaGreatDoor
section
variable (w:World) (N:Nt) (A:Option Addr) (c cl ch ll lh:Nat) (Al Ah:Option Addr) (E:Int)
abbrev CkE:Prop:=∀ W,Below w.heap.size w W→Calls Tryz.prog 35 #[qg N A c,yJ Al Ah ll lh cl ch] W fun e w'=>e = .returned (.int .i64 E)∧Below W.heap.size W w'
theorem zhG (h0:E≠0) (hck:CkE w N A c cl ch ll lh Al Ah E) :
  Calls Tryz.prog 21 #[qg N A c,yJ Al Ah ll lh cl ch] w fun e w'=>e = .returned (.tuple #[.slice none 0 0,.slice none 0 0,.int .i64 E])∧Below w.heap.size w w':=by
 have q0:=((Bag.zero w).new #[.int .i64 N.n,.slice A N.l.length c] 24 w.heap.size 2 rfl rfl).new #[.slice Al ll cl,.slice Ah lh ch] 39 (w.heap.size+1) 2 (by simp) rfl;have hb0:(E==0)=false:=beq_eq_false_iff_ne.2 h0;have hb1:(E != 0)=true:=by simp [bne,hb0]
 have HCK:=zb hck;clear hck;go_enter Tryz.func21, Tryz.ntmps21;go_wp2_with (
  go_at_call 35;(with_reducible refine (HCK.out _ q0.bl).mono ?_);rintro e w5 ⟨rfl,hb5⟩;have q1:=q0.below hb5)
 go_ret3;exact ⟨rfl,q1.bl⟩
theorem xH (At:Option Addr) (tl ct:Nat) (hck:CkE w N A c cl ch ll lh Al Ah 1) :
  Calls Tryz.prog 23 #[qg N A c,yJ Al Ah ll lh cl ch,.slice At tl ct] w fun e w'=>e = .returned (.tuple #[zI 0 0,.int .i64 1])∧Below w.heap.size w w':=by
 have q0:=(((Bag.zero w).new #[.int .i64 N.n,.slice A N.l.length c] 24 w.heap.size 2 rfl rfl).new #[.slice Al ll cl,.slice Ah lh ch] 39 (w.heap.size+1) 2 (by simp) rfl).new #[.string ⟨#[]⟩,.string ⟨#[]⟩] 33 (w.heap.size+1+1) 2 (by simp) rfl;have HCK:=zb hck;clear hck;go_enter Tryz.func23, Tryz.ntmps23;go_wp2_with (
  go_at_call 35;(with_reducible refine (HCK.out _ q0.bl).mono ?_);rintro e w5 ⟨rfl,hb5⟩;have q1:=q0.below hb5;have hr:=q1.rows (w.heap.size+1+1, 33,2,#[.string ⟨#[]⟩,.string ⟨#[]⟩]) (by simp);have c0:w5.cell? ⟨w.heap.size+1+1,0,none⟩=some (.string ⟨#[]⟩):=hr.cell (i:=0) (by simp);have c1:w5.cell? ⟨w.heap.size+1+1,1,none⟩=some (.string ⟨#[]⟩):=hr.cell (i:=1) (by simp);have f0:=hr.frozen 0;have f1:=hr.frozen 1)
 exact ju rfl 0 0 rfl rfl (zet (qx hr _ _)) rfl ⟨rfl,(q1.bl.setCell (p:=⟨w.heap.size+1+1,0,none⟩) (by simp only;omega) _).setCell (p:=⟨w.heap.size+1+1,1,none⟩) (by simp only;omega) _⟩
end
end Go.Proofs.YtmhllppjcilllaaGreatDoor
end
