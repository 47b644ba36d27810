import Derived.Test.YtmhllppjcilllaaGreatDoorBq
import Derived.Test.YtmhllppjcilllaaGreatDoorB1
import Derived.Test.YtmhllppjcilllaaGreatDoorV1
import Derived.Test.YtmhllppjcilllaaGreatDoorN4
import Derived.Test.YtmhllppjcilllaaGreatDoorS1
import Derived.IntWalk
set_option linter.unusedSimpArgs false
set_option linter.unusedVariables false
set_option maxRecDepth 100000
set_option maxHeartbeats 2000000
section
open Go Go.RowKit Cs
namespace Cs
theorem has_bitI (s:Nat) (v:Int) (h1:1≤v) (h2:v≤128):has s v=s.testBit (v.toNat-1):=by unfold has;rw [decide_eq_true ⟨h1,h2⟩,Bool.true_and]
theorem bit_intI (x k:Nat):((((x:Nat):Int) / 2^k).tmod 2==1)=x.testBit k:=by
 have e:((x:Nat):Int) / 2^k=((x / 2^k:Nat):Int):=by rw [Int.natCast_ediv,Int.natCast_pow];rfl
 have e2:(((x / 2^k:Nat):Int)).tmod 2=((x / 2^k%2:Nat):Int):=(Int.ofNat_tmod _ 2).symm;rw [e,e2,Nat.testBit_eq_decide_div_mod_eq,Bool.eq_iff_iff];simp;omega
end Cs
namespace Go.Proofs.YtmhllppjcilllaaGreatDoor
theorem has5_any (w:World) (s:Nat) (v:Int):Calls Tryz.prog 145 #[setV s,.int .i64 v] w fun e w'=>e = .returned (.bool (has s v))∧Below w.heap.size w w':=by
 have hbl:Below w.heap.size w (w.alloc (.cells #[.int .u64 (lo s:Int),.int .u64 (hi s:Int)] 96)):=(zqr _ _).alloc (zqn _) _;have l1:=lo_lt s;have l2:=hi_lt s;by_cases hv:1≤v∧v≤128
 ·obtain ⟨hv1,hv2⟩:=hv;obtain ⟨n,rfl⟩:∃ n:Nat,v=(n:Int)+1:=⟨(v-1).toNat,by omega⟩
  have hh:has s ((n:Int)+1)=s.testBit n:=by rw [has_bitI s _ hv1 hv2];congr 1
  rw [hh];clear hh;have hlo:=lo_bit s n;have hhi:=hi_bit s (n-64);rcases Nat.lt_or_ge n 64 with h | h
  ·have hq:(n:Int) / 64=0:=by omega
   have hr:(n:Int)%64=(n:Int):=by omega
   have hb:=bit_intI (lo s) n;rw [hlo,decide_eq_true h,Bool.true_and] at hb;have HB:=zqh hb;clear hlo hhi hb
   go_enter Tryz.func145, Tryz.ntmps145
   go_wp2
   go_ret
   exact ⟨congrArg (fun b=>Ending.returned (.bool b)) HB.out,hbl⟩
  ·have hq:(n:Int) / 64=1:=by omega
   have hr:(n:Int)%64=(n:Int)-64:=by omega
   have i0:(0:Int)≤(n:Int)-64:=by omega
   have i1:(n:Int)-64<64:=by omega
   have hb:=bit_intI (hi s) (n-64);rw [hhi,show n-64+64=n by omega,decide_eq_true (by omega),Bool.true_and] at hb;have HB:=zqh hb;clear hlo hhi hb
   go_enter Tryz.func145, Tryz.ntmps145
   go_wp2
   go_ret
   exact ⟨congrArg (fun b=>Ending.returned (.bool b)) HB.out,hbl⟩
 ·have hh:has s v=false:=by unfold has;rw [decide_eq_false hv];rfl
  rw [hh];clear hh;rcases Int.lt_or_le v 1 with h | h
  ·have hd:decide (1≤v)=false:=decide_eq_false (by omega);clear hv
   go_enter Tryz.func145, Tryz.ntmps145
   go_wp2
   go_ret
   exact ⟨rfl,hbl⟩
  ·have hd:decide (v≤128)=false:=decide_eq_false (by omega);clear hv
   go_enter Tryz.func145, Tryz.ntmps145
   go_wp2
   go_ret
   exact ⟨rfl,hbl⟩
theorem litOk_nat (l n:Int) (h0:0≤n) (hn:n≤128):litOk l n=(decide (l≠0)&&decide (-n≤l)&&decide (l≤n)):=by
 unfold litOk litVar;rw [Bool.eq_iff_iff];simp;by_cases h1:1≤l∧l≤128
 ·rw [if_pos h1];omega
 ·rw [if_neg h1];by_cases h2:l≤-1∧-128≤l
  ·rw [if_pos h2];omega
  ·rw [if_neg h2];omega
theorem valid5_any (w:World) (l n:Int) (h0:0≤n) (hn:n≤128):Calls Tryz.prog 97 #[.int .i64 l,.int .i64 n] w fun e w'=>e = .returned (.bool (litOk l n))∧w=w':=by
 rw [litOk_nat l n h0 hn];by_cases h1:l=0
 ·subst h1
  go_enter Tryz.func97, Tryz.ntmps97
  go_wp2
  go_ret
  exact ⟨rfl,rfl⟩
 ·rw [decide_eq_true h1,Bool.true_and];have hb1:(l != 0)=true:=bne_iff_ne.2 h1;by_cases h2 : -n≤l
  ·rw [decide_eq_true h2,Bool.true_and]
   go_enter Tryz.func97, Tryz.ntmps97
   go_wp2
   go_ret
   exact ⟨rfl,rfl⟩
  ·rw [decide_eq_false h2,Bool.false_and]
   go_enter Tryz.func97, Tryz.ntmps97
   go_wp2
   go_ret
   exact ⟨rfl,rfl⟩
end Go.Proofs.YtmhllppjcilllaaGreatDoor
end
section
open Go Go.RowKit Cs
namespace Cs
theorem add_two {x n:Nat} (h:x.testBit n=false):x+2^n=x ||| 2^n:=by
 have hx:x=2^(n+1)*(x / 2^(n+1))+x%2^(n+1):=(Nat.div_add_mod x (2^(n+1))).symm
 have hr:x%2^(n+1)<2^n:=by
  have h1:=Nat.mod_lt x (Nat.two_pow_pos (n+1));rcases Nat.lt_or_ge (x%2^(n+1)) (2^n) with h2 | h2
  ·exact h2
  ·have h3:(x%2^(n+1)).testBit n=true:=by
    rw [Nat.testBit_eq_decide_div_mod_eq]
    have:x%2^(n+1) / 2^n=1:=by
     rw [Nat.pow_succ] at h1 h2 ⊢;exact Nat.div_eq_of_lt_le (by omega) (by omega)
    rw [this];rfl
   rw [Nat.testBit_mod_two_pow,h] at h3;simp at h3
 obtain ⟨q,hq⟩:∃ q,x / 2^(n+1)=q:=⟨_,rfl⟩;obtain ⟨r,hr'⟩:∃ r,x%2^(n+1)=r:=⟨_,rfl⟩;rw [hq,hr'] at hx;rw [hr'] at hr
 have hp:2^(n+1)=2^n+2^n:=by rw [Nat.pow_succ];omega
 have e1:2^(n+1)*q+r=2^(n+1)*q ||| r:=Nat.two_pow_add_eq_or_of_lt (by omega) q
 have e2:2^(n+1)*q+(2^n+r)=2^(n+1)*q ||| (2^n+r):=Nat.two_pow_add_eq_or_of_lt (by omega) q
 have e3:2^n*1+r=2^n*1 ||| r:=Nat.two_pow_add_eq_or_of_lt hr 1
 rw [Nat.mul_one] at e3;rw [hx,Nat.add_assoc,Nat.add_comm r,e2,e3,e1,Nat.or_assoc,Nat.or_comm (2^n) r]
theorem union_step {a b k:Nat}:a ||| b%2^(k+1)=if b.testBit k then (a ||| b%2^k) ||| 2^k else a ||| b%2^k:=by
 apply Nat.eq_of_testBit_eq;intro i
 have e:(a ||| b%2^(k+1)).testBit i=(a.testBit i||(decide (i<k+1)&&b.testBit i)):=by rw [Nat.testBit_or,Nat.testBit_mod_two_pow]
 rw [e]
 have e2:(a ||| b%2^k).testBit i=(a.testBit i||(decide (i<k)&&b.testBit i)):=by rw [Nat.testBit_or,Nat.testBit_mod_two_pow]
 rcases Nat.lt_trichotomy i k with h | h | h
 ·have d1:decide (i<k+1)=true:=decide_eq_true (by omega);have d2:decide (i<k)=true:=decide_eq_true h;split
  ·rw [Nat.testBit_or,e2,Nat.testBit_two_pow,d1,d2,decide_eq_false (show ¬ k=i by omega)];simp
  ·rw [e2,d1,d2]
 ·subst h;have d1:decide (i<i+1)=true:=decide_eq_true (by omega);have d2:decide (i<i)=false:=decide_eq_false (by omega);split
  ·rename_i hb
   rw [Nat.testBit_or,e2,Nat.testBit_two_pow,d1,d2,decide_eq_true rfl,hb];simp
  ·rename_i hb
   rw [e2,d1,d2,show b.testBit i=false by simpa using hb];simp
 ·have d1:decide (i<k+1)=false:=decide_eq_false (by omega);have d2:decide (i<k)=false:=decide_eq_false (by omega);split
  ·rw [Nat.testBit_or,e2,Nat.testBit_two_pow,d1,d2,decide_eq_false (show ¬ k=i by omega)];simp
  ·rw [e2,d1,d2]
end Cs
namespace Go.Proofs.YtmhllppjcilllaaGreatDoor
theorem with21_any (w:World) (s n:Nat) (hn:n<128):Calls Tryz.prog 107 #[setV s,.int .i64 ((n:Int)+1)] w fun e w'=>e = .returned (setV (s ||| 2^n))∧Below w.heap.size w w':=by
 have hh:=fun W=>has5_any W s ((n:Int)+1)
 have hb:has s ((n:Int)+1)=s.testBit n:=by rw [has_bitI s _ (by omega) (by omega)];congr 1
 simp only [hb] at hh;have hq0:((w.alloc (.cells #[.int .u64 (lo s:Int),.int .u64 (hi s:Int)] 96)).alloc (.cells #[.int .u64 0,.int .u64 0] 96)).rowIs w.heap.size 96 2 (setF s):=(setNew w s _ _ rfl).alloc _;have hr0:((w.alloc (.cells #[.int .u64 (lo s:Int),.int .u64 (hi s:Int)] 96)).alloc (.cells #[.int .u64 0,.int .u64 0] 96)).rowIs (w.heap.size+1) 96 2 (setF 0):=setZero _ _ _ (by simp);have hbl:Below w.heap.size w ((w.alloc (.cells #[.int .u64 (lo s:Int),.int .u64 (hi s:Int)] 96)).alloc (.cells #[.int .u64 0,.int .u64 0] 96)):=((zqr _ _).alloc (zqn _) _).alloc (by simp) _;clear hb;cases hb:s.testBit n
 ·simp only [hb] at hh;have HH:=zqh hh;clear hh;by_cases h64:n<64
  ·have hq:(n:Int) / 64=0:=by omega
   have hr:(n:Int)%64=(n:Int):=by omega
   have e3:=wrap_two n h64
   have hl:lo (s ||| 2^n)=lo s+2^n:=by
    rw [lo_or,lo_two,if_pos h64,add_two (by rw [lo_bit,decide_eq_true h64,hb];rfl)]
   have hh2:hi (s ||| 2^n)=hi s:=by rw [hi_or,hi_two n hn,if_pos h64,Nat.or_zero]
   have hlt:=lo_lt (s ||| 2^n);rw [hl] at hlt;obtain ⟨P,hP⟩:∃ P,2^n=P:=⟨_,rfl⟩
   have e3':IntKind.u64.wrap (2^n)=(P:Int):=by rw [e3,hP]
   have hsum:IntKind.u64.wrap ((lo s:Int)+(P:Int))=((lo s+P:Nat):Int):=by
    rw [hP] at hlt;rw [show (lo s:Int)+(P:Int)=((lo s+P:Nat):Int) by simp];exact IntWalk.u64_in _ (by omega)
   have HL:=zqh hl;have HR:=zqh hh2;have HP:=zqh hP;clear hl hh2 e3 hP hb hlt
   go_enter Tryz.func107, Tryz.ntmps107
   obtain ⟨c1,c2,f1,f2⟩:=setCells hq0
   go_wp2_with fail
   refine (HH.out _).mono ?_;rintro e w5 ⟨rfl,hb5⟩;have q5:=rowBelow hq0 hb5;have r5:=rowBelow hr0 hb5;have hbl5:=zqx hbl hb5 hbl.size;clear c1 c2 f1 f2;obtain ⟨c1,c2,f1,f2⟩:=setCells q5;obtain ⟨d1,d2,g1,g2⟩:=setCells r5
   go_wp2
   refine ret_set rfl (s ||| 2^n) rfl (((r5.setOther (by simp) _).set 0 _).set 1 _) (by rw [HL.out,HP.out];rfl) (by rw [HR.out];rfl) rfl ⟨rfl,?_⟩;exact ((hbl5.setCell (zqn _) _).setCell (by simp) _).setCell (by simp) _
  ·have hq:(n:Int) / 64=1:=by omega
   have hr:(n:Int)%64=(n:Int)-64:=by omega
   have i0:(0:Int)≤(n:Int)-64:=by omega
   have i1:(n:Int)-64<64:=by omega
   have e3:=wrap_two (n-64) (by omega)
   have hh2:hi (s ||| 2^n)=hi s+2^(n-64):=by
    rw [hi_or,hi_two n hn,if_neg h64,add_two (by rw [hi_bit,decide_eq_true (by omega),show n-64+64=n by omega,hb];rfl)]
   have hl:lo (s ||| 2^n)=lo s:=by rw [lo_or,lo_two,if_neg h64,Nat.or_zero]
   have hlt:=hi_lt (s ||| 2^n);rw [hh2] at hlt;obtain ⟨P,hP⟩:∃ P,2^(n-64)=P:=⟨_,rfl⟩
   have e3':IntKind.u64.wrap (2^(n-64))=(P:Int):=by rw [e3,hP]
   have hsum:IntKind.u64.wrap ((hi s:Int)+(P:Int))=((hi s+P:Nat):Int):=by
    rw [hP] at hlt;rw [show (hi s:Int)+(P:Int)=((hi s+P:Nat):Int) by simp];exact IntWalk.u64_in _ (by omega)
   have HL:=zqh hl;have HR:=zqh hh2;have HP:=zqh hP;clear hl hh2 e3 hP hb hlt
   go_enter Tryz.func107, Tryz.ntmps107
   obtain ⟨c1,c2,f1,f2⟩:=setCells hq0
   go_wp2_with fail
   refine (HH.out _).mono ?_;rintro e w5 ⟨rfl,hb5⟩;have q5:=rowBelow hq0 hb5;have r5:=rowBelow hr0 hb5;have hbl5:=zqx hbl hb5 hbl.size;clear c1 c2 f1 f2;obtain ⟨c1,c2,f1,f2⟩:=setCells q5;obtain ⟨d1,d2,g1,g2⟩:=setCells r5
   go_wp2
   refine ret_set rfl (s ||| 2^n) rfl (((r5.setOther (by simp) _).set 0 _).set 1 _) (by rw [HL.out];rfl) (by rw [HR.out,HP.out];rfl) rfl ⟨rfl,?_⟩;exact ((hbl5.setCell (zqn _) _).setCell (by simp) _).setCell (by simp) _
 ·simp only [hb] at hh;have HH:=zqh hh
  have e:s ||| 2^n=s:=by
   apply Nat.eq_of_testBit_eq;intro i
   rw [Nat.testBit_or,Nat.testBit_two_pow];by_cases h:n=i
   ·subst h;simp [hb]
   ·simp [h]
  rw [e];clear hh e hb
  go_enter Tryz.func107, Tryz.ntmps107
  obtain ⟨c1,c2,f1,f2⟩:=setCells hq0
  go_wp2_with fail
  refine (HH.out _).mono ?_;rintro e w5 ⟨rfl,hb5⟩;have q5:=rowBelow hq0 hb5;have r5:=rowBelow hr0 hb5;have hbl5:=zqx hbl hb5 hbl.size;clear c1 c2 f1 f2;obtain ⟨c1,c2,f1,f2⟩:=setCells q5;obtain ⟨d1,d2,g1,g2⟩:=setCells r5
  go_wp2
  exact ret_set rfl s rfl (setPut r5 s) rfl rfl rfl ⟨rfl,(hbl5.setCell (by simp) _).setCell (by simp) _⟩
end Go.Proofs.YtmhllppjcilllaaGreatDoor
end
section
open Go Go.RowKit Cs
namespace Cs
theorem set_mod {b:Nat} (hb:IsSet b):b%2^128=b:=Nat.mod_eq_of_lt (show b<2^128 by unfold IsSet at hb;omega)
theorem has_nat (s n:Nat) (hn:n<128):has s ((n:Int)+1)=s.testBit n:=by rw [has_bitI s _ (by omega) (by omega)];congr 1
end Cs
namespace Go.Proofs.YtmhllppjcilllaaGreatDoor
theorem unionBag {w wr:World} {b Y Z:Nat} (q:Bag w w w.heap.size [(w.heap.size+1+1, 96,2,#[.int .u64 0,.int .u64 0]),(w.heap.size+1, 96,2,#[.int .u64 (lo b:Int),.int .u64 (hi b:Int)]),(w.heap.size, 96,2,#[.int .u64 (lo Y:Int),.int .u64 (hi Y:Int)])] wr) :
  Bag w w w.heap.size [(w.heap.size+1+1, 96,2,#[.int .u64 0,.int .u64 0]),(w.heap.size+1, 96,2,#[.int .u64 (lo b:Int),.int .u64 (hi b:Int)]),(w.heap.size, 96,2,#[.int .u64 (lo Z:Int),.int .u64 (hi Z:Int)])] ((wr.setCell ⟨w.heap.size,0,none⟩ (.int .u64 (lo Z:Int))).setCell ⟨w.heap.size,1,none⟩ (.int .u64 (hi Z:Int))):=by
 have q0:Bag w w w.heap.size [] ((wr.setCell ⟨w.heap.size,0,none⟩ (.int .u64 (lo Z:Int))).setCell ⟨w.heap.size,1,none⟩ (.int .u64 (hi Z:Int))):=(q.tail.tail.tail.other (zqn _) (fun r h=>by cases h) 0 _).other (zqn _) (fun r h=>by cases h) 1 _;exact ((q0.cons (pairRow q.tail.tail.row0 _ _)).cons ((q.tail.row0.setOther (by simp) _).setOther (by simp) _)).cons ((q.row0.setOther (by simp <;> omega) _).setOther (by simp <;> omega) _)
theorem union21_any (w:World) (a b:Nat) (hb:IsSet b):Calls Tryz.prog 142 #[setV a,setV b] w fun e w'=>e = .returned (setV (a ||| b))∧Below w.heap.size w w':=by
 have hq0:=((((Bag.start (Below.refl _ w)).new #[.int .u64 (lo a:Int),.int .u64 (hi a:Int)] 96 w.heap.size 2 rfl rfl).new #[.int .u64 (lo b:Int),.int .u64 (hi b:Int)] 96 (w.heap.size+1) 2 (by simp) rfl).new #[.int .u64 0,.int .u64 0] 96 (w.heap.size+1+1) 2 (by simp) rfl)
 have hst:∀ k,a ||| b%2^(k+1)=if b.testBit k then (a ||| b%2^k) ||| 2^k else a ||| b%2^k:=fun k=>union_step
 have he:=set_mod hb;have HST:=zqh hst;have HE:=zqh he;clear hst he hb
 go_enter Tryz.func142, Tryz.ntmps142
 go_wp2
 go_loopw [5] (fun t wr=>∃ k:Nat,k≤128∧t = .int .i64 ((k:Int)+1)∧Bag w w w.heap.size [(w.heap.size+1+1, 96,2,#[.int .u64 0,.int .u64 0]),(w.heap.size+1, 96,2,#[.int .u64 (lo b:Int),.int .u64 (hi b:Int)]),(w.heap.size, 96,2,#[.int .u64 (lo (a ||| b%2^k):Int),.int .u64 (hi (a ||| b%2^k):Int)])] wr) (fun t _=>129-(intOf t).toNat)
 case atStart=>exact ⟨0,by omega,rfl,by rw [Nat.pow_zero,Nat.mod_one,Nat.or_zero];exact hq0⟩
 case round =>
  clear hq0;obtain ⟨k,hk,rfl,q⟩:=hrel;have hs:=HST.out k;obtain ⟨Y,hY⟩:∃ Y,a ||| b%2^k=Y:=⟨_,rfl⟩;rw [hY] at hs q;by_cases hlt:k<128
  ·have hh:=fun W=>has5_any W b ((k:Int)+1);simp only [has_nat b k hlt] at hh;have b1:=q.tail.is0 0 (by decide) (.int .u64 (lo b:Int)) rfl;have b2:=q.tail.is0 1 (by decide) (.int .u64 (hi b:Int)) rfl;cases hb:b.testBit k
   ·rw [hb,if_neg (by decide)] at hs;simp only [hb] at hh;have HH:=zqh hh;have HS:=zqh hs;clear hh hs hb hY
    go_wp2_with fail
    refine (HH.out _).mono ?_;rintro e w5 ⟨rfl,hb5⟩
    go_wp2
    go_roundw
    case rel=>exact ⟨k+1,by omega,by go_num,by rw [HS.out];exact q.below hb5⟩
    case measure=>simp [intOf];omega
   ·rw [hb,if_pos rfl] at hs;simp only [hb] at hh;have hwi:=fun W=>with21_any W Y k hlt;have HH:=zqh hh;have HS:=zqh hs;have HW:=zqh hwi;clear hh hs hb hY hwi
    go_wp2_with fail
    refine (HH.out _).mono ?_;rintro e w5 ⟨rfl,hb5⟩;have q5:=q.below hb5;have a1:=q5.tail.tail.is0 0 (by decide) (.int .u64 (lo Y:Int)) rfl;have a2:=q5.tail.tail.is0 1 (by decide) (.int .u64 (hi Y:Int)) rfl;clear b1 b2 q
    go_wp2_with fail
    refine (HW.out _).mono ?_;rintro e w6 ⟨rfl,hb6⟩;have q6:=q5.below hb6;have f1:=q6.tail.tail.row0.frozen 0;have f2:=q6.tail.tail.row0.frozen 1;clear a1 a2 q5;have a1:=q6.tail.tail.is0 0 (by decide) (.int .u64 (lo Y:Int)) rfl;have a2:=q6.tail.tail.is0 1 (by decide) (.int .u64 (hi Y:Int)) rfl
    go_wp2
    go_roundw
    case rel =>
     refine ⟨k+1,by omega,by go_num,?_⟩;rw [HS.out];exact unionBag q6
    case measure=>simp [intOf];omega
  ·obtain rfl:k=128:=by omega
   rw [HE.out] at hY;subst hY;have a1:=q.tail.tail.is0 0 (by decide) (.int .u64 (lo (a ||| b):Int)) rfl;have a2:=q.tail.tail.is0 1 (by decide) (.int .u64 (hi (a ||| b):Int)) rfl;have r1:=q.is0 0 (by decide) (.int .u64 0) rfl;have r2:=q.is0 1 (by decide) (.int .u64 0) rfl;have f1:=q.row0.frozen 0;have f2:=q.row0.frozen 1;clear hs
   go_wp2
   exact ret_set rfl (a ||| b) rfl (setPut q.row0 _) rfl rfl rfl ⟨rfl,(q.bl.setCell (by simp <;> omega) _).setCell (by simp <;> omega) _⟩
end Go.Proofs.YtmhllppjcilllaaGreatDoor
end
section
open Go Go.RowKit Cs
namespace Cs
def badIn (before:Int) (i:Int):Bool:=decide (i<0)||decide (before≤i)
theorem formed_bad {x:Nd} {n b:Int} (h:x.ins.any (badIn b)=true):formed x n b=false:=by unfold formed;exact if_pos h
theorem formed_kind5 {x:Nd} {n b:Int} (h:x.kind<0∨4<x.kind):formed x n b=false:=by
 unfold formed;by_cases h1:x.ins.any (fun i=>decide (i<0)||decide (b≤i))=true
 ·rw [if_pos h1]
 ·rw [if_neg h1,if_neg (by omega),if_neg (by omega),if_neg (by omega)]
theorem formed_lit {x:Nd} {n b:Int} (h:x.kind≠2) (hl:x.lit≠0):formed x n b=false:=by
 unfold formed;by_cases h1:x.ins.any (fun i=>decide (i<0)||decide (b≤i))=true
 ·rw [if_pos h1]
 ·rw [if_neg h1];by_cases h2:x.kind=0∨x.kind=1
  ·rw [if_pos h2,decide_eq_false hl];rfl
  ·rw [if_neg h2,if_neg h];by_cases h3:x.kind=3∨x.kind=4
   ·rw [if_pos h3,decide_eq_false hl]
   ·rw [if_neg h3]
theorem formed_two {x:Nd} {n b:Int} (h:x.kind=2) (hl:litOk x.lit n=false):formed x n b=false:=by
 unfold formed;by_cases h1:x.ins.any (fun i=>decide (i<0)||decide (b≤i))=true
 ·rw [if_pos h1]
 ·rw [if_neg h1,if_neg (by omega),if_pos h,hl];rfl
theorem formed_len {x:Nd} {n b:Int} (h:x.kind<3) (hl:0<x.ins.length):formed x n b=false:=by
 unfold formed;by_cases h1:x.ins.any (fun i=>decide (i<0)||decide (b≤i))=true
 ·rw [if_pos h1]
 ·rw [if_neg h1];have e:decide (x.ins.length=0)=false:=decide_eq_false (by omega);by_cases h2:x.kind=0∨x.kind=1
  ·rw [if_pos h2,e,Bool.and_false]
  ·rw [if_neg h2];by_cases h3:x.kind=2
   ·rw [if_pos h3,e,Bool.and_false]
   ·rw [if_neg h3,if_neg (by omega)]
theorem formed_good {x:Nd} {n b:Int} (h:x.ins.any (badIn b)=false) (hk:((x.kind=0∨x.kind=1)∧x.lit=0∧x.ins.length=0)∨(x.kind=2∧litOk x.lit n=true∧x.ins.length=0)∨((x.kind=3∨x.kind=4)∧x.lit=0)):formed x n b=true:=by
 have h1:¬ x.ins.any (fun i=>decide (i<0)||decide (b≤i))=true:=by
  have:x.ins.any (fun i=>decide (i<0)||decide (b≤i))=false:=h
  rw [this];decide
 unfold formed;rw [if_neg h1];rcases hk with ⟨a1,a2,a3⟩ | ⟨a1,a2,a3⟩ | ⟨a1,a2⟩
 ·rw [if_pos a1,a2,a3];rfl
 ·rw [if_neg (by omega),if_pos a1,a2,a3];rfl
 ·rw [if_neg (by omega),if_neg (by omega),if_pos a1,a2];rfl
end Cs
namespace Go.Proofs.YtmhllppjcilllaaGreatDoor
theorem valid21_any (w:World) (N:Nt) (A:Option Addr) (c:Nat) (hlen:N.l.length≤140737488355328) (hN:NtAt w w.heap.size A N.l) :
  Calls Tryz.prog 51 #[ntV N A c] w fun e w'=>e = .returned (.bool (vld N))∧Below w.heap.size w w':=by
 obtain ⟨n,l⟩:=N;simp only at hlen hN;have hbl:Below w.heap.size w (w.alloc (.cells #[.int .i64 n,.slice A l.length c] 24)):=(zqr _ _).alloc (zqn _) _;have hbx:=ntNew w ⟨n,l⟩ A c 24 _ rfl;obtain ⟨c1,c2⟩:=ntCells hbx;simp only at c1 c2;by_cases hb:0≤n∧n≤128∧1≤l.length∧l.length≤65536
 ·obtain ⟨h1,h2,h3,h4⟩:=hb;obtain ⟨B,hB⟩:∃ B,vld ⟨n,l⟩=B:=⟨_,rfl⟩
  have hv:vld ⟨n,l⟩=allFormed n 0 l:=by unfold vld;simp [h1,h2,h3,h4]
  have hbad:∀ k (hk:k<l.length),formed l[k] n (k:Int)=false→B=false:=fun k hk hf=>by
   rw [← hB];cases hv2:vld ⟨n,l⟩
   ·rfl
   ·have:=vld_formed hv2 k hk;rw [show (⟨n,l⟩:Nt).l[k]=l[k] from rfl] at this;rw [hf] at this;cases this
  have hgo:allFormed n 0 l=true→B=true:=fun h=>by rw [← hB,hv,h]
  rw [hB];have HBAD:=zqh hbad;have HGO:=zqh hgo;have hz0:((l.length:Int)==0)=false:=beq_eq_false_iff_ne.2 (by omega);clear hB hv hbad hgo
  go_enter Tryz.func51, Tryz.ntmps51
  go_wp2_with fail
  go_loopw [3] (fun t wr=>∃ k:Nat,k≤l.length∧t = .int .i64 (k:Int)∧Hid (allFormed n 0 (l.take k)=true)∧wr.rowIs w.heap.size 24 2 (ntF ⟨n,l⟩ A c)∧Below w.heap.size w wr) (fun t _=>l.length-(intOf t).toNat)
  case atStart=>exact ⟨0,by omega,rfl,rfl,hbx,hbl⟩
  case round =>
   clear hbx hbl c1 c2;obtain ⟨k,hk,rfl,HA,hbx,hbl⟩:=hrel;obtain ⟨c1,c2⟩:=ntCells hbx;simp only at c1 c2;by_cases hlt:k<l.length
   ·obtain ⟨b,o,rfl,hbB,hcs⟩:=hN (by omega);have hnd:=hcs k hlt;clear hcs;have hbd:=HBAD.out k hlt;have hst:=allFormed_take n l k hlt;rw [HA.out,Bool.true_and] at hst;obtain ⟨x,hx⟩:∃ x,l[k]=x:=⟨_,rfl⟩;rw [hx] at hnd hbd hst;obtain ⟨hk1,hk2,⟨A',c',hk3,hrd⟩,hr1,hr2,hr3,hr4⟩:=hnd;replace hk1:=below_cell hbl hbB hk1;replace hk2:=below_cell hbl hbB hk2;replace hk3:=below_cell hbl hbB hk3;have HRD:=zqh (hrd.below hbl);have HBD:=zqh hbd;have HST:=zqh hst;have hz:=hbx.lt;clear hrd hbd hst hx hr3;obtain ⟨kd,lt,ins⟩:=x;simp only at hk1 hk2 hk3 hr1 hr2 hr4 HRD
    have hkd:(kd<0∨4<kd)∨(kd=0∨kd=1)∨kd=2∨(kd=3∨kd=4):=by omega
    rcases hkd with hkd | hkd | hkd | hkd
    ·have h:=HBD.out (formed_kind5 hkd);have H:=zqh h;clear h;rcases hkd with hkd | hkd
     ·go_wp2
      go_ret
      exact ⟨by rw [H.out];try rfl,hbl.alloc hbl.size _⟩
     ·have hkn:¬ kd<0:=by omega
      go_wp2
      go_ret
      exact ⟨by rw [H.out];try rfl,hbl.alloc hbl.size _⟩
    ·by_cases hlt0:lt=0
     ·subst hlt0;rcases hkd with rfl | rfl
      ·by_cases hln:0<ins.length
       ·have h:=HBD.out (formed_len (by show 0<3;omega) hln);have H:=zqh h;have hli:decide ((0:Int)<(ins.length:Int))=true:=decide_eq_true (by omega);clear h
        go_wp2
        go_ret
        exact ⟨by rw [H.out];try rfl,hbl.alloc hbl.size _⟩
       ·have hl0:ins.length=0:=by omega
        have h:=HST.out.trans (formed_good (by rw [List.eq_nil_of_length_eq_zero hl0];rfl) (.inl ⟨by first | exact .inl rfl | exact .inr rfl,rfl,hl0⟩));have H:=zqh h;have hli:decide ((0:Int)<(ins.length:Int))=false:=decide_eq_false (by omega)
        have hln2:¬ (0:Int)<(ins.length:Int):=by omega
        clear h;obtain ⟨W0,rfl⟩:∃ W0,W0=wr:=⟨wr,rfl⟩
        go_wp2_with fail
        go_loopw [5] (fun t wq=>t = .int .i64 0∧wq=W0.alloc (.cells #[.int .i64 0,.int .i64 0,.slice A' 0 c'] 66)) (fun t _=>0)
        case atStart=>exact ⟨rfl,rfl⟩
        case round =>
         obtain ⟨rfl,rfl⟩:=hrel
         go_wp2
         go_roundw
         case rel=>exact ⟨k+1,by omega,by go_num,H.out,hbx.alloc _,hbl.alloc hbl.size _⟩
         case measure=>simp [intOf];omega
      ·by_cases hln:0<ins.length
       ·have h:=HBD.out (formed_len (by show 1<3;omega) hln);have H:=zqh h;have hli:decide ((0:Int)<(ins.length:Int))=true:=decide_eq_true (by omega);clear h
        go_wp2
        go_ret
        exact ⟨by rw [H.out];try rfl,hbl.alloc hbl.size _⟩
       ·have hl0:ins.length=0:=by omega
        have h:=HST.out.trans (formed_good (by rw [List.eq_nil_of_length_eq_zero hl0];rfl) (.inl ⟨by first | exact .inl rfl | exact .inr rfl,rfl,hl0⟩));have H:=zqh h;have hli:decide ((0:Int)<(ins.length:Int))=false:=decide_eq_false (by omega)
        have hln2:¬ (0:Int)<(ins.length:Int):=by omega
        clear h;obtain ⟨W0,rfl⟩:∃ W0,W0=wr:=⟨wr,rfl⟩
        go_wp2_with fail
        go_loopw [5] (fun t wq=>t = .int .i64 0∧wq=W0.alloc (.cells #[.int .i64 1,.int .i64 0,.slice A' 0 c'] 66)) (fun t _=>0)
        case atStart=>exact ⟨rfl,rfl⟩
        case round =>
         obtain ⟨rfl,rfl⟩:=hrel
         go_wp2
         go_roundw
         case rel=>exact ⟨k+1,by omega,by go_num,H.out,hbx.alloc _,hbl.alloc hbl.size _⟩
         case measure=>simp [intOf];omega
     ·have h:=HBD.out (formed_lit (by show kd≠2;omega) hlt0);have H:=zqh h;clear h;have hl1:(lt != 0)=true:=bne_iff_ne.2 hlt0;rcases hkd with rfl | rfl
      all_goals
       go_wp2
       go_ret
       exact ⟨by rw [H.out];try rfl,hbl.alloc hbl.size _⟩
    ·subst hkd;have hlv:=fun W=>valid5_any W lt n h1 h2;cases hlo:litOk lt n
     ·have h:=HBD.out (formed_two rfl hlo);rw [hlo] at hlv;have H:=zqh h;have HLV:=zqh hlv;clear h hlv hlo
      go_wp2_with fail
      refine (HLV.out _).mono ?_;rintro e w5 ⟨rfl,rfl⟩
      go_wp2
      go_ret
      exact ⟨by rw [H.out];try rfl,hbl.alloc hbl.size _⟩
     ·rw [hlo] at hlv;have HLV:=zqh hlv;have HLO:=zqh hlo;clear hlv hlo;by_cases hln:0<ins.length
      ·have h:=HBD.out (formed_len (by show 2<3;omega) hln);have H:=zqh h;have hli:decide ((0:Int)<(ins.length:Int))=true:=decide_eq_true (by omega);clear h
       go_wp2_with fail
       refine (HLV.out _).mono ?_;rintro e w5 ⟨rfl,rfl⟩
       go_wp2
       go_ret
       exact ⟨by rw [H.out];try rfl,hbl.alloc hbl.size _⟩
      ·have hl0:ins.length=0:=by omega
       have h:=HST.out.trans (formed_good (by rw [List.eq_nil_of_length_eq_zero hl0];rfl) (.inr (.inl ⟨rfl,HLO.out,hl0⟩)));have H:=zqh h;have hli:decide ((0:Int)<(ins.length:Int))=false:=decide_eq_false (by omega)
       have hln2:¬ (0:Int)<(ins.length:Int):=by omega
       clear h;obtain ⟨W0,rfl⟩:∃ W0,W0=wr:=⟨wr,rfl⟩
       go_wp2_with fail
       refine (HLV.out _).mono ?_;rintro e w5 ⟨rfl,rfl⟩
       go_wp2_with fail
       go_loopw [5] (fun t wq=>t = .int .i64 0∧wq=W0.alloc (.cells #[.int .i64 2,.int .i64 lt,.slice A' 0 c'] 66)) (fun t _=>0)
       case atStart=>exact ⟨rfl,rfl⟩
       case round =>
        obtain ⟨rfl,rfl⟩:=hrel
        go_wp2
        go_roundw
        case rel=>exact ⟨k+1,by omega,by go_num,H.out,hbx.alloc _,hbl.alloc hbl.size _⟩
        case measure=>simp [intOf];omega
    ·by_cases hlt0:lt=0
     ·subst hlt0;have hgd:ins.any (badIn (k:Int))=false→allFormed n 0 (l.take (k+1))=true:=fun h=>HST.out.trans (formed_good h (.inr (.inr ⟨hkd,rfl⟩)));have hba:ins.any (badIn (k:Int))=true→B=false:=fun h=>HBD.out (formed_bad h);have HGD:=zqh hgd;have HBA:=zqh hba;clear hgd hba HST HBD;obtain ⟨W0,rfl⟩:∃ W0,W0=wr:=⟨wr,rfl⟩;rcases hkd with rfl | rfl
      all_goals
       go_wp2_with fail
       go_loopw [5] (fun t wq=>∃ j:Nat,j≤ins.length∧t = .int .i64 (j:Int)∧Hid ((ins.take j).any (badIn (k:Int))=false)∧wq=W0.alloc (.cells #[.int .i64 _,.int .i64 0,.slice A' ins.length c'] 66)) (fun t _=>ins.length-(intOf t).toNat)
       case atStart=>exact ⟨0,by omega,rfl,rfl,rfl⟩
       case round =>
        obtain ⟨j,hj,rfl,HJ,rfl⟩:=hrel;by_cases hjl:j<ins.length
        ·obtain ⟨b',o',rfl,hbB',hcs⟩:=HRD.out (by omega);have hc:=hcs j hjl;clear hcs;have hsz:=hbl.size
         have hlt':b'<W0.heap.size:=by omega
         have ht:ins.take (j+1)=ins.take j++[ins[j]]:=List.take_succ_eq_append_getElem hjl;have hmem:ins[j]∈ins:=List.getElem_mem hjl
         have hii:intF ins j = .int .i64 ins[j]:=by unfold intF;rw [List.getD_eq_getElem?_getD,List.getElem?_eq_getElem hjl];rfl
         rw [hii] at hc;obtain ⟨y,hy⟩:∃ y,ins[j]=y:=⟨_,rfl⟩;rw [hy] at hc ht hmem;have hbad:badIn (k:Int) y=true→B=false:=fun h=>HBA.out (List.any_eq_true.2 ⟨y,hmem,h⟩)
         have hnx:badIn (k:Int) y=false→(ins.take (j+1)).any (badIn (k:Int))=false:=fun h=>by rw [ht,List.any_append,HJ.out];simp [h]
         have HB2:=zqh hbad;have HNX:=zqh hnx;clear hii hy ht hmem hbad hnx;by_cases h1':y<0
         ·have h:=HB2.out (by unfold badIn;rw [decide_eq_true h1'];rfl);have H:=zqh h;clear h
          go_wp2
          go_ret
          exact ⟨by rw [H.out];try rfl,hbl.alloc hbl.size _⟩
         ·by_cases h2':(k:Int)≤y
          ·have h:=HB2.out (by unfold badIn;rw [decide_eq_true h2'];simp);have H:=zqh h;clear h
           go_wp2
           go_ret
           exact ⟨by rw [H.out];try rfl,hbl.alloc hbl.size _⟩
          ·have h:=HNX.out (by unfold badIn;rw [decide_eq_false h1',decide_eq_false h2'];rfl);have H:=zqh h;clear h
           go_wp2
           go_roundw
           case rel=>exact ⟨j+1,by omega,by go_num,H.out,by first | trivial | rfl⟩
           case measure=>simp [intOf];omega
        ·obtain rfl:j=ins.length:=by omega
         have h:=HGD.out (by have:=HJ.out;rwa [List.take_length] at this);have H:=zqh h;clear h
         go_wp2
         go_roundw
         case rel=>exact ⟨k+1,by omega,by go_num,H.out,hbx.alloc _,hbl.alloc hbl.size _⟩
         case measure=>simp [intOf];omega
     ·have h:=HBD.out (formed_lit (by show kd≠2;omega) hlt0);have H:=zqh h;clear h;have hl1:(lt != 0)=true:=bne_iff_ne.2 hlt0;rcases hkd with rfl | rfl
      all_goals
       go_wp2
       go_ret
       exact ⟨by rw [H.out];try rfl,hbl.alloc hbl.size _⟩
   ·obtain rfl:k=l.length:=by omega
    have h:=HGO.out (by have:=HA.out;rwa [List.take_length] at this);have H:=zqh h;clear h
    go_wp2
    go_ret
    exact ⟨by rw [H.out];try rfl,hbl⟩
 ·have hv:vld ⟨n,l⟩=false:=by unfold vld;rw [decide_eq_false (by simpa using hb)];rfl
  rw [hv];clear hv;by_cases h1:n<0
  ·clear hb
   go_enter Tryz.func51, Tryz.ntmps51
   go_wp2
   go_ret
   exact ⟨rfl,hbl⟩
  ·by_cases h2:128<n
   ·clear hb
    go_enter Tryz.func51, Tryz.ntmps51
    go_wp2
    go_ret
    exact ⟨rfl,hbl⟩
   ·by_cases h3:l.length=0
    ·have hi3:((l.length:Int)==0)=true:=by rw [h3];rfl
     have H3:=zqh h3;clear hb h3
     go_enter Tryz.func51, Tryz.ntmps51
     go_wp2
     go_ret
     exact ⟨rfl,hbl⟩
    ·have h4:65536<l.length:=by omega
     have hi3:((l.length:Int)==0)=false:=beq_eq_false_iff_ne.2 (by omega);clear hb
     go_enter Tryz.func51, Tryz.ntmps51
     go_wp2
     go_ret
     exact ⟨rfl,hbl⟩
end Go.Proofs.YtmhllppjcilllaaGreatDoor
end
