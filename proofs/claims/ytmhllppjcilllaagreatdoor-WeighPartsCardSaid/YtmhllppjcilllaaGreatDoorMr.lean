import Derived.Test.YtmhllppjcilllaaGreatDoorMq
set_option linter.unusedSimpArgs false
set_option linter.unusedVariables false
open Go Go.RowKit Cs
namespace Cs
theorem zdP (pk sg:Nat) (x:Int):∀ n,x∈ql 0 pk sg n↔∃ j,j<n∧pk.testBit j=true∧x=if sg.testBit j then -((j+1:Nat):Int) else ((j+1:Nat):Int)
 | 0=>⟨fun h=>(by cases h),fun ⟨j,h,_⟩=>absurd h (Nat.not_lt_zero _)⟩
 | n+1=>by
   have ih:=zdP pk sg x n;unfold ql;by_cases hb:pk.testBit n=true
   ·rw [if_pos ⟨Nat.succ_ne_zero n,hb⟩,List.mem_append,List.mem_singleton,ih];constructor
    ·rintro (⟨j,h1,h2⟩ | h)
     ·exact ⟨j,by omega,h2⟩
     ·exact ⟨n,by omega,hb,h⟩
    ·rintro ⟨j,h1,h2,h3⟩;by_cases hj:j=n
     ·subst hj;exact .inr h3
     ·exact .inl ⟨j,by omega,h2,h3⟩
   ·rw [if_neg (fun h=>hb h.2),ih];constructor
    ·rintro ⟨j,h1,h2⟩;exact ⟨j,by omega,h2⟩
    ·rintro ⟨j,h1,h2,h3⟩;by_cases hj:j=n
     ·subst hj;exact absurd h2 hb
     ·exact ⟨j,by omega,h2,h3⟩
theorem tm_pos {pk sg n j:Nat} (hj:j<n):((j:Int)+1∈ql 0 pk sg n)↔(pk.testBit j=true∧sg.testBit j=false):=by
 rw [zdP];constructor
 ·rintro ⟨i,h1,h2,h3⟩;cases hs:sg.testBit i
  ·rw [hs,if_neg (by decide)] at h3;have:i=j:=by omega
   subst this;exact ⟨h2,hs⟩
  ·rw [hs,if_pos rfl] at h3;omega
 ·rintro ⟨h1,h2⟩;exact ⟨j,hj,h1,by rw [h2,if_neg (by decide)];rfl⟩
theorem tm_neg {pk sg n j:Nat} (hj:j<n):(-((j:Int)+1)∈ql 0 pk sg n)↔(pk.testBit j=true∧sg.testBit j=true):=by
 rw [zdP];constructor
 ·rintro ⟨i,h1,h2,h3⟩;cases hs:sg.testBit i
  ·rw [hs,if_neg (by decide)] at h3;omega
  ·rw [hs,if_pos rfl] at h3;have:i=j:=by omega
   subst this;exact ⟨h2,hs⟩
 ·rintro ⟨h1,h2⟩;exact ⟨j,hj,h1,by rw [h2,if_pos rfl];rfl⟩
theorem zj6 (t:List Int) (s:Nat):∀ n,yF t s n=true↔∀ j,j<n→(s.testBit j=true→-((j:Int)+1) ∉ t)∧(s.testBit j=false→(j:Int)+1 ∉ t)
 | 0=>⟨fun _ j h=>absurd h (Nat.not_lt_zero _),fun _=>rfl⟩
 | n+1=>by
   unfold yF;rw [Bool.and_eq_true,zj6 t s n];constructor
   ·rintro ⟨h1,h2⟩ j hj;by_cases hjn:j=n
    ·subst hjn;cases hb:s.testBit j
     ·rw [hb,if_neg (by decide)] at h2;exact ⟨fun h=>(by cases h),fun _=>of_decide_eq_true h2⟩
     ·rw [hb,if_pos rfl] at h2;exact ⟨fun _=>of_decide_eq_true h2,fun h=>(by cases h)⟩
    ·exact h1 j (by omega)
   ·intro h;refine ⟨fun j hj=>h j (by omega),?_⟩;have h9:=h n (Nat.lt_succ_self n);cases hb:s.testBit n
    ·rw [if_neg (by decide)];exact decide_eq_true (h9.2 hb)
    ·rw [if_pos rfl];exact decide_eq_true (h9.1 hb)
theorem pe {n k pk sg:Nat} (hn:n≤8) (hk:k<2^n):decide (k &&& pk=(pk &&& (255-sg)) &&& (2^n-1))=yF (ql 0 pk sg n) k n∨256≤sg:=by
 by_cases hsg:256≤sg
 ·exact .inr hsg
 refine .inl ?_;have hnot:∀ j,j<8→(255-sg).testBit j = !sg.testBit j:=fun j hj=>by
  have h:=Nat.testBit_two_pow_sub_succ (n:=8) (x:=sg) (by omega) j;have e:2^8-(sg+1)=255-sg:=by omega
  rw [e] at h;rw [h];simp [hj]
 have hk2:∀ j,n≤j→k.testBit j=false:=fun j hj=>Nat.testBit_lt_two_pow (Nat.lt_of_lt_of_le hk (Nat.pow_le_pow_right (by decide) hj));refine Bool.eq_iff_iff.2 ?_;rw [decide_eq_true_iff,zj6];constructor
 ·intro h j hj;have hb:=congrArg (fun x=>x.testBit j) h;simp only [Nat.testBit_and,Nat.testBit_two_pow_sub_one,hnot j (by omega),decide_eq_true hj,Bool.and_true] at hb;rw [tm_pos hj,tm_neg hj];refine ⟨fun h1 h2=>?_,fun h1 h2=>?_⟩
  ·rw [h1,h2.1,h2.2] at hb;exact absurd hb (by decide)
  ·rw [h1,h2.1,h2.2] at hb;exact absurd hb (by decide)
 ·intro h;refine Nat.eq_of_testBit_eq fun j=>?_;simp only [Nat.testBit_and,Nat.testBit_two_pow_sub_one];by_cases hj:j<n
  ·have h9:=h j hj;rw [tm_pos hj,tm_neg hj] at h9;rw [hnot j (by omega),decide_eq_true hj,Bool.and_true];cases hp:pk.testBit j
   ·simp
   ·cases hs:sg.testBit j
    ·cases hb:k.testBit j
     ·exact absurd ⟨hp,hs⟩ (h9.2 hb)
     ·rfl
    ·cases hb:k.testBit j
     ·rfl
     ·exact absurd ⟨hp,hs⟩ (h9.1 hb)
  ·rw [hk2 j (by omega),decide_eq_false hj,Bool.and_false,Bool.false_and]
theorem tm_ok {n pk sg:Nat} (hn:n≤128):jR (n:Int) (ql 0 pk sg n)=true:=by
 refine termB_of (fun x hx=>litOk_of hn ?_) (fun x hx hy=>?_)
 ·obtain ⟨j,h1,h2,rfl⟩:=(zdP pk sg x n).1 hx;split <;> omega
 ·obtain ⟨j,h1,h2,e1⟩:=(zdP pk sg x n).1 hx;obtain ⟨i,h3,h4,e2⟩:=(zdP pk sg (-x) n).1 hy;have e:i=j:=by
   have a1:x.natAbs=j+1:=by rw [e1];split <;> omega
   have a2:(-x).natAbs=i+1:=by rw [e2];split <;> omega
   omega
  subst e;cases hb:sg.testBit i
  ·rw [hb] at e1 e2;simp only [Bool.false_eq_true,if_false] at e1 e2;omega
  ·rw [hb] at e1 e2;simp only [if_true] at e1 e2;omega
end Cs
