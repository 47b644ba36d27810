import Derived.Test.YtoljkoifgnmbgaaGreatDoorQ1
import Derived.Test.YtoljkoifgnmbgaaGreatDoorS2
set_option linter.unusedSimpArgs false
set_option linter.unusedVariables false
section
open Go Go.RowKit Cs
namespace Cs
theorem CN:CR (RN 0) where
 addc:=Nat.add_comm
 adda:=Nat.add_assoc
 mulc:=Nat.mul_comm
 mula:=Nat.mul_assoc
 zadd:=Nat.zero_add
 omul:=Nat.one_mul
 zmul:=Nat.zero_mul
 dist:=Nat.mul_add
def mlt (N:Nt) (s:Nat):Nat:=(RN 0).mult N s
abbrev sN (f:Nat→Nat) (m:Nat):Nat:=(RN 0).sumTo f m
theorem sN_add (f g:Nat→Nat) (m:Nat):sN (fun i=>f i+g i) m=sN f m+sN g m:=sumTo_add CN f g m
theorem sN_congr (f g:Nat→Nat) (m:Nat) (h:∀ i,i<m→f i=g i):sN f m=sN g m:=sumTo_congr f g m h
def pcn (n s:Nat):Nat:=sN (fun i=>if s.testBit i then 1 else 0) n
section
variable {N:Nt} (hv:vld N=true) (hd:dcmp N=true) (n:Nat) (hn:N.n=(n:Int))
include hv hd hn
theorem wit_expand (W:Int→Nat):((RN 0).wit W).sum N=sN (fun s=>(RN 0).term W n s*mlt N s) (2^n):=expand CN hv hd W n hn
omit hv hd hn in
theorem term_all (W:Int→Nat) (s:Nat):∀ k,(∀ i,i<k→(if s.testBit i then W ((i:Int)+1) else W (-((i:Int)+1)))=1)→(RN 0).term W k s=1
 | 0,_=>rfl
 | k+1,h=>by
   show (RN 0).term W k s*(if s.testBit k then _ else _)=1;rw [term_all W s k fun i hi=>h i (by omega),h k (by omega)]
omit hv hd hn in
theorem term_zero (W:Int→Nat) (s:Nat) (j:Nat) (hj:(if s.testBit j then W ((j:Int)+1) else W (-((j:Int)+1)))=0):∀ k,j<k→(RN 0).term W k s=0
 | 0,h=>absurd h (by omega)
 | k+1,h=>by
   show (RN 0).term W k s*(if s.testBit k then _ else _)=0;by_cases h1:j=k
   ·subst h1;rw [hj];rfl
   ·rw [term_zero W s j hj k (by omega),Nat.zero_mul]
theorem cnt_sum:(RN 0).sum N=sN (mlt N) (2^n):=by
 have h:=wit_expand hv hd n hn (wt 0);rw [show (RN 0).wit (wt 0)=RN 0 from rfl] at h;rw [h];refine sN_congr _ _ _ fun s hs=>?_;rw [term_all (wt 0) s n fun i _=>?_,Nat.one_mul];unfold wt
 split <;> rw [if_neg (by omega)]
theorem low_sum (i:Nat) (hi:i<n):(RN ((i:Int)+1)).sum N=sN (fun s=>if s.testBit i then 0 else mlt N s) (2^n):=by
 have h:=wit_expand hv hd n hn (wt ((i:Int)+1));rw [show (RN 0).wit (wt ((i:Int)+1))=RN ((i:Int)+1) from rfl] at h;rw [h];refine sN_congr _ _ _ fun s hs=>?_;by_cases hb:s.testBit i=true
 ·rw [term_zero _ s i (by rw [if_pos hb];unfold wt;rw [if_pos rfl]) n hi,Nat.zero_mul,if_pos hb]
 ·rw [if_neg hb,term_all _ s n fun j _=>?_,Nat.one_mul];by_cases hj:s.testBit j=true
  ·rw [if_pos hj];unfold wt;rw [if_neg]
   intro e
   have:j=i:=by omega
   exact hb (this▸hj)
  ·rw [if_neg hj];unfold wt;rw [if_neg (by omega)]
theorem high_sum (i:Nat) (hi:i<n):(RN (-((i:Int)+1))).sum N=sN (fun s=>if s.testBit i then mlt N s else 0) (2^n):=by
 have h:=wit_expand hv hd n hn (wt (-((i:Int)+1)));rw [show (RN 0).wit (wt (-((i:Int)+1)))=RN (-((i:Int)+1)) from rfl] at h;rw [h];refine sN_congr _ _ _ fun s hs=>?_;by_cases hb:s.testBit i=true
 ·rw [if_pos hb,term_all _ s n fun j _=>?_,Nat.one_mul];by_cases hj:s.testBit j=true
  ·rw [if_pos hj];unfold wt;rw [if_neg (by omega)]
  ·rw [if_neg hj];unfold wt;rw [if_neg]
   intro e
   have:j=i:=by omega
   exact hj (this▸hb)
 ·rw [term_zero _ s i (by rw [if_neg hb];unfold wt;rw [if_pos rfl]) n hi,Nat.zero_mul,if_neg hb]
theorem low_high (i:Nat) (hi:i<n):(RN ((i:Int)+1)).sum N+(RN (-((i:Int)+1))).sum N=(RN 0).sum N:=by
 rw [low_sum hv hd n hn i hi,high_sum hv hd n hn i hi,cnt_sum hv hd n hn,← sN_add];refine sN_congr _ _ _ fun s _=>?_
 split <;> simp
omit hv hd hn in
omit hv hd hn in
omit hv hd hn in
omit hv hd hn in
omit hv hd hn in
omit hv hd hn in
omit hv hd hn in
omit hv hd hn in
omit hv hd hn in
omit hv hd hn in
end
end Cs
namespace Cs
def hld (s:Nat) (l:Int):Bool:=decide (litVar l≠0)&&(s.testBit ((litVar l).toNat-1)==decide (0<l))
def evStart (s:Nat) (x:Nd):Bool:=decide (x.kind=1)||decide (x.kind=3)||(decide (x.kind=2)&&hld s x.lit)
def evIn (acc:List Bool) (x:Nd) (b:Bool) (k:Int):Bool:=if x.kind=3 then b&&acc.getD k.toNat false else b||acc.getD k.toNat false
def evStep (s:Nat) (acc:List Bool) (x:Nd):Bool:=x.ins.foldl (evIn acc x) (evStart s x)
def truth (s:Nat) (l:List Nd):List Bool:=scan (evStep s) [] l
theorem formed_kinds {x:Nd} {n b:Int} (h:formed x n b=true):x.kind=0∨x.kind=1∨x.kind=2∨x.kind=3∨x.kind=4:=by
 rcases formed_kind h with ⟨h1 | h1 | h1,_⟩ | h1 | h1
 ·exact .inl h1
 ·exact .inr (.inl h1)
 ·exact .inr (.inr (.inl h1))
 ·exact .inr (.inr (.inr (.inl h1)))
 ·exact .inr (.inr (.inr (.inr h1)))
end Cs
namespace Cs
def b1 (b:Bool):Nat:=if b then 1 else 0
end Cs
end
