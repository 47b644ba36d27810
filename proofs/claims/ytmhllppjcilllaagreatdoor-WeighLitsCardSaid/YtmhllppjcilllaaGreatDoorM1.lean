import Derived.Below
import Derived.Laws.BitsAllLaws
import Derived.Lib.TrailingZeros
import Derived.Deep.RegionHeld3
set_option linter.unusedSimpArgs false
set_option linter.unusedVariables false
open Go.RowKit in
theorem Cs.zb {p:Prop} (h:p):Hid p:=h
theorem Cs.zk {α:Type _} {p:α→Prop} {a:α} {l:List α} (h:p a) (k:∀ x∈l,p x):∀ x∈a::l,p x:=List.forall_mem_cons.2 ⟨h,k⟩
theorem Cs.zW {α:Type _} {p:α→Prop}:∀ x∈([]:List α),p x:=List.forall_mem_nil _
theorem Cs.zC {D:Nat} {w W:Go.World} {p:Go.Addr} {v:Option Go.Value} (h:Go.RowKit.Below D w W) (k:w.cell? p=v) (l:p.block<D):W.cell? p=v:=(h.cell l).trans k
theorem Cs.qU {b:Bool} {p:Prop} (h:b=false) (k:b=true):p:=by rw [h] at k;cases k
abbrev Cs.zl (v:Go.Value):List Go.Value→Go.Value→Go.World→Prop:=fun _ x _=>x=v
theorem Cs.zu (n:Nat):n≤n:=Nat.le_refl n
theorem Cs.zx:type_of% @Go.RowKit.Below.refl:=@Go.RowKit.Below.refl
theorem Cs.zj:type_of% @List.getElem_toArray:=@List.getElem_toArray
theorem Cs.zi:type_of% @List.getElem_cons_succ:=@List.getElem_cons_succ
theorem Cs.zh:type_of% @List.getElem_cons_zero:=@List.getElem_cons_zero
theorem Cs.zg:type_of% @List.setIfInBounds_toArray:=@List.setIfInBounds_toArray
theorem Cs.zf:type_of% @List.set_cons_zero:=@List.set_cons_zero
theorem Cs.ze:type_of% @List.set_cons_succ:=@List.set_cons_succ
section
namespace Cs
def dg (b V i:Nat):Nat:=V / b^i%b
def nd (b V:Nat):Nat:=if h:V=0∨b<2 then 0 else 1+nd b (V / b)
termination_by V
decreasing_by exact Nat.div_lt_self (by omega) (by omega)
theorem dg_lt (b V i:Nat) (hb:0<b):dg b V i<b:=Nat.mod_lt _ hb
theorem zcq (b:Nat):nd b 0=0:=by rw [nd];simp
theorem zfK (b V:Nat) (hb:2≤b) (h:0<V):nd b V=1+nd b (V / b):=by
 rw [nd,dif_neg (by omega)]
theorem yg (b:Nat) (hb:2≤b):∀ (n V:Nat),nd b V≤n↔V<b^n
 | 0,V=>by
   rcases Nat.eq_zero_or_pos V with h | h
   ·subst h;simp [zcq]
   ·rw [zfK b V hb h];simp;omega
 | n+1,V=>by
   rcases Nat.eq_zero_or_pos V with h | h
   ·subst h;simp [zcq];exact Nat.pow_pos (by omega)
   ·rw [zfK b V hb h,Nat.pow_succ,← Nat.div_lt_iff_lt_mul (by omega),← yg b hb n (V / b)];omega
theorem jS (b V:Nat) (hb:2≤b):V<b^nd b V:=(yg b hb _ _).1 (Nat.le_refl _)
theorem zcI (b V n:Nat) (hb:2≤b) (h:n<nd b V):b^n≤V:=by
 rcases Nat.lt_or_ge V (b^n) with h' | h'
 ·have:=(yg b hb n V).2 h';omega
 ·exact h'
theorem zeV (b:Nat) (hb:2≤b) {x y:Nat} (h:x≤y):nd b x≤nd b y:=(yg b hb _ _).2 (Nat.lt_of_le_of_lt h (jS b y hb))
theorem nd_eq (b:Nat) (hb:2≤b) (n V:Nat) (h1:V<b^n) (h2:n=0∨b^(n-1)≤V):nd b V=n:=by
 apply Nat.le_antisymm ((yg b hb _ _).2 h1);rcases h2 with h2 | h2
 ·omega
 ·rcases Nat.lt_or_ge (nd b V) n with h | h
  ·have:=(yg b hb (n-1) V).1 (by omega);omega
  ·exact h
theorem zbm (b:Nat) (hb:2≤b) (V:Nat):nd b V=0↔V=0:=by
 have:=yg b hb 0 V;simp at this;exact this
theorem nd_add (b:Nat) (hb:2≤b) (x y:Nat):nd b (x+y)≤max (nd b x) (nd b y)+1:=by
 rw [yg b hb,Nat.pow_succ];have hx:=Nat.lt_of_lt_of_le (jS b x hb) (Nat.pow_le_pow_right (show 0<b by omega) (Nat.le_max_left (nd b x) (nd b y)));have hy:=Nat.lt_of_lt_of_le (jS b y hb) (Nat.pow_le_pow_right (show 0<b by omega) (Nat.le_max_right (nd b x) (nd b y)));have:b^max (nd b x) (nd b y)*2≤b^max (nd b x) (nd b y)*b:=Nat.mul_le_mul_left _ hb;omega
theorem jE (b:Nat) (hb:2≤b) (x y:Nat):nd b (x*y)≤nd b x+nd b y:=by
 rw [yg b hb,Nat.pow_add];exact Nat.mul_lt_mul'' (jS b x hb) (jS b y hb)
theorem pV (b V k:Nat):V%b^(k+1)=V%b^k+b^k*dg b V k:=by
 unfold dg;exact Nat.mod_pow_succ
theorem zh0 (b V n:Nat) (hb:2≤b) (h:nd b V≤n):V%b^n=V:=Nat.mod_eq_of_lt ((yg b hb _ _).1 h)
theorem jc (b V i:Nat) (hb:2≤b) (h:nd b V≤i):dg b V i=0:=by
 unfold dg;rw [Nat.div_eq_of_lt ((yg b hb _ _).1 h)];simp
theorem zfU (b:Nat):∀ (n x y:Nat),x<b^n→y<b^n→(∀ i,i<n→dg b x i=dg b y i)→x=y:=by
 intro n x y hx hy h;have key:∀ k,k≤n→x%b^k=y%b^k:=by
  intro k
  induction k with
  | zero=>intro _;simp [Nat.mod_one]
  | succ k ih =>
    intro hk;rw [pV,pV,ih (by omega),h k (by omega)]
 have:=key n (Nat.le_refl _);rwa [Nat.mod_eq_of_lt hx,Nat.mod_eq_of_lt hy] at this
theorem jJ (b V:Nat) (hb:2≤b) (h:0<V):0<dg b V (nd b V-1):=by
 have h0:0<nd b V:=by
  rcases Nat.eq_zero_or_pos (nd b V) with h' | h'
  ·have:=(zbm b hb V).1 h';omega
  ·exact h'
 unfold dg;have h1:b^(nd b V-1)≤V:=zcI b V _ hb (by omega);have h2:=jS b V hb;have h3:V / b^(nd b V-1)<b:=by
  rw [Nat.div_lt_iff_lt_mul (Nat.pow_pos (by omega))]
  calc V<b^nd b V:=h2
   _=b^(nd b V-1+1):=by rw [Nat.sub_add_cancel h0]
   _=b*b^(nd b V-1):=by rw [Nat.pow_succ,Nat.mul_comm]
 rw [Nat.mod_eq_of_lt h3];exact Nat.div_pos h1 (Nat.pow_pos (by omega))
def ql (V i:Nat):Nat:=V / 2^(8*i)%256
def wd (V i:Nat):Nat:=V / 2^(32*i)%4294967296
def n8 (V:Nat):Nat:=nd 256 V
theorem zjA (V i:Nat):ql V i<256:=Nat.mod_lt _ (by decide)
theorem qz (V i:Nat):wd V i<4294967296:=Nat.mod_lt _ (by decide)
theorem zjB (V i:Nat):ql V i=dg 256 V i:=by unfold ql dg;rw [Nat.pow_mul]
theorem wd_eq (V i:Nat):wd V i=dg 4294967296 V i:=by unfold wd dg;rw [Nat.pow_mul]
theorem by8_ge (V i:Nat) (h:n8 V≤i):ql V i=0:=by rw [zjB];exact jc 256 V i (by decide) h
theorem oq (V:Nat) (h:0<V):0<ql V (n8 V-1):=by rw [zjB];exact jJ 256 V (by decide) h
theorem oW:n8 0=0:=zcq _
theorem pY (n V:Nat):n8 V≤n↔V<256^n:=yg 256 (by decide) n V
theorem zhy (x y:Nat):n8 (x+y)≤max (n8 x) (n8 y)+1:=nd_add 256 (by decide) x y
theorem yK (x y:Nat):n8 (x*y)≤n8 x+n8 y:=jE 256 (by decide) x y
theorem zdu {x y:Nat} (h:x≤y):n8 x≤n8 y:=zeV 256 (by decide) h
theorem zcE (n:Nat):(256:Nat)^n=2^(8*n):=by rw [Nat.pow_mul]
theorem zcV (n:Nat):(4294967296:Nat)^n=2^(32*n):=by rw [Nat.pow_mul]
def nw (V:Nat):Nat:=(n8 V+3) / 4
theorem q8 (n V:Nat):nw V≤n↔V<2^(32*n):=by
 have h:=pY (4*n) V;rw [zcE,show 8*(4*n)=32*n by omega] at h;rw [← h];unfold nw;omega
theorem jh (V i:Nat) (h:nw V≤i):wd V i=0:=by
 unfold wd;rw [Nat.div_eq_of_lt ((q8 _ _).1 h)]
theorem zhE (V k:Nat):wd V (k / 4) / 2^(8*(k%4))%256=ql V k:=by
 unfold wd ql;apply Nat.eq_of_testBit_eq;intro j;rw [show (256:Nat)=2^8 by rfl,show (4294967296:Nat)=2^32 by rfl];simp only [Nat.testBit_mod_two_pow,Nat.testBit_div_two_pow];by_cases hj:j<8
 ·have h1:j+8*(k%4)<32:=by omega
  have h2:j+8*(k%4)+32*(k / 4)=j+8*k:=by omega
  simp [hj,h1,h2]
 ·simp [hj]
theorem wd_pow2 (n i:Nat):wd (2^n) i=if i=n / 32 then 2^(n%32) else 0:=by
 unfold wd;apply Nat.eq_of_testBit_eq;intro j;rw [show (4294967296:Nat)=2^32 by rfl];simp only [Nat.testBit_mod_two_pow,Nat.testBit_div_two_pow,Nat.testBit_two_pow];by_cases h:i=n / 32
 ·rw [if_pos h,Nat.testBit_two_pow];have:(j<32∧n=j+32*i)↔n%32=j:=by omega
  simp only [← Bool.decide_and,this]
 ·rw [if_neg h,Nat.zero_testBit];have:¬ (j<32∧n=j+32*i):=by omega
  simp only [← Bool.decide_and,this,decide_false]
theorem word_or (V k:Nat):wd (V%2^(8*k)) (k / 4) ||| (ql V k*2^(8*(k%4)))%4294967296=wd (V%2^(8*(k+1))) (k / 4):=by
 unfold wd ql;apply Nat.eq_of_testBit_eq;intro j;rw [show (256:Nat)=2^8 by rfl,show (4294967296:Nat)=2^32 by rfl];simp only [Nat.testBit_or,Nat.testBit_mod_two_pow,Nat.testBit_div_two_pow,Nat.testBit_mul_two_pow];by_cases hj:j<32
 ·simp only [hj,decide_true,Bool.true_and];by_cases h1:8*(k%4)≤j
  ·by_cases h2:j-8*(k%4)<8
   ·have h3:¬ j+32*(k / 4)<8*k:=by omega
    have h4:j+32*(k / 4)<8*(k+1):=by omega
    have h5:j-8*(k%4)+8*k=j+32*(k / 4):=by omega
    simp [h1,h2,h3,h4,h5]
   ·have h3:¬ j+32*(k / 4)<8*k:=by omega
    have h4:¬ j+32*(k / 4)<8*(k+1):=by omega
    simp [h2,h3,h4]
  ·have h3:j+32*(k / 4)<8*k:=by omega
   have h4:j+32*(k / 4)<8*(k+1):=by omega
   simp [h1,h3,h4]
 ·simp [hj]
theorem zjK (V k i:Nat) (h:i≠k / 4):wd (V%2^(8*k)) i=wd (V%2^(8*(k+1))) i:=by
 unfold wd;apply Nat.eq_of_testBit_eq;intro j;rw [show (4294967296:Nat)=2^32 by rfl];simp only [Nat.testBit_mod_two_pow,Nat.testBit_div_two_pow];by_cases hj:j<32
 ·have:(j+32*i<8*k)↔(j+32*i<8*(k+1)):=by omega
  simp [hj,this]
 ·simp [hj]
theorem mod_n8 (V:Nat):V%2^(8*n8 V)=V:=by
 rw [← zcE];exact Nat.mod_eq_of_lt ((pY _ _).1 (Nat.le_refl _))
theorem zcb (V k:Nat):V%2^(32*(k+1))=V%2^(32*k)+2^(32*k)*wd V k:=by
 have:=pV 4294967296 V k;rwa [← wd_eq,zcV,zcV] at this
def cr (a b k:Nat):Nat:=(a%2^(32*k)+b%2^(32*k)) / 2^(32*k)
theorem zgC (a b:Nat):cr a b 0=0:=by simp [cr,Nat.mod_one]
theorem jd (a b k:Nat):cr a b k≤1:=by
 unfold cr;have hp:0<2^(32*k):=Nat.pow_pos (by decide);have h1:=Nat.mod_lt a hp;have h2:=Nat.mod_lt b hp;have:(a%2^(32*k)+b%2^(32*k)) / 2^(32*k)<2:=by
  rw [Nat.div_lt_iff_lt_mul hp];omega
 omega
theorem add_div' (a b p:Nat) (hp:0<p):(a+b) / p=a / p+b / p+(a%p+b%p) / p:=by
 have h1:=Nat.div_add_mod a p;have h2:=Nat.div_add_mod b p;have:a+b=a%p+b%p+p*(a / p+b / p):=by rw [Nat.mul_add];omega
 rw [this,Nat.add_mul_div_left _ _ hp];omega
theorem zdx (a b k:Nat):(cr a b k+(wd b k+wd a k))%4294967296=wd (a+b) k:=by
 have hp:0<2^(32*k):=Nat.pow_pos (by decide);have h:=add_div' a b (2^(32*k)) hp;show ((a%2^(32*k)+b%2^(32*k)) / 2^(32*k)+(b / 2^(32*k)%4294967296+a / 2^(32*k)%4294967296))%4294967296=(a+b) / 2^(32*k)%4294967296;rw [h];omega
theorem zgD (a b k:Nat):(cr a b k+(wd b k+wd a k)) / 4294967296=cr a b (k+1):=by
 have hp:0<2^(32*k):=Nat.pow_pos (by decide);have e:(2:Nat)^(32*(k+1))=2^(32*k)*4294967296:=by rw [Nat.mul_add,Nat.pow_add]
 have h1:a%2^(32*(k+1))+b%2^(32*(k+1))=a%2^(32*k)+b%2^(32*k)+2^(32*k)*(wd b k+wd a k):=by
  rw [zcb,zcb,Nat.mul_add];omega
 unfold cr;rw [h1,e,← Nat.div_div_eq_div_mul,Nat.add_mul_div_left _ _ hp]
def qv (a b:Nat):Int:=if a<b then -1 else if a=b then 0 else 1
theorem om (a b:Nat) (h:n8 a<n8 b):a<b:=by
 rcases Nat.lt_or_ge a b with h' | h'
 ·exact h'
 ·have:=zdu h';omega
theorem zj8 (a b i:Nat) (h:a / 2^(8*(i+1))=b / 2^(8*(i+1))) (hlt:ql a i<ql b i):a<b:=by
 unfold ql at hlt;have e:∀ x,x / 2^(8*(i+1))=x / 2^(8*i) / 256:=fun x=>by rw [Nat.div_div_eq_div_mul,Nat.mul_add,Nat.pow_add]
 rw [e,e] at h;have:a / 2^(8*i)<b / 2^(8*i):=by omega
 rcases Nat.lt_or_ge a b with h' | h'
 ·exact h'
 ·have:=Nat.div_le_div_right (c:=2^(8*i)) h';omega
theorem cmp_same (a b i:Nat) (h:a / 2^(8*(i+1))=b / 2^(8*(i+1))) (he:ql a i=ql b i):a / 2^(8*i)=b / 2^(8*i):=by
 unfold ql at he;have e:∀ x,x / 2^(8*(i+1))=x / 2^(8*i) / 256:=fun x=>by rw [Nat.div_div_eq_div_mul,Nat.mul_add,Nat.pow_add]
 rw [e,e] at h;omega
theorem div_n8 (V n:Nat) (h:n8 V≤n):V / 2^(8*n)=0:=by
 rw [← zcE];exact Nat.div_eq_of_lt ((pY _ _).1 h)
theorem zhv:∀ (m V:Nat),0<V / 2^m→nd 2 V=m+nd 2 (V / 2^m)
 | 0,V,_=>by simp
 | m+1,V,hp=>by
   have e:V / 2^(m+1)=V / 2 / 2^m:=by rw [Nat.div_div_eq_div_mul,Nat.pow_succ,Nat.mul_comm]
   rw [e] at hp ⊢;have h2:0<V:=by
    rcases Nat.eq_zero_or_pos V with h' | h'
    ·rw [h'] at hp;simp at hp
    ·exact h'
   rw [zfK 2 V (by decide) h2,zhv m (V / 2) hp];omega
theorem zhw (V:Nat) (h:0<V):nd 2 V=8*(n8 V-1)+nd 2 (ql V (n8 V-1)):=by
 have hn:0<n8 V:=by
  rcases Nat.eq_zero_or_pos (n8 V) with h' | h'
  ·have:=(zbm 256 (by decide) V).1 h';omega
  ·exact h'
 have hlt:=(pY _ V).1 (Nat.le_refl _);have hb:ql V (n8 V-1)=V / 2^(8*(n8 V-1)):=by
  unfold ql;apply Nat.mod_eq_of_lt;rw [Nat.div_lt_iff_lt_mul (Nat.pow_pos (by decide)),show (256:Nat)=2^8 by rfl,← Nat.pow_add,show 8+8*(n8 V-1)=8*n8 V by omega,← zcE];exact hlt
 have hp:=oq V h;rw [hb] at hp ⊢;exact zhv _ _ hp
def za (V:Nat):ByteArray:=⟨((List.range (n8 V)).map fun i=>UInt8.ofNat (ql V i)).toArray⟩
theorem zb0 (V:Nat):(za V).size=n8 V:=by simp [za,ByteArray.size]
theorem zcZ (V i:Nat) (h:i<(za V).size):((za V)[i]'h).toNat=ql V i:=by
 have h0:=h;rw [zb0] at h0;have e:(za V)[i]'h=UInt8.ofNat (ql V i):=by
  show ((za V).data[i]'h)=_;simp [za]
 rw [e];have:=zjA V i;simp [UInt8.toNat_ofNat'];omega
theorem zjv {x y:Nat} (h:za x=za y):x=y:=by
 have hs:n8 x=n8 y:=by rw [← zb0,← zb0,h]
 refine zfU 256 (n8 x) x y ((pY _ _).1 (Nat.le_refl _)) ((pY _ _).1 (by omega)) fun i hi=>?_;rw [← zjB,← zjB,← zcZ x i (by rw [zb0];exact hi),← zcZ y i (by rw [zb0];omega)];congr 1;simp only [h]
theorem zkz (V n:Nat) (h1:∀ i,n≤i→ql V i=0) (h2:n=0∨ql V (n-1)≠0):n=n8 V:=by
 rcases Nat.lt_trichotomy n (n8 V) with h | h | h
 ·have hV:0<V:=by
   rcases Nat.eq_zero_or_pos V with e | e
   ·subst e;rw [oW] at h;omega
   ·exact e
  have:=oq V hV;rw [h1 (n8 V-1) (by omega)] at this;omega
 ·exact h
 ·rcases h2 with h2 | h2
  ·omega
  ·exact absurd (by8_ge V (n-1) (by omega)) h2
end Cs
end
section
namespace Cs
def mM (a b i:Nat):Nat:=(a%2^(32*i))*b
def tT (a b i k:Nat):Nat:=mM a b i+wd a i*(b%2^(32*k))*2^(32*i)
def cC (a b i k:Nat):Nat:=tT a b i k / 2^(32*(i+k))-mM a b i / 2^(32*(i+k))
theorem m_zero (a b:Nat):mM a b 0=0:=by simp [mM,Nat.mod_one]
theorem t_zero (a b i:Nat):tT a b i 0=mM a b i:=by simp [tT,Nat.mod_one]
theorem c_zero (a b i:Nat):cC a b i 0=0:=by simp [cC,t_zero]
theorem t_succ (a b i k:Nat):tT a b i (k+1)=tT a b i k+2^(32*(i+k))*(wd a i*wd b k):=by
 unfold tT;rw [zcb,Nat.mul_add,Nat.add_mul,Nat.mul_add 32 i k,Nat.pow_add,Nat.add_assoc];congr 2
 ac_rfl
theorem t_ge (a b i k:Nat):mM a b i≤tT a b i k:=Nat.le_add_right _ _
theorem t_div (a b i k:Nat):tT a b i k / 2^(32*(i+k))=cC a b i k+mM a b i / 2^(32*(i+k)):=by
 unfold cC;have:=Nat.div_le_div_right (c:=2^(32*(i+k))) (t_ge a b i k);omega
theorem zf5 (a b i k:Nat):tT a b i (k+1) / 2^(32*(i+k))=cC a b i k+mM a b i / 2^(32*(i+k))+wd a i*wd b k:=by
 rw [t_succ,Nat.add_mul_div_left _ _ (Nat.pow_pos (by decide)),t_div]
theorem xz (a b i k:Nat):(cC a b i k+(wd (mM a b i) (i+k)+wd a i*wd b k))%4294967296=wd (tT a b i (k+1)) (i+k):=by
 have h:=zf5 a b i k;show (cC a b i k+(mM a b i / 2^(32*(i+k))%4294967296+wd a i*wd b k))%4294967296=tT a b i (k+1) / 2^(32*(i+k))%4294967296;rw [h];omega
theorem zbL (n:Nat):(2:Nat)^(32*(n+1))=2^(32*n)*4294967296:=by rw [Nat.mul_add,Nat.pow_add]
theorem zf9 (a b i k:Nat):(cC a b i k+(wd (mM a b i) (i+k)+wd a i*wd b k)) / 4294967296=cC a b i (k+1):=by
 have h:=zf5 a b i k;have e:i+(k+1)=i+k+1:=by omega
 have hc:cC a b i (k+1)=tT a b i (k+1) / 2^(32*(i+k)) / 4294967296-mM a b i / 2^(32*(i+k)) / 4294967296:=by
  unfold cC;rw [e,zbL,Nat.div_div_eq_div_mul,Nat.div_div_eq_div_mul]
 rw [hc,h];show (cC a b i k+(mM a b i / 2^(32*(i+k))%4294967296+wd a i*wd b k)) / 4294967296=_;generalize mM a b i / 2^(32*(i+k))=q;generalize wd a i*wd b k=p;generalize cC a b i k=c;omega
theorem zgU (x m n j:Nat) (h:j<n):wd (x+2^(32*n)*m) j=wd x j:=by
 unfold wd;have e:2^(32*n)*m=2^(32*j)*(4294967296*(2^(32*(n-j-1))*m)):=by
  have e1:(4294967296:Nat)=2^32:=rfl;rw [e1,← Nat.mul_assoc,← Nat.mul_assoc,← Nat.pow_add,← Nat.pow_add];congr 2;omega
 rw [e,Nat.add_mul_div_left _ _ (Nat.pow_pos (by decide)),Nat.add_mul_mod_self_left]
theorem step_low (a b i k j:Nat) (h:j<i+k):wd (tT a b i (k+1)) j=wd (tT a b i k) j:=by
 rw [t_succ,zgU _ _ _ _ h]
theorem t_end (a b i k:Nat) (h:nw b≤k):tT a b i k=mM a b (i+1):=by
 unfold tT mM;rw [Nat.mod_eq_of_lt ((q8 _ _).1 h),zcb,Nat.add_mul];congr 1
 ac_rfl
theorem m_end (a b i:Nat) (h:nw a≤i):mM a b i=a*b:=by
 unfold mM;rw [Nat.mod_eq_of_lt ((q8 _ _).1 h)]
theorem m_lt (a b i n:Nat) (h:nw b≤n):mM a b i<2^(32*(i+n)):=by
 unfold mM;rw [Nat.mul_add,Nat.pow_add];exact Nat.mul_lt_mul'' (Nat.mod_lt _ (Nat.pow_pos (by decide))) ((q8 _ _).1 h)
theorem m_high (a b i j:Nat) (h:i+nw b≤j):wd (mM a b i) j=0:=by
 apply jh;rw [q8];have:=m_lt a b i (nw b) (Nat.le_refl _);exact Nat.lt_of_lt_of_le this (Nat.pow_le_pow_right (by decide) (by omega))
theorem c_end (a b i n:Nat) (h:nw b≤n):cC a b i n%4294967296=wd (mM a b (i+1)) (i+n):=by
 have h1:=t_div a b i n;rw [t_end a b i n h,Nat.div_eq_of_lt (m_lt a b i n h)] at h1;show _=mM a b (i+1) / 2^(32*(i+n))%4294967296;rw [h1];rfl
theorem zhz (a b i k:Nat):wd a i*wd b k≤18446744065119617025:=by
 have h1:=qz a i;have h2:=qz b k;exact Nat.mul_le_mul (show wd a i≤4294967295 by omega) (show wd b k≤4294967295 by omega)
theorem c_le (a b i:Nat):∀ k,cC a b i k≤4294967295
 | 0=>by rw [c_zero];omega
 | k+1=>by
   rw [← zf9];have h1:=c_le a b i k;have h2:=qz (mM a b i) (i+k);have h3:=zhz a b i k;omega
end Cs
end
section
namespace Cs
theorem zj3 (R k:Nat):R / 2^(32*k)=R / 2^(32*(k+1))*4294967296+wd R k:=by
 unfold wd;have e:(2:Nat)^(32*(k+1))=2^(32*k)*4294967296:=by rw [Nat.mul_add,Nat.pow_add]
 rw [e,← Nat.div_div_eq_div_mul];omega
def y7 (R q k:Nat):Nat:=R / 2^(32*k)%q
theorem rst_lt (R q k:Nat) (hq:0<q):y7 R q k<q:=Nat.mod_lt _ hq
theorem rst_zero (R q:Nat):y7 R q 0=R%q:=by simp [y7]
theorem rst_top (R q n:Nat) (h:nw R≤n):y7 R q n=0:=by
 unfold y7;rw [Nat.div_eq_of_lt ((q8 _ _).1 h)];simp
theorem rst_step (R q k:Nat):(y7 R q (k+1)*4294967296+wd R k)%q=y7 R q k:=by
 unfold y7;rw [zj3 R k,Nat.add_mod,Nat.mod_mul_mod,← Nat.add_mod]
theorem rst_quot (R q k:Nat) (hq:0<q):(y7 R q (k+1)*4294967296+wd R k) / q=wd (R / q) k:=by
 have hr:=rst_lt R q (k+1) hq;have hw:=qz R k;have e:wd (R / q) k=R / 2^(32*k) / q%4294967296:=by
  unfold wd;rw [Nat.div_div_eq_div_mul,Nat.div_div_eq_div_mul,Nat.mul_comm q]
 rw [e,zj3 R k];unfold y7 at hr ⊢;generalize R / 2^(32*(k+1))=X at *
 generalize wd R k=r at *
 have hx:=Nat.div_add_mod X q;have h1:X*4294967296+r=q*(X / q*4294967296)+(X%q*4294967296+r):=by
  conv=>lhs;rw [← hx]
  rw [Nat.add_mul,Nat.mul_assoc];omega
 rw [h1,Nat.mul_add_div hq];have h2:(X%q*4294967296+r) / q<4294967296:=by
  rw [Nat.div_lt_iff_lt_mul hq];have:X%q+1≤q:=hr;have:=Nat.mul_le_mul_right 4294967296 this;omega
 clear hx h1;generalize (X%q*4294967296+r) / q=z at *
 generalize X / q=y at *
 omega
def zz (V:Nat):Nat:=max 1 (nd 10 V)
def pG (V m:Nat):List UInt8:=(List.range m).map fun t=>UInt8.ofNat (48+dg 10 V (zz V-1-t))
def zc (V:Nat):ByteArray:=⟨(pG V (zz V)).toArray⟩
theorem pm (V m:Nat):pG V (m+1)=pG V m++[UInt8.ofNat (48+dg 10 V (zz V-1-m))]:=by
 simp [pG,List.range_succ]
theorem zdw (V m:Nat):(pG V m).length=m:=by simp [pG]
theorem qS (V:Nat):(zc V).size=zz V:=by simp [zc,ByteArray.size,zdw]
theorem yS (V i:Nat):dg 10 V i<10:=dg_lt 10 V i (by decide)
theorem zi0 (V i:Nat) (h:i<(zc V).size):((zc V)[i]'h).toNat=48+dg 10 V (zz V-1-i):=by
 have h0:=h;rw [qS] at h0;have e:(zc V)[i]'h=UInt8.ofNat (48+dg 10 V (zz V-1-i)):=by
  show ((zc V).data[i]'h)=_;simp [zc,pG]
 rw [e];have:=yS V (zz V-1-i);simp [UInt8.toNat_ofNat'];omega
theorem pU:zc 0=⟨#[48]⟩:=by
 have h:zz 0=1:=by simp [zz,zcq]
 have:pG 0 (zz 0)=[48]:=by
  rw [h];simp [pG,List.range_succ,h,dg]
 rw [zc,this]
theorem zdv {x y:Nat} (h:zc x=zc y):x=y:=by
 have hs:zz x=zz y:=by rw [← qS,← qS,h]
 have hx:x<10^zz x:=Nat.lt_of_lt_of_le (jS 10 x (by decide)) (Nat.pow_le_pow_right (by decide) (by unfold zz;omega));have hy:y<10^zz x:=by
  rw [hs];exact Nat.lt_of_lt_of_le (jS 10 y (by decide)) (Nat.pow_le_pow_right (by decide) (by unfold zz;omega))
 refine zfU 10 (zz x) x y hx hy fun i hi=>?_;have h1:=zi0 x (zz x-1-i) (by rw [qS];omega);have h2:=zi0 y (zz y-1-i) (by rw [qS];omega);have e1:zz x-1-(zz x-1-i)=i:=by omega
 have e2:zz y-1-(zz y-1-i)=i:=by omega
 rw [e1] at h1;rw [e2] at h2;have h3:((zc x)[zz x-1-i]'(by rw [qS];omega)).toNat=((zc y)[zz y-1-i]'(by rw [qS];omega)).toNat:=by
  congr 1;simp only [h,hs]
 omega
theorem dg_chunk (V r k:Nat) (hk:k<9):V / 10^(9*r)%1000000000 / 10^k%10=dg 10 V (9*r+k):=by
 unfold dg;have e:(1000000000:Nat)=10^k*(10*10^(8-k)):=by
  rw [← Nat.pow_succ',← Nat.pow_add,show k+(8-k+1)=9 by omega]
 rw [e,Nat.mod_mul_right_div_self,Nat.mod_mul_right_mod,Nat.div_div_eq_div_mul,← Nat.pow_add]
theorem pg (V r:Nat):V / 10^(9*r) / 1000000000=V / 10^(9*(r+1)):=by
 have e:(10:Nat)^(9*(r+1))=10^(9*r)*1000000000:=by rw [Nat.mul_add,Nat.pow_add]
 rw [e,Nat.div_div_eq_div_mul]
theorem nd_shift (V:Nat):∀ (m:Nat),0<V / 10^m→nd 10 V=m+nd 10 (V / 10^m):=by
 intro m
 induction m generalizing V with
 | zero=>intro _;simp
 | succ m ih =>
   intro hp;have e:V / 10^(m+1)=V / 10 / 10^m:=by rw [Nat.div_div_eq_div_mul,Nat.pow_succ,Nat.mul_comm]
   rw [e] at hp ⊢;have h2:0<V:=by
    rcases Nat.eq_zero_or_pos V with h' | h'
    ·rw [h'] at hp;simp at hp
    ·exact h'
   rw [zfK 10 V (by decide) h2,ih (V / 10) hp];omega
theorem zeW (R k:Nat):0<R / 10^k↔k<nd 10 R:=by
 have h:=yg 10 (by decide) k R;constructor
 ·intro hp;rcases Nat.lt_or_ge k (nd 10 R) with h' | h'
  ·exact h'
  ·have:=h.1 h';rw [Nat.div_eq_of_lt this] at hp;omega
 ·intro hk;have:¬ R<10^k:=fun hc=>by have:=h.2 hc;omega
  exact Nat.div_pos (by omega) (Nat.pow_pos (by decide))
end Cs
end
section
namespace Cs
theorem oX (X:Nat):nw X=0↔X=0:=by
 have:=q8 0 X;simp at this;omega
theorem zdZ {x y:Nat} (h:x≤y):nw x≤nw y:=by
 have:=zdu h;unfold nw;omega
theorem zjJ (X m:Nat) (h1:nw X≤m) (h2:m=0∨wd X (m-1)≠0):m=nw X:=by
 rcases Nat.eq_or_lt_of_le h1 with h | h
 ·exact h.symm
 ·rcases h2 with h2 | h2
  ·omega
  ·exact absurd (jh X (m-1) (by omega)) h2
theorem ziq (V k:Nat) (h:n8 V≤k):nd 10 V≤3*k:=by
 rw [yg 10 (by decide),Nat.pow_mul];exact Nat.lt_of_lt_of_le ((pY k V).1 h) (Nat.pow_le_pow_left (by decide) _)
def lf (V r:Nat):Nat:=V / 10^(9*r)
theorem gW (V:Nat):lf V 0=V:=by simp [lf]
theorem zg0 (V r:Nat):lf V r / 1000000000=lf V (r+1):=pg V r
theorem lf_dg (V r k:Nat) (hk:k<9):lf V r%1000000000 / 10^k%10=dg 10 V (9*r+k):=dg_chunk V r k hk
theorem xq (V r k:Nat) (h1:lf V (r+1)=0) (hp:0<lf V r%1000000000 / 10^k):k+1≤nd 10 (lf V r):=by
 have h2:=zg0 V r;rw [h1] at h2;have h3:lf V r%1000000000=lf V r:=by omega
 rw [h3] at hp;exact (zeW _ _).1 hp
theorem ziI (V r k:Nat) (h0:0<lf V r) (h1:lf V (r+1)=0) (h2:k≤nd 10 (lf V r)) (h3:k=9∨¬ 0<lf V r%1000000000 / 10^k):9*r+k=nd 10 V:=by
 have h4:=zg0 V r;rw [h1] at h4;have h5:lf V r%1000000000=lf V r:=by omega
 rw [h5] at h3;have h6:nd 10 (lf V r)≤k:=by
  rcases h3 with h3 | h3
  ·subst h3;rw [yg 10 (by decide)];have:lf V r<1000000000:=by omega
   simpa using this
  ·rw [zeW] at h3;omega
 have h7:=nd_shift V (9*r) h0;unfold lf at h2 h6;omega
theorem decN_pos (V:Nat) (h:0<V):zz V=nd 10 V:=by
 have:nd 10 V≠0:=fun e=>by have:=(zbm 10 (by decide) V).1 e;omega
 unfold zz;omega
end Cs
end
section
namespace Cs
def lo (s:Nat):Nat:=s%18446744073709551616
def hi (s:Nat):Nat:=s / 18446744073709551616%18446744073709551616
def qD (s:Nat):Prop:=s<340282366920938463463374607431768211456
theorem yO (s:Nat):lo s<18446744073709551616:=Nat.mod_lt _ (by decide)
theorem yN (s:Nat):hi s<18446744073709551616:=Nat.mod_lt _ (by decide)
theorem jO (s i:Nat):(lo s).testBit i=(decide (i<64)&&s.testBit i):=by
 unfold lo;rw [show (18446744073709551616:Nat)=2^64 by rfl,Nat.testBit_mod_two_pow]
theorem jN (s i:Nat):(hi s).testBit i=(decide (i<64)&&s.testBit (i+64)):=by
 unfold hi;rw [show (18446744073709551616:Nat)=2^64 by rfl,Nat.testBit_mod_two_pow,Nat.testBit_div_two_pow]
theorem set_eq (s:Nat) (h:qD s):s=lo s+hi s*18446744073709551616:=by
 unfold qD at h;unfold lo hi;omega
theorem x7 (i:Nat) (h:i<128):qD (2^i):=by
 unfold qD;rw [show (340282366920938463463374607431768211456:Nat)=2^128 by rfl];exact Nat.pow_lt_pow_right (by decide) h
theorem zg1 {a b:Nat} (ha:qD a) (hb:qD b):qD (a ||| b):=by
 unfold qD at *
 rw [show (340282366920938463463374607431768211456:Nat)=2^128 by rfl] at *
 exact Nat.or_lt_two_pow ha hb
theorem zh6 {a b:Nat} (ha:qD a):qD (a &&& b):=by
 unfold qD at *
 exact Nat.lt_of_le_of_lt Nat.and_le_left ha
def zP (a b:Nat):Nat:=a ^^^ (a &&& b)
theorem p8 (a b i:Nat):(zP a b).testBit i=(a.testBit i && !b.testBit i):=by
 unfold zP;rw [Nat.testBit_xor,Nat.testBit_and];cases a.testBit i <;> cases b.testBit i <;> rfl
theorem zdb:qD 0:=by unfold qD;omega
theorem zko (a b:Nat):lo (a ||| b)=lo a ||| lo b:=by
 apply Nat.eq_of_testBit_eq;intro i;rw [Nat.testBit_or,jO,jO,jO,Nat.testBit_or];cases decide (i<64) <;> simp
theorem zkv (a b:Nat):hi (a ||| b)=hi a ||| hi b:=by
 apply Nat.eq_of_testBit_eq;intro i;rw [Nat.testBit_or,jN,jN,jN,Nat.testBit_or];cases decide (i<64) <;> simp
theorem lo_and (a b:Nat):lo (a &&& b)=lo a &&& lo b:=by
 apply Nat.eq_of_testBit_eq;intro i;rw [Nat.testBit_and,jO,jO,jO,Nat.testBit_and];cases decide (i<64) <;> simp
theorem hi_and (a b:Nat):hi (a &&& b)=hi a &&& hi b:=by
 apply Nat.eq_of_testBit_eq;intro i;rw [Nat.testBit_and,jN,jN,jN,Nat.testBit_and];cases decide (i<64) <;> simp
theorem gM (x i:Nat) (h:x<18446744073709551616):(18446744073709551615-x).testBit i=(decide (i<64) && !x.testBit i):=by
 have e:18446744073709551615-x=2^64-(x+1):=by
  rw [show (2:Nat)^64=18446744073709551616 by rfl];omega
 rw [e,Nat.testBit_two_pow_sub_succ (by simpa using h)]
theorem lo_minus (a b:Nat):lo (zP a b)=lo a &&& (18446744073709551615-lo b):=by
 apply Nat.eq_of_testBit_eq;intro i;rw [Nat.testBit_and,gM _ _ (yO b),jO,jO,jO,p8];cases decide (i<64) <;> simp
theorem hi_minus (a b:Nat):hi (zP a b)=hi a &&& (18446744073709551615-hi b):=by
 apply Nat.eq_of_testBit_eq;intro i;rw [Nat.testBit_and,gM _ _ (yN b),jN,jN,jN,p8];cases decide (i<64) <;> simp
theorem zfL (i:Nat):lo (2^i)=if i<64 then 2^i else 0:=by
 apply Nat.eq_of_testBit_eq;intro j;rw [jO,Nat.testBit_two_pow];split
 ·rw [Nat.testBit_two_pow];by_cases h:i=j <;> simp [h];omega
 ·by_cases h:i=j
  ·have:¬ j<64:=by omega
   simp [this]
  ·simp [h]
theorem zfQ (i:Nat) (h:i<128):hi (2^i)=if i<64 then 0 else 2^(i-64):=by
 apply Nat.eq_of_testBit_eq;intro j;rw [jN,Nat.testBit_two_pow];split
 ·have:¬ i=j+64:=by omega
  simp [this]
 ·rw [Nat.testBit_two_pow];by_cases hh:i=j+64
  ·have h1:j<64:=by omega
   have h2:i-64=j:=by omega
   simp [hh,h1]
  ·have h2:¬ i-64=j:=by omega
   simp [hh,h2]
def gZ (s:Nat) (v:Int):Bool:=decide (1≤v∧v≤128)&&s.testBit (v.toNat-1)
def zZ (s:Nat) (v:Int):Nat:=if 1≤v∧v≤128 then s ||| 2^(v.toNat-1) else s
theorem x6 {s:Nat} (hs:qD s) (v:Int):qD (zZ s v):=by
 unfold zZ;split
 ·exact zg1 hs (x7 _ (by omega))
 ·exact hs
def zQ (l:Int):Int:=if 1≤l∧l≤128 then l else if l≤-1∧-128≤l then -l else 0
theorem zdH (l:Int):0≤zQ l∧zQ l≤128:=by
 unfold zQ;split
 ·omega
 ·split <;> omega
def qh (l n:Int):Bool:=decide (zQ l≠0∧zQ l≤n)
def qo (n:Int):Nat:=2^(min n 128).toNat-1
theorem p6 (n:Int) (i:Nat):(qo n).testBit i=decide (i<(min n 128).toNat):=by
 unfold qo;rw [Nat.testBit_two_pow_sub_one]
def zgW (s:Nat):List Nat:=((List.range 128).filter fun i=>s.testBit i).map (·+1)
end Cs
end
section
namespace Cs
def bl (n x:Nat):List Nat:=(List.range n).filter fun i=>x.testBit i
theorem zh5:∀ (k m:Nat),(2^k*(2*m+1)) &&& (2^k*(2*m+1)-1)=2^k*(2*m)
 | 0,m=>by
   apply Nat.eq_of_testBit_eq;intro i;rw [Nat.testBit_and];cases i with
   | zero=>simp
   | succ i =>
     have e1:(2^0*(2*m+1)) / 2=m:=by omega
     have e2:(2^0*(2*m+1)-1) / 2=m:=by omega
     have e3:(2^0*(2*m)) / 2=m:=by omega
     rw [Nat.testBit_succ,Nat.testBit_succ,Nat.testBit_succ,e1,e2,e3];simp
 | k+1,m=>by
   have ih:=zh5 k m;have hp:0<2^k*(2*m+1):=Nat.mul_pos (Nat.pow_pos (by decide)) (by omega);have e0:2^(k+1)*(2*m+1)=2*(2^k*(2*m+1)):=by rw [Nat.pow_succ];ac_rfl
   have e9:2^(k+1)*(2*m)=2*(2^k*(2*m)):=by rw [Nat.pow_succ];ac_rfl
   rw [e0,e9,← ih];generalize 2^k*(2*m+1)=y at *
   apply Nat.eq_of_testBit_eq;intro i;rw [Nat.testBit_and];cases i with
   | zero=>simp
   | succ i =>
     have e1:2*y / 2=y:=by omega
     have e2:(2*y-1) / 2=y-1:=by omega
     have e3:2*(y &&& (y-1)) / 2=y &&& (y-1):=by omega
     rw [Nat.testBit_succ,Nat.testBit_succ,Nat.testBit_succ,e1,e2,e3,Nat.testBit_and]
theorem zi5 (k m i:Nat):(2^k*(2*m+1)).testBit i=if i<k then false else if i=k then true else m.testBit (i-k-1):=by
 rw [Nat.mul_comm,Nat.testBit_mul_two_pow];split
 ·rename_i h;have:¬ k≤i:=by omega
  simp [this]
 ·rename_i h;have hk:k≤i:=by omega
  split
  ·rename_i h2;subst h2;simp
  ·rename_i h2;obtain ⟨j,hj⟩:∃ j,i-k=j+1:=⟨i-k-1,by omega⟩;have e:(2*m+1) / 2=m:=by omega
   rw [hj,Nat.testBit_succ,e];simp [hk]
theorem zgJ (k m i:Nat):(2^k*(2*m)).testBit i=if i<k then false else if i=k then false else m.testBit (i-k-1):=by
 rw [Nat.mul_comm,Nat.testBit_mul_two_pow];split
 ·rename_i h;have:¬ k≤i:=by omega
  simp [this]
 ·rename_i h;have hk:k≤i:=by omega
  split
  ·rename_i h2;subst h2;simp
  ·rename_i h2;obtain ⟨j,hj⟩:∃ j,i-k=j+1:=⟨i-k-1,by omega⟩;have e:(2*m) / 2=m:=by omega
   rw [hj,Nat.testBit_succ,e];simp [hk]
theorem ov (k m:Nat):∀ d,bl (k+1+d) (2^k*(2*m+1))=k::bl (k+1+d) (2^k*(2*m))
 | 0=>by
   unfold bl;rw [Nat.add_zero,List.range_succ,List.filter_append,List.filter_append];have h1:(List.range k).filter (fun i=>(2^k*(2*m+1)).testBit i)=[]:=by
    rw [List.filter_eq_nil_iff];intro i hi;rw [zi5,if_pos (by simpa using hi)];simp
   have h2:(List.range k).filter (fun i=>(2^k*(2*m)).testBit i)=[]:=by
    rw [List.filter_eq_nil_iff];intro i hi;rw [zgJ,if_pos (by simpa using hi)];simp
   have h3:(2^k*(2*m+1)).testBit k=true:=by rw [zi5];simp
   have h4:(2^k*(2*m)).testBit k=false:=by rw [zgJ];simp
   rw [h1,h2];simp [List.filter_cons,h3,h4]
 | d+1=>by
   have ih:=ov k m d;unfold bl at ih ⊢;rw [← Nat.add_assoc,List.range_succ,List.filter_append,List.filter_append,ih,List.cons_append];have h3:(2^k*(2*m+1)).testBit (k+1+d)=m.testBit d:=by
    rw [zi5,if_neg (by omega),if_neg (by omega)];congr 1;omega
   have h4:(2^k*(2*m)).testBit (k+1+d)=m.testBit d:=by
    rw [zgJ,if_neg (by omega),if_neg (by omega)];congr 1;omega
   simp [List.filter_cons,h3,h4]
theorem bl_low (x:Nat) (h0:x≠0) (hx:x<2^64):bl 64 x=Go.Lib.ctz 64 x::bl 64 (x &&& (x-1)):=by
 obtain ⟨m,hm,hlt⟩:=Go.Lib.ctzFrom_spec 64 x (by omega) hx;have e:Go.Lib.ctz 64 x=Go.Lib.ctzFrom 64 x:=by unfold Go.Lib.ctz;rw [if_neg h0]
 rw [e];generalize Go.Lib.ctzFrom 64 x=k at *
 subst hm;rw [zh5];have:=ov k m (64-k-1);rwa [show k+1+(64-k-1)=64 by omega] at this
theorem ou (n:Nat):bl n 0=[]:=by
 unfold bl;rw [List.filter_eq_nil_iff];intro i _;simp
def vl (s:Nat):List Int:=(bl 64 (lo s)).map (fun i:Nat=>(i:Int)+1)++(bl 64 (hi s)).map (fun i:Nat=>64+(i:Int)+1)
theorem zct (s:Nat):(vl s).length≤128:=by
 unfold vl bl;simp only [List.length_append,List.length_map];have h1:=List.length_filter_le (fun i=>(lo s).testBit i) (List.range 64);have h2:=List.length_filter_le (fun i=>(hi s).testBit i) (List.range 64);rw [List.length_range] at h1 h2;omega
theorem zjL (s:Nat):vl s=(zgW s).map fun v:Nat=>(v:Int):=by
 unfold vl zgW bl;have e:List.range 128=List.range 64++(List.range 64).map (·+64):=by decide
 rw [e,List.filter_append,List.map_append,List.map_append];congr 1
 ·rw [List.map_map];have:(List.range 64).filter (fun i=>(lo s).testBit i)=(List.range 64).filter (fun i=>s.testBit i):=by
   apply List.filter_congr;intro i hi;rw [jO];simp [List.mem_range.1 hi]
  rw [this];apply List.map_congr_left;intro i _;simp
 ·rw [List.filter_map,List.map_map,List.map_map];have:(List.range 64).filter (fun i=>(hi s).testBit i)=(List.range 64).filter ((fun i=>s.testBit i) ∘ (·+64)):=by
   apply List.filter_congr;intro i hi;rw [jN];simp [List.mem_range.1 hi]
  rw [this];apply List.map_congr_left;intro i _;simp;omega
theorem zjD (x:Nat):(bl 64 x).length≤64:=by
 have:=List.length_filter_le (fun i=>x.testBit i) (List.range 64);rw [List.length_range] at this;exact this
def f0 (i:Nat):Int:=(i:Int)+1
def f1 (i:Nat):Int:=64+(i:Int)+1
theorem vl_f (s:Nat):vl s=(bl 64 (lo s)).map f0++(bl 64 (hi s)).map f1:=rfl
end Cs
end
section
namespace Cs
theorem jj (i:Nat):0<(10:Nat)^i:=Nat.pow_pos (by decide)
theorem zfV (V i:Nat):dg 10 V i=V%10^(i+1) / 10^i:=by
 unfold dg;rw [Nat.pow_succ,Nat.mod_mul_right_div_self]
theorem dg_low (T x m j:Nat) (h:j<m):dg 10 (T+10^m*x) j=dg 10 T j:=by
 rw [zfV,zfV];obtain ⟨r,rfl⟩:∃ r,m=j+1+r:=⟨m-(j+1),by omega⟩;rw [Nat.pow_add,Nat.mul_assoc,Nat.add_mul_mod_self_left]
theorem zg6 (T x m:Nat):(T+10^m*x) / 10^m=T / 10^m+x:=Nat.add_mul_div_left _ _ (jj m)
theorem dg_high (T X m j:Nat) (hT:T<10^m) (h:m≤j):dg 10 (T+10^m*X) j=dg 10 X (j-m):=by
 obtain ⟨r,rfl⟩:∃ r,j=m+r:=⟨j-m,by omega⟩;unfold dg;rw [Nat.pow_add,← Nat.div_div_eq_div_mul,zg6,Nat.div_eq_of_lt hT,Nat.zero_add,Nat.add_sub_cancel_left]
theorem dg_at (T x m:Nat):dg 10 (T+10^m*x) m=(T / 10^m+x)%10:=by unfold dg;rw [zg6]
theorem div_at (T x m:Nat):(T+10^m*x) / 10^(m+1)=(T / 10^m+x) / 10:=by
 rw [Nat.pow_succ,← Nat.div_div_eq_div_mul,zg6]
def yh (a b i:Nat):Nat:=(a%10^i+b%10^i) / 10^i
theorem cry_zero (a b:Nat):yh a b 0=0:=by simp [yh,Nat.mod_one]
theorem og (a b i:Nat):a%10^(i+1)+b%10^(i+1)=(a%10^i+b%10^i)+10^i*(dg 10 a i+dg 10 b i):=by
 rw [pV,pV,Nat.mul_add];omega
theorem cry_dg (a b i:Nat):(dg 10 a i+dg 10 b i+yh a b i)%10=dg 10 (a+b) i:=by
 have h:dg 10 (a+b) i=dg 10 (a%10^(i+1)+b%10^(i+1)) i:=by
  rw [zfV,zfV (a%10^(i+1)+b%10^(i+1)),← Nat.add_mod]
 rw [h,og,dg_at];unfold yh;congr 1;omega
theorem zj7 (a b i:Nat):(dg 10 a i+dg 10 b i+yh a b i) / 10=yh a b (i+1):=by
 unfold yh;rw [og,div_at];congr 1;omega
theorem cry_le (a b i:Nat):yh a b i≤1:=by
 unfold yh;have h1:=Nat.mod_lt a (jj i);have h2:=Nat.mod_lt b (jj i);have:(a%10^i+b%10^i) / 10^i<2:=by rw [Nat.div_lt_iff_lt_mul (jj i)];omega
 omega
theorem zbM (V n:Nat):nd 10 V≤n↔V<10^n:=yg 10 (by decide) n V
theorem cry_end (a b i:Nat) (ha:nd 10 a≤i) (hb:nd 10 b≤i) (h:yh a b i=0):nd 10 (a+b)≤i:=by
 unfold yh at h;rw [zh0 10 a i (by decide) ha,zh0 10 b i (by decide) hb,Nat.div_eq_zero_iff] at h;have:=jj i;rw [zbM];omega
theorem pQ (V:Nat):nd 10 V≤zz V:=by unfold zz;omega
theorem zec (V n:Nat) (h:V<10^n) (hn:1≤n):zz V≤n:=by
 have:=(zbM V n).2 h;unfold zz;omega
theorem ze9 (V:Nat):1≤zz V:=by unfold zz;omega
theorem cry_ge (a b i:Nat) (ha:nd 10 a≤i) (hb:nd 10 b≤i):yh a b (i+1)=0:=by
 rw [← zj7,jc 10 a i (by decide) ha,jc 10 b i (by decide) hb];have:=cry_le a b i;omega
def mxd (T P m j:Nat):Nat:=if j<m then dg 10 T j else dg 10 P j
def mT (P d b i k:Nat):Nat:=P%10^(i+k)+10^i*(d*(b%10^k))
theorem gQ (P d b i:Nat):mT P d b i 0=P%10^i:=by simp [mT,Nat.mod_one]
theorem zis (P d b i k:Nat):mT P d b i (k+1)=mT P d b i k+10^(i+k)*(dg 10 P (i+k)+d*dg 10 b k):=by
 unfold mT;have e:i+(k+1)=i+k+1:=by omega
 rw [e,pV,pV 10 b k,Nat.mul_add d,Nat.mul_add (10^i),Nat.mul_add (10^(i+k)),Nat.pow_add 10 i k];have e2:10^i*(d*(10^k*dg 10 b k))=10^i*10^k*(d*dg 10 b k):=by
  rw [Nat.mul_assoc,← Nat.mul_assoc d,Nat.mul_comm d (10^k),Nat.mul_assoc (10^k)]
 rw [e2];omega
def mc (P d b i k:Nat):Nat:=mT P d b i k / 10^(i+k)
theorem mc_zero (P d b i:Nat):mc P d b i 0=0:=by
 unfold mc;rw [gQ,Nat.add_zero,Nat.div_eq_of_lt (Nat.mod_lt _ (jj i))]
theorem mc_succ (P d b i k:Nat):(dg 10 P (i+k)+d*dg 10 b k+mc P d b i k) / 10=mc P d b i (k+1):=by
 unfold mc;rw [zis,show i+(k+1)=i+k+1 by omega,div_at];congr 1;omega
theorem mc_le (P d b i k:Nat) (hd:d≤9):mc P d b i k≤9:=by
 have h1:=Nat.mod_lt P (jj (i+k));have h2:=Nat.mod_lt b (jj k);have h3:10^i*(d*(b%10^k))≤9*10^(i+k):=by
  rw [Nat.pow_add]
  calc 10^i*(d*(b%10^k))≤10^i*(9*10^k):=Nat.mul_le_mul_left _ (Nat.mul_le_mul hd (by omega))
   _=9*(10^i*10^k):=by rw [← Nat.mul_assoc,Nat.mul_comm _ 9,Nat.mul_assoc]
 have:mc P d b i k<10:=by
  unfold mc;rw [Nat.div_lt_iff_lt_mul (jj _)];unfold mT;omega
 omega
theorem mxd_zero (P d b i j:Nat):mxd (mT P d b i 0) P (i+0) j=dg 10 P j:=by
 unfold mxd;split
 ·rw [gQ,zfV,zfV];obtain ⟨r,hr⟩:∃ r,i=j+1+r:=⟨i-(j+1),by omega⟩;rw [hr,Nat.pow_add,Nat.mod_mul_right_mod]
 ·rfl
theorem mxd_here (P d b i k:Nat):mxd (mT P d b i k) P (i+k) (i+k)=dg 10 P (i+k):=by unfold mxd;rw [if_neg (by omega)]
theorem mxd_succ (P d b i k j:Nat):mxd (mT P d b i (k+1)) P (i+(k+1)) j=if j=i+k then (dg 10 P (i+k)+d*dg 10 b k+mc P d b i k)%10 else mxd (mT P d b i k) P (i+k) j:=by
 unfold mxd;by_cases h:j=i+k
 ·subst h;rw [if_pos (by omega),if_pos rfl,zis,dg_at];unfold mc;congr 1;omega
 ·rw [if_neg h];by_cases h2:j<i+k
  ·rw [if_pos (by omega),if_pos h2,zis,dg_low _ _ _ _ h2]
  ·rw [if_neg (by omega),if_neg h2]
theorem mxd_end (P d b i k j:Nat) (hb:nd 10 b≤k) (hc:mc P d b i k=0):mxd (mT P d b i k) P (i+k) j=dg 10 (P+10^i*(d*b)) j:=by
 have hT:mT P d b i k<10^(i+k):=by
  unfold mc at hc;rw [Nat.div_eq_zero_iff] at hc;have:=jj (i+k);omega
 have e:P+10^i*(d*b)=mT P d b i k+10^(i+k)*(P / 10^(i+k)):=by
  unfold mT;rw [zh0 10 b k (by decide) hb];have:=Nat.mod_add_div P (10^(i+k));omega
 unfold mxd;split
 ·rename_i h;rw [e,dg_low _ _ _ _ h]
 ·rename_i h;rw [e,dg_high _ _ _ _ hT (by omega)];unfold dg;rw [Nat.div_div_eq_div_mul,← Nat.pow_add,show i+k+(j-(i+k))=j by omega]
theorem mc_end (P d b i n:Nat) (hb:nd 10 b≤n) (hP:P+10^i*(d*b)<10^(i+n+1)):mc P d b i (n+1)=0:=by
 unfold mc;apply Nat.div_eq_of_lt;unfold mT;rw [zh0 10 b (n+1) (by decide) (by omega)];have:=Nat.mod_le P (10^(i+(n+1)));rw [show i+(n+1)=i+n+1 by omega] at this ⊢;omega
def mP (a b i:Nat):Nat:=a%10^i*b
theorem mP_zero (a b:Nat):mP a b 0=0:=by simp [mP,Nat.mod_one]
theorem gR (a b i:Nat):mP a b (i+1)=mP a b i+10^i*(dg 10 a i*b):=by
 unfold mP;rw [pV,Nat.add_mul,Nat.mul_assoc]
theorem mP_lt (a b i n:Nat) (hb:nd 10 b≤n):mP a b i<10^(i+n):=by
 unfold mP;rw [Nat.pow_add];exact Nat.mul_lt_mul'' (Nat.mod_lt _ (jj i)) ((zbM b n).1 hb)
theorem mP_end (a b i:Nat) (ha:nd 10 a≤i):mP a b i=a*b:=by unfold mP;rw [zh0 10 a i (by decide) ha]
theorem mP_mc (a b i n:Nat) (hb:nd 10 b≤n):mc (mP a b i) (dg 10 a i) b i (n+1)=0:=by
 apply mc_end _ _ _ _ _ hb;rw [← gR];have:=mP_lt a b (i+1) n hb;rw [show i+n+1=i+1+n by omega];exact this
end Cs
end
section
namespace Go
section
variable {P:Program} {ops:Array Oper} {Q:Exit→Act→World→Prop} {md:Region.Mode} {S:World→Prop} {st:Nat}
def Region.shutL (md:Region.Mode) (ops:Array Oper) (listed:Array Bool):Prop :=
 ∀ k o,ops[k]?=some o→listed.getD k false=true→∀ e∈o.after,Region.binds md e=true→listed.getD e.on false=true
def Region.shutB (md:Region.Mode) (ops:Array Oper) (listed:Array Bool):Bool :=
 (List.range ops.size).all fun k=>!listed.getD k false||((ops[k]?).map (·.after.all fun e=>!Region.binds md e||listed.getD e.on false)).getD true
theorem Region.shutB_spec {listed:Array Bool} (h:Region.shutB md ops listed=true):Region.shutL md ops listed:=by
 intro k o ho hk e he hb;unfold Region.shutB at h;rw [List.all_eq_true] at h;have h1:=h k (by rw [List.mem_range];exact (Array.getElem?_eq_some_iff.1 ho).1);rw [ho,hk] at h1;simp only [Bool.not_true,Bool.false_or,Option.map_some,Option.getD_some,Array.all_eq_true'] at h1;have h2:=h1 e he;rw [hb] at h2;simpa using h2
theorem Region.shutL_set {listed:Array Bool} {j:Nat} (h:Region.shutL md ops listed) (hj:j∈Region.ready md ops listed):Region.shutL md ops (listed.setIfInBounds j true):=by
 intro k o ho hk e he hb;by_cases hkj:j=k
 ·subst hkj;obtain ⟨_,o',ho',hall⟩:=mem_ready.1 hj;rw [ho] at ho';cases ho'
  exact getD_set_true (hall e he hb)
 ·rw [getD_set_ne false hkj] at hk;exact getD_set_true (h k o ho hk e he hb)
def Region.mark (md:Region.Mode) (ops:Array Oper) (k:Nat) (c:Array Bool):Array Bool :=
 match ops[k]? with
 | some o=>o.after.toList.foldl (fun c e=>if Region.binds md e then c.setIfInBounds e.on true else c) c
 | none=>c
def Region.cover (md:Region.Mode) (ops:Array Oper):Nat→Array Bool→Array Bool
 | 0,c=>c
 | k+1,c=>Region.cover md ops k (if c.getD k false then Region.mark md ops k c else c)
def Region.lastB (md:Region.Mode) (ops:Array Oper) (st:Nat):Bool :=
 let c:=Region.cover md ops ops.size (Region.mark md ops st (Array.replicate ops.size false))
 (List.range ops.size).all fun k=>k==st||c.getD k false
theorem Region.mark_spec {listed c:Array Bool} {k:Nat} (hc:∀ m,c.getD m false=true→listed.getD m false=true)
  (hk:∀ o,ops[k]?=some o→∀ e∈o.after,Region.binds md e=true→listed.getD e.on false=true):∀ m,(Region.mark md ops k c).getD m false=true→listed.getD m false=true:=by
 unfold Region.mark;cases ho:ops[k]? with
 | none=>exact hc
 | some o =>
   have hall:∀ e∈o.after.toList,Region.binds md e=true→listed.getD e.on false=true:=fun e he hb=>hk o ho e (by simpa using he) hb;simp only;generalize o.after.toList=l at hall ⊢
   induction l generalizing c with
   | nil=>exact hc
   | cons e l ih =>
     rw [List.foldl_cons];refine ih ?_ fun e' he'=>hall e' (List.mem_cons_of_mem _ he');split
     ·rename_i hb;intro m hm;by_cases hme:e.on=m
      ·subst hme;exact hall e (List.mem_cons_self ..) hb
      ·rw [getD_set_ne false hme] at hm;exact hc m hm
     ·exact hc
theorem Region.cover_spec {listed:Array Bool} (hcl:Region.shutL md ops listed):∀ (n:Nat) (c:Array Bool),(∀ m,c.getD m false=true→listed.getD m false=true)→∀ m,(Region.cover md ops n c).getD m false=true→listed.getD m false=true
 | 0,_,hc=>hc
 | n+1,c,hc=>by
   unfold Region.cover;refine Region.cover_spec hcl n _ ?_;split
   ·rename_i h;exact Region.mark_spec hc fun o ho e he hb=>hcl n o ho (hc n h) e he hb
   ·exact hc
theorem Region.last_spec {listed:Array Bool} (hl:Region.lastB md ops st=true) (hcl:Region.shutL md ops listed) (hst:st∈Region.ready md ops listed) {i:Nat} (hi:i∈Region.ready md ops listed):i=st:=by
 obtain ⟨h0,o,ho,_⟩:=mem_ready.1 hi;obtain ⟨_,os,hos,hall⟩:=mem_ready.1 hst;unfold Region.lastB at hl;rw [List.all_eq_true] at hl;have h1:=hl i (by rw [List.mem_range];exact (Array.getElem?_eq_some_iff.1 ho).1);rw [Bool.or_eq_true,beq_iff_eq] at h1;rcases h1 with h1 | h1
 ·exact h1
 ·exfalso
  have h2:=Region.cover_spec hcl _ _ (Region.mark_spec (c:=Array.replicate ops.size false) (fun m hm=>by simp [Array.getD_eq_getD_getElem?,Array.getElem?_replicate] at hm;split at hm <;> simp at hm) fun o' ho' e he hb=>by
   rw [hos] at ho';cases ho';exact hall e he hb) i h1
  rcases Nat.lt_or_ge i listed.size with h' | h'
  ·simp [h'] at h0 h2;rw [h0] at h2;cases h2
  ·simp [Array.getElem?_eq_none h'] at h0
def pO (P:Program) (md:Region.Mode) (ops:Array Oper) (Q:Exit→Act→World→Prop) (S:World→Prop) (st:Nat):Nat→Array Bool→Act→World→Prop
 | 0,listed,a,w=>Region.ready md ops listed=[]∧Q .normal a w
 | fuel+1,listed,a,w =>
   (Region.ready md ops listed=[]→Q .normal a w) ∧
   ∀ i∈Region.ready md ops listed,wpOp P ops Q i (fun a' w'=>(i≠st→S w')∧pO P md ops Q S st fuel (listed.setIfInBounds i true) a' w') a w
theorem zdi:∀ (fuel:Nat) (listed:Array Bool) (a:Act) (w:World),pO P md ops Q S st fuel listed a w→wpAny P md ops Q fuel listed a w
 | 0,_,_,_,h=>h
 | fuel+1,_,_,_,h=>⟨h.1,fun i hi=>wpOp_mono (fun a' w' h'=>zdi fuel _ a' w' h'.2) (h.2 i hi)⟩
theorem zgQ {i:Nat} {oi:Oper} {v:Value} (hi:ops[i]?=some oi) (hsel:∀ (j:Nat) (o:Oper) cs b,ops[j]?=some o→o.op≠.select cs b)
  (hQ:∀ c a w,Q (.panic c) (a.put oi.dst v) w→Q (.panic c) a w) (hl:Region.lastB md ops st=true) :
  ∀ (fuel:Nat) (listed:Array Bool) (a:Act) (w:World),
   (∀ j oj,ops[j]?=some oj→j≠i→listed.getD j true=false→(∀ e∈oj.after,Region.binds md e=true→e.on≠i)→oi.apart ops oj=true) →
   Region.shutL md ops listed→i∈Region.ready md ops listed→YieldsIf P ops S oi v a→S w →
   pO P md ops Q S st fuel (listed.setIfInBounds i true) (a.put oi.dst v) w→pO P md ops Q S st (fuel+1) listed a w:=by
 intro fuel
 induction fuel with
 | zero =>
   intro listed a w _ _ hr hy hS H;refine ⟨fun h=>(by rw [h] at hr;cases hr),fun j hj=>?_⟩;by_cases hji:j=i
   ·subst hji;exact hy.wpOp hi hS ⟨fun _=>hS,H⟩
   ·have:=ready_mono hj hji;rw [H.1] at this;cases this
 | succ fuel ih =>
   intro listed a w hfree hcl hr hy hS H;refine ⟨fun h=>(by rw [h] at hr;cases hr),fun j hj=>?_⟩;by_cases hji:j=i
   ·subst hji;exact hy.wpOp hi hS ⟨fun _=>hS,H⟩
   ·have hjst:j≠st:=fun e=>hji (by subst e;exact (Region.last_spec hl hcl hj hr).symm);have h1:=H.2 j (ready_mono hj hji);obtain ⟨hjun,oj,hoj,hall⟩:=mem_ready.1 hj;have hnot:∀ e∈oj.after,Region.binds md e=true→e.on≠i:=fun e he hb heq=>by
     have h1:=hall e he hb;have h0:=(mem_ready.1 hr).1;rw [heq] at h1;rcases Nat.lt_or_ge i listed.size with h' | h'
     ·simp [h'] at h0 h1;rw [h0] at h1;cases h1
     ·simp [Array.getElem?_eq_none h'] at h1
    have h2:=wpOp_putIf hoj (hfree j oj hoj hji hjun hnot) (fun cs b=>hsel i oi cs b hi) (fun cs b=>hsel j oj cs b hoj) hQ hy h1;have hfree':∀ k ok,ops[k]?=some ok→k≠i→(listed.setIfInBounds j true).getD k true=false →
      (∀ e∈ok.after,Region.binds md e=true→e.on≠i)→oi.apart ops ok=true:=fun k ok hk hki hun hno=>by
     refine hfree k ok hk hki ?_ hno;by_cases hjk:j=k
     ·subst hjk;exact hjun
     ·rw [getD_set_ne true hjk] at hun;exact hun
    refine wpOp_mono (fun a' w' h3=>⟨fun _=>h3.2.1 hjst,ih (listed.setIfInBounds j true) a' w' hfree' (Region.shutL_set hcl hj) (ready_mono hr (Ne.symm hji)) h3.1 (h3.2.1 hjst) ?_⟩) h2;rw [Array.setIfInBounds_comm _ _ hji];exact h3.2.2
theorem zhP {i:Nat} {oi:Oper} {v:Value} {fuel:Nat} {listed:Array Bool} {a:Act} {w:World} (hS:S w) (hl:Region.lastB md ops st=true) (hi:ops[i]?=some oi)
  (hs:Region.noSelect ops=true) (hr:((Region.ready md ops listed).contains i&&Region.free md ops listed i&&Region.shutB md ops listed)=true)
  (hQ:∀ c a w,Q (.panic c) (a.put oi.dst v) w→Q (.panic c) a w) (hy:YieldsIf P ops S oi v a)
  (h:pO P md ops Q S st fuel (listed.setIfInBounds i true) (a.put oi.dst v) w):pO P md ops Q S st (fuel+1) listed a w:=by
 rw [Bool.and_eq_true,Bool.and_eq_true] at hr;exact zgQ hi (Region.noSelect_spec hs) hQ hl fuel listed a w (Region.free_spec hi hr.1.2) (Region.shutB_spec hr.2) (by simpa using hr.1.1) hy hS h
theorem zM (i:Nat) {oi:Oper} {v:Value} {fuel:Nat} {listed:Array Bool} {a:Act} {w:World} (hS:S w) (hi:ops[i]?=some oi) (hy:YieldsIf P ops S oi v a)
 (h:pO P md ops Q S st fuel (listed.setIfInBounds i true) (a.put oi.dst v) w) (hl:Region.lastB md ops st=true:=by kernel_rfl) (hs:Region.noSelect ops=true:=by kernel_rfl)
 (hr:((Region.ready md ops listed).contains i&&Region.free md ops listed i&&Region.shutB md ops listed)=true:=by kernel_rfl) (hQ:∀ c a w,Q (.panic c) (a.put oi.dst v) w→Q (.panic c) a w:=by exact fun _ _ _ h=>h):pO P md ops Q S st (fuel+1) listed a w :=
 zhP hS hl hi hs hr hQ hy h
theorem jU (i:Nat) {o:Oper} {fuel:Nat} {listed:Array Bool} {a:Act} {w:World} (hr:Region.ready md ops listed=[i]) (ho:ops[i]?=some o)
  (h:∀ K':Act→World→Prop,Shut (∀ a w,(i≠st→S w)→((i≠st→S w)→pO P md ops Q S st fuel (listed.setIfInBounds i true) a w)→K' a w)→if Region.wanted o (yielded ops a.tmps)=true then Oper.wp P o a w K' Q else K' (a.put o.dst undef) w) :
  pO P md ops Q S st (fuel+1) listed a w :=
 ⟨fun h0=>(by rw [hr] at h0;cases h0),fun j hj=>by
   rw [hr] at hj;obtain rfl:=List.mem_singleton.1 hj;exact wpOp_step ho fun K' hK=>h K' (fun a w hS hW=>hK a w ⟨hS,hW hS⟩)⟩
theorem zc1 {listed:Array Bool} {a:Act} {w:World} (hr:Region.ready md ops listed=[]) (h:Q .normal a w):∀ fuel,pO P md ops Q S st fuel listed a w
 | 0=>⟨hr,h⟩
 | _+1=>⟨fun _=>h,by rw [hr];simp⟩
theorem zb8 (S:World→Prop) (st:Nat) {id:Nat} {a:Act} {w:World} (hm:P.follows .mixedOrders=true) (hS:S w.drew)
  (h:S w.drew→pO P .any ops Q S st ops.size (Array.replicate ops.size false) a w.drew):(Code.region id ops true).wp P Q a w :=
 wp_region_any hm (zdi _ _ _ _ (h hS))
end
end Go
end
