import Derived.Test.YtmhllppjcilllaaGreatDoorHp
import Derived.Test.YtmhllppjcilllaaGreatDoorM1
set_option linter.unusedSimpArgs false
set_option linter.unusedVariables false
section
open Go Go.RowKit
end
section
section
namespace Cs
theorem zhq {s:Nat} (hs:s≤32):2^s*2^(32-s)=4294967296:=by
 rw [← Nat.pow_add,show s+(32-s)=32 by omega]
def jp (V s i:Nat):Nat:=(V%2^(32*i))*2^s / 2^(32*i)
theorem shC_zero (V s:Nat):jp V s 0=0:=by simp [jp,Nat.mod_one]
theorem ziQ (V s i:Nat):jp V s i<2^s:=by
 unfold jp;rw [Nat.div_lt_iff_lt_mul (Nat.pow_pos (by decide)),Nat.mul_comm (2^s)];exact Nat.mul_lt_mul_of_pos_right (Nat.mod_lt _ (Nat.pow_pos (by decide))) (Nat.pow_pos (by decide))
theorem xA (V s i:Nat):V*2^s / 2^(32*i)=V / 2^(32*i)*2^s+jp V s i:=by
 have h:V*2^s=(V%2^(32*i))*2^s+2^(32*i)*(V / 2^(32*i)*2^s):=by
  conv=>lhs;rw [← Nat.mod_add_div V (2^(32*i))]
  rw [Nat.add_mul,Nat.mul_assoc]
 rw [h,Nat.add_mul_div_left _ _ (Nat.pow_pos (by decide)),Nat.add_comm];rfl
theorem shC_succ (V s i:Nat) (hs:s≤32):jp V s (i+1)=wd V i / 2^(32-s):=by
 have hp:=zhq hs;have h0:0<2^(32-s):=Nat.pow_pos (by decide);have h1:=ziQ V s i;have e:jp V s (i+1)=(wd V i*2^s+jp V s i) / 4294967296:=by
  unfold jp;rw [zbW,zbE,← Nat.div_div_eq_div_mul,Nat.add_mul,Nat.mul_assoc,Nat.add_mul_div_left _ _ (Nat.pow_pos (by decide)),Nat.add_comm]
 rw [e,← hp,← Nat.div_div_eq_div_mul,Nat.mul_comm (wd V i),Nat.mul_add_div (Nat.pow_pos (by decide)),Nat.div_eq_of_lt h1,Nat.add_zero]
theorem zkf (V s i:Nat) (hs:s<32):(wd V i*2^s)%4294967296 ||| jp V s i=wd (V*2^s) i:=by
 have hp:=zhq (Nat.le_of_lt hs);have h1:=ziQ V s i;have h0:0<2^s:=Nat.pow_pos (by decide);have e1:(wd V i*2^s)%4294967296=(wd V i%2^(32-s))*2^s:=by
  rw [← hp,Nat.mul_comm (2^s),Nat.mul_mod_mul_right]
 rw [e1,← Nat.shiftLeft_eq,← Nat.shiftLeft_add_eq_or_of_lt h1,Nat.shiftLeft_eq];show _=V*2^s / 2^(32*i)%4294967296;rw [xA];have e2:V / 2^(32*i)*2^s=(wd V i%2^(32-s))*2^s+4294967296*(V / 2^(32*i) / 2^(32-s)):=by
  have h2:wd V i%2^(32-s)=V / 2^(32*i)%2^(32-s):=by
   unfold wd;rw [← hp,Nat.mul_comm (2^s),Nat.mod_mul_right_mod]
  rw [h2]
  conv=>lhs;rw [← Nat.mod_add_div (V / 2^(32*i)) (2^(32-s))]
  rw [Nat.add_mul,← hp];congr 1
  ac_rfl
 rw [e2,Nat.add_right_comm,Nat.add_mul_mod_self_left];refine (Nat.mod_eq_of_lt ?_).symm;have h3:wd V i%2^(32-s)<2^(32-s):=Nat.mod_lt _ (Nat.pow_pos (by decide))
 calc wd V i%2^(32-s)*2^s+jp V s i<wd V i%2^(32-s)*2^s+2^s:=by omega
  _=(wd V i%2^(32-s)+1)*2^s:=by rw [Nat.add_mul,Nat.one_mul]
  _≤2^(32-s)*2^s:=Nat.mul_le_mul_right _ h3
  _=4294967296:=by rw [Nat.mul_comm];exact hp
theorem pJ (V s i:Nat) (hs:s<32):wd V i / 2^s ||| (wd V (i+1)*2^(32-s))%4294967296=wd (V / 2^s) i:=by
 apply Nat.eq_of_testBit_eq;intro j;unfold wd;rw [show (4294967296:Nat)=2^32 by rfl];simp only [Nat.testBit_or,Nat.testBit_mod_two_pow,Nat.testBit_div_two_pow,Nat.testBit_mul_two_pow];by_cases hj:j<32
 ·by_cases h2:j+s<32
  ·have h3:¬ 32-s≤j:=by omega
   have e:j+s+32*i=j+32*i+s:=by omega
   simp [hj,h2,h3,e]
  ·have h3:32-s≤j:=by omega
   have h4:j-(32-s)<32:=by omega
   have e:j-(32-s)+32*(i+1)=j+32*i+s:=by omega
   simp [hj,h2,h3,h4,e]
 ·have h2:¬ j+s<32:=by omega
  simp [hj,h2]
theorem zjX {top x0 y1 y0 d rest K L M U Y:Nat} (hK:0<K) (hL:L<K) (hU:U=(top*4294967296+x0)*K+L) (hY:Y=(y1*4294967296+y0)*K+M)
  (hr:top=d*y1+rest) (hx:x0<4294967296) (hlt:U<4294967296*Y) (hd:4294967296≤d∨rest*4294967296+x0<d*y0):U<d*Y:=by
 rcases hd with hd | hd
 ·exact Nat.lt_of_lt_of_le hlt (Nat.mul_le_mul_right _ hd)
 ·have h1:top*4294967296+x0+1≤d*(y1*4294967296+y0):=by
   rw [hr,Nat.mul_add,Nat.add_mul,← Nat.mul_assoc];omega
  have h2:(top*4294967296+x0+1)*K≤d*(y1*4294967296+y0)*K:=Nat.mul_le_mul_right _ h1;rw [hU,hY,Nat.mul_add,← Nat.mul_assoc];rw [Nat.add_mul _ 1 K,Nat.one_mul] at h2;have h3:0≤d*M:=Nat.zero_le _;omega
theorem zjW {top x0 y1 y0 d rest K L M U Y:Nat} (hM:M<K) (hU:U=(top*4294967296+x0)*K+L) (hY:Y=(y1*4294967296+y0)*K+M)
  (hr:top=d*y1+rest) (hd:d<4294967296) (hy:2147483648≤y1) (h:d*y0≤rest*4294967296+x0):d*Y<U+Y:=by
 have h1:d*(y1*4294967296+y0)≤top*4294967296+x0:=by
  rw [hr,Nat.mul_add,Nat.add_mul,← Nat.mul_assoc];omega
 have h2:d*(y1*4294967296+y0)*K≤(top*4294967296+x0)*K:=Nat.mul_le_mul_right _ h1;have h3:d*M≤4294967295*M:=Nat.mul_le_mul_right _ (by omega);have h4:4294967295*M≤4294967295*K:=Nat.mul_le_mul_left _ (Nat.le_of_lt hM);have h5:y1*4294967296*K≤(y1*4294967296+y0)*K:=Nat.mul_le_mul_right _ (Nat.le_add_right _ _);have h6:4294967296*K≤y1*4294967296*K:=by
  rw [Nat.mul_assoc];exact Nat.le_mul_of_pos_left _ (by omega)
 have hK:0<K:=by omega
 rw [hU,hY,Nat.mul_add,← Nat.mul_assoc];omega
theorem zib {top x0 y1 y0 K L M U Y:Nat} (hK:0<K) (hL:L<K) (hU:U=(top*4294967296+x0)*K+L) (hY:Y=(y1*4294967296+y0)*K+M)
  (hx:x0<4294967296) (hy:0<y1):U<(top / y1+1)*Y:=by
 have h1:top+1≤(top / y1+1)*y1:=by
  have:=Nat.div_add_mod top y1;have h2:=Nat.mod_lt top hy;rw [Nat.add_mul,Nat.one_mul,Nat.mul_comm];omega
 have h2:(top+1)*(4294967296*K)≤(top / y1+1)*y1*(4294967296*K):=Nat.mul_le_mul_right _ h1;have h3:(top / y1+1)*y1*(4294967296*K)≤(top / y1+1)*Y:=by
  rw [hY,Nat.mul_assoc];refine Nat.mul_le_mul_left _ ?_;rw [← Nat.mul_assoc,Nat.add_mul _ _ K];omega
 have h4:U<(top+1)*(4294967296*K):=by
  rw [hU,Nat.add_mul,Nat.add_mul,Nat.one_mul,← Nat.mul_assoc];have h5:x0*K+K≤4294967296*K:=by
   rw [← Nat.succ_mul];exact Nat.mul_le_mul_right _ hx
  omega
 omega
theorem xc {top x0 y1 y0 K L M U Y:Nat} (hK:0<K) (hM:M<K) (hU:U=(top*4294967296+x0)*K+L) (hY:Y=(y1*4294967296+y0)*K+M)
  (hlt:U<4294967296*Y):top≤y1*4294967296+y0:=by
 refine Nat.le_of_not_lt fun h=>?_;generalize y1*4294967296+y0=P at h hY;have h1:(P+1)*(4294967296*K)≤top*(4294967296*K):=Nat.mul_le_mul_right _ h;have h2:top*(4294967296*K)≤U:=by
  rw [hU,Nat.add_mul,← Nat.mul_assoc];omega
 rw [show (P+1)*(4294967296*K)=4294967296*(P*K+K) by rw [Nat.add_mul,Nat.one_mul,Nat.mul_left_comm,← Nat.mul_add]] at h1;generalize P*K=Q at h1 hY;omega
def tb (T Y d k:Nat):Nat:=(T%2^(32*k)+d*(Y%2^(32*k))) / 2^(32*k)
theorem tb_zero (T Y d:Nat):tb T Y d 0=0:=by simp [tb,Nat.mod_one]
theorem tb_le (T Y d k:Nat):tb T Y d k≤d:=by
 unfold tb;have hp:0<2^(32*k):=Nat.pow_pos (by decide);generalize 2^(32*k)=p at hp;have h1:=Nat.mod_lt T hp;have h2:d*(Y%p)≤d*p:=Nat.mul_le_mul_left _ (Nat.le_of_lt (Nat.mod_lt Y hp));rw [← Nat.lt_succ_iff,Nat.div_lt_iff_lt_mul hp,Nat.succ_mul];omega
theorem j9 (T Y d k:Nat):(tb T Y d k+(wd T k+d*wd Y k)) / 4294967296=tb T Y d (k+1):=by
 unfold tb;rw [zbW,zbW,zbE,← Nat.div_div_eq_div_mul];have e:T%2^(32*k)+2^(32*k)*wd T k+d*(Y%2^(32*k)+2^(32*k)*wd Y k)=T%2^(32*k)+d*(Y%2^(32*k))+2^(32*k)*(wd T k+d*wd Y k):=by
  rw [Nat.mul_add d,Nat.mul_add (2^(32*k)),Nat.mul_left_comm d];omega
 rw [e,Nat.add_mul_div_left _ _ (Nat.pow_pos (by decide))]
theorem tb_word (T Y d k:Nat):(tb T Y d k+(wd T k+d*wd Y k))%4294967296=wd (T+d*Y) k:=by
 have hp:0<2^(32*k):=Nat.pow_pos (by decide);have e:T+d*Y=T%2^(32*k)+d*(Y%2^(32*k))+2^(32*k)*(T / 2^(32*k)+d*(Y / 2^(32*k))):=by
  conv=>lhs;rw [← Nat.mod_add_div T (2^(32*k)),← Nat.mod_add_div Y (2^(32*k))]
  rw [Nat.mul_add d,Nat.mul_add (2^(32*k)),Nat.mul_left_comm d];omega
 show _=(T+d*Y) / 2^(32*k)%4294967296;rw [e,Nat.add_mul_div_left _ _ hp];show (tb T Y d k+(T / 2^(32*k)%4294967296+d*(Y / 2^(32*k)%4294967296)))%4294967296=_;show _=(tb T Y d k+(T / 2^(32*k)+d*(Y / 2^(32*k))))%4294967296;generalize T / 2^(32*k)=a;generalize Y / 2^(32*k)=b;simp only [Nat.add_mod,Nat.mul_mod,Nat.mod_mod]
theorem xm {u t part:Nat} (ht:t<4294967296) (hu:u=(t+part)%4294967296) :
  t=(u+4294967296-part%4294967296)%4294967296∧(t+part) / 4294967296=part / 4294967296+if u<part%4294967296 then 1 else 0:=by
 subst hu;constructor
 ·omega
 ·split <;> omega
theorem zgc (Z i k:Nat):wd Z (i+k)=wd (Z / 2^(32*i)) k:=by
 unfold wd;rw [Nat.div_div_eq_div_mul,← Nat.pow_add,Nat.mul_add]
theorem o7 (Z n j:Nat) (h:j<n):wd (Z%2^(32*n)) j=wd Z j:=by
 conv=>rhs;rw [← Nat.mod_add_div Z (2^(32*n))]
 rw [zgT _ _ _ _ h]
def lr (X Y i:Nat):Nat:=X%(Y*2^(32*i))
theorem lr_zero (X Y:Nat):lr X Y 0=X%Y:=by simp [lr]
theorem lr_top (X Y i:Nat) (h:X<Y*2^(32*i)):lr X Y i=X:=Nat.mod_eq_of_lt h
theorem lr_mod (X Y i:Nat):lr X Y i=lr X Y (i+1)%(Y*2^(32*i)):=by
 unfold lr;rw [zbE,← Nat.mul_assoc,Nat.mod_mul_right_mod]
theorem zjw (X Y i:Nat):lr X Y i=lr X Y (i+1)%2^(32*i)+2^(32*i)*(lr X Y (i+1) / 2^(32*i)%Y):=by
 rw [lr_mod,Nat.mul_comm Y,Nat.mod_mul]
theorem lr_high (X Y i:Nat):lr X Y i / 2^(32*i)=lr X Y (i+1) / 2^(32*i)%Y:=by
 have hp:0<2^(32*i):=Nat.pow_pos (by decide);rw [zjw,Nat.add_mul_div_left _ _ hp,Nat.div_eq_of_lt (Nat.mod_lt _ hp),Nat.zero_add]
theorem lr_low (X Y i j:Nat) (h:j<i):wd (lr X Y i) j=wd (lr X Y (i+1)) j:=by
 rw [zjw,zgT _ _ _ _ h,o7 _ _ _ h]
theorem lr_lt (X Y i:Nat) (hY:0<Y):lr X Y (i+1) / 2^(32*i)<4294967296*Y:=by
 have hp:0<2^(32*i):=Nat.pow_pos (by decide);rw [Nat.div_lt_iff_lt_mul hp,Nat.mul_comm 4294967296,Nat.mul_assoc,Nat.mul_comm 4294967296,← zbE];exact Nat.mod_lt _ (Nat.mul_pos hY (Nat.pow_pos (by decide)))
theorem lr_digit (X Y i:Nat):lr X Y (i+1) / 2^(32*i) / Y=wd (X / Y) i:=by
 unfold lr wd;rw [Nat.div_div_eq_div_mul,Nat.div_div_eq_div_mul,Nat.mul_comm (2^(32*i)) Y,zbE,← Nat.mul_assoc,Nat.mod_mul_right_div_self]
def rd (a b i:Nat):Nat:=a / 10^i%b
theorem dg_split (a i:Nat):a / 10^i=a / 10^(i+1)*10+dg 10 a i:=by
 unfold dg;rw [Nat.pow_succ,← Nat.div_div_eq_div_mul];have:=Nat.div_add_mod (a / 10^i) 10;omega
theorem rd_zero (a b:Nat):rd a b 0=a%b:=by simp [rd]
theorem rd_top (a b n:Nat) (h:nd 10 a≤n):rd a b n=0:=by
 unfold rd;rw [Nat.div_eq_of_lt ((yj 10 (by decide) _ _).1 h),Nat.zero_mod]
theorem gC (a b i:Nat):a / 10^i=b*(10*(a / 10^(i+1) / b))+(rd a b (i+1)*10+dg 10 a i):=by
 have h:=Nat.div_add_mod (a / 10^(i+1)) b;rw [dg_split a i]
 conv=>lhs;rw [← h]
 show (b*(a / 10^(i+1) / b)+rd a b (i+1))*10+_=_;rw [Nat.add_mul,← Nat.add_assoc];congr 2
 ac_rfl
theorem rd_step (a b i:Nat):(rd a b (i+1)*10+dg 10 a i)%b=rd a b i:=by
 show _=a / 10^i%b;rw [gC a b i,Nat.mul_add_mod]
theorem rd_lt (a b i:Nat) (hb:0<b):rd a b (i+1)*10+dg 10 a i<10*b:=by
 have h1:rd a b (i+1)<b:=Nat.mod_lt _ hb;have h2:=dg_lt 10 a i (by decide);omega
theorem rd_digit (a b i:Nat) (hb:0<b):(rd a b (i+1)*10+dg 10 a i) / b=dg 10 (a / b) i:=by
 have h2:(rd a b (i+1)*10+dg 10 a i) / b<10:=by
  rw [Nat.div_lt_iff_lt_mul hb];exact rd_lt a b i hb
 show _=a / b / 10^i%10;rw [Nat.div_div_eq_div_mul,Nat.mul_comm b,← Nat.div_div_eq_div_mul,gC a b i,Nat.mul_add_div hb,Nat.mul_add_mod,Nat.mod_eq_of_lt h2]
end Cs
end
section
namespace Cs
def qd (d:Nat):Nat:=if d=0 then 1 else d
theorem yc (d:Nat):0<qd d:=by unfold qd;split <;> omega
theorem qJ {d:Nat} (h:0<d):qd d=d:=by unfold qd;rw [if_neg (by omega)]
def qq (n d:Nat):Rat:=mkRat (n:Int) (qd d)
def qn (q:Rat):Nat:=q.num.toNat
theorem zfw (d:Nat):qd d≠0:=Nat.ne_of_gt (yc d)
theorem qq_num (n d:Nat):(qq n d).num=((n / Nat.gcd n (qd d):Nat):Int):=by
 unfold qq;rw [Rat.num_mkRat,if_neg (zfw d),Int.natAbs_natCast,Nat.gcd_comm,Int.natCast_ediv]
theorem ja (n d:Nat):qn (qq n d)=n / Nat.gcd n (qd d):=by
 unfold qn;rw [qq_num,Int.toNat_natCast]
theorem zhM (n d:Nat):(qq n d).den=qd d / Nat.gcd n (qd d):=by
 unfold qq;rw [Rat.den_mkRat,if_neg (zfw d),Int.natAbs_natCast,Nat.gcd_comm]
theorem zca (n d:Nat):0≤qq n d:=by
 rw [← Rat.num_nonneg,qq_num];exact Int.natCast_nonneg _
theorem num_qn {q:Rat} (h:0≤q):q.num=(qn q:Int):=(Int.toNat_of_nonneg (Rat.num_nonneg.2 h)).symm
theorem pQ {q:Rat} (h:0≤q):qq (qn q) q.den=q:=by
 unfold qq;rw [← num_qn h,qJ q.den_pos,Rat.mkRat_self]
theorem gF {n d:Nat} (hd:0<d):qq n d=mkRat (n:Int) d:=by unfold qq;rw [qJ hd]
theorem zho (n d n' d':Nat):qq (n*qd d'+n'*qd d) (qd d*qd d')=qq n d+qq n' d':=by
 rw [gF (Nat.mul_pos (yc _) (yc _)),qq,qq,Rat.mkRat_add_mkRat _ _ (zfw _) (zfw _)];simp
theorem zfE (n d n' d':Nat):qq (n*n') (qd d*qd d')=qq n d*qq n' d':=by
 rw [gF (Nat.mul_pos (yc _) (yc _)),qq,qq,Rat.mkRat_mul_mkRat];simp
theorem jB (n d n' d':Nat) (h:n'*qd d≤n*qd d'):qq (n*qd d' - n'*qd d) (qd d*qd d')=qq n d-qq n' d':=by
 have e:qq (n*qd d' - n'*qd d) (qd d*qd d')+qq n' d'=qq n d:=by
  have h1:qq n' d'=qq (n'*qd d) (qd d*qd d'):=by
   rw [gF (Nat.mul_pos (yc _) (yc _)),qq,Rat.mkRat_eq_iff (zfw _) (Nat.ne_of_gt (Nat.mul_pos (yc _) (yc _)))];simp only [Int.natCast_mul];ac_rfl
  have hp:0<qd d*qd d':=Nat.mul_pos (yc _) (yc _);rw [h1,← zho,qJ hp,← Nat.add_mul,Nat.sub_add_cancel h,gF (Nat.mul_pos hp hp),qq,Rat.mkRat_eq_iff (Nat.ne_of_gt (Nat.mul_pos hp hp)) (zfw _)];simp [Int.mul_comm,Int.mul_left_comm]
 rw [← e,Rat.add_sub_cancel]
theorem zhn (n d n' d':Nat):qq n d=qq n' d'↔n*qd d'=n'*qd d:=by
 rw [qq,qq,Rat.mkRat_eq_iff (zfw _) (zfw _)];constructor <;> intro h
 ·exact Int.ofNat.inj (by simpa using h)
 ·have:=congrArg (fun x:Nat=>(x:Int)) h;simpa using this
theorem zby (n d:Nat):qq n d=0↔n=0:=by
 rw [qq,Rat.mkRat_eq_zero (zfw _)];exact Int.natCast_eq_zero
theorem qq_inv (n d:Nat) (h:0<n):(qq n d)⁻¹=qq (qd d) n:=by
 refine Rat.inv_eq_of_mul_eq_one ?_;have e:qq n d*qq (qd d) n=qq (n*qd d) (qd d*qd n):=(zfE n d (qd d) n).symm;rw [e,qJ h,show (1:Rat)=qq 1 1 by decide +kernel,zhn,qJ (Nat.mul_pos (yc d) h),show qd 1=1 from rfl,Nat.mul_one,Nat.one_mul,Nat.mul_comm]
theorem qq_div (n d n' d':Nat) (h:0<n'):qq (n*qd d') (qd d*n')=qq n d / qq n' d':=by
 rw [Rat.div_def,qq_inv _ _ h,← zfE,qJ h]
theorem zeN (n d n' d':Nat):qq n d<qq n' d'↔n*qd d'<n'*qd d:=by
 rw [← Rat.not_le,Rat.le_iff_sub_nonneg];constructor
 ·intro h;refine Nat.lt_of_not_le fun h2=>h ?_;rw [← jB n d n' d' h2];exact zca _ _
 ·intro h h2;have h3:qq n' d' - qq n d=qq (n'*qd d-n*qd d') (qd d'*qd d):=(jB n' d' n d (Nat.le_of_lt h)).symm;have h4:qq n' d' - qq n d≠0:=by
   rw [h3,Ne,zby];omega
  refine h4 (Rat.nonneg_antisymm (by rw [h3];exact zca _ _) ?_);rw [Rat.neg_sub];exact h2
theorem qq_one (n:Nat):qq n 1=(n:Rat):=by
 have h:(0:Rat)≤(n:Rat):=Rat.natCast_nonneg;have:=pQ h;exact this
def Lt (n d:Nat):Prop:=n=qn (qq n d)∧(d=(qq n d).den∨(n=0∧d=0))
theorem Lt.zero:Lt 0 0:=⟨rfl,.inr ⟨rfl,rfl⟩⟩
theorem Lt.can {q:Rat} (h:0≤q):Lt (qn q) q.den:=by
 constructor
 ·rw [pQ h]
 ·left;rw [pQ h]
theorem Lt.qd {n d:Nat} (h:Lt n d):qd d=(qq n d).den:=by
 obtain ⟨h1,h2 | ⟨h2,h3⟩⟩:=h
 ·rw [qJ (by rw [h2];exact (qq n d).den_pos)];exact h2
 ·subst h2;subst h3;decide +kernel
def zfv (q:Rat):ByteArray:=if q.den=1 then zl (qn q) else zl (qn q)++⟨#[47]⟩++zl q.den
def Sm (B:Nat) (q:Rat):Prop:=0≤q∧qn q<2^B∧q.den<2^B
theorem Sm.of {B n d:Nat} (hn:n<2^B) (hd:qd d<2^B):Sm B (qq n d) :=
 ⟨zca _ _,by rw [ja];exact Nat.lt_of_le_of_lt (Nat.div_le_self _ _) hn,by rw [zhM];exact Nat.lt_of_le_of_lt (Nat.div_le_self _ _) hd⟩
end Cs
end
end
