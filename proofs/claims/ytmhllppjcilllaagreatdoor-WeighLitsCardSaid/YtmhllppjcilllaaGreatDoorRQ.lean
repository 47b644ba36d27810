import Derived.Test.YtmhllppjcilllaaGreatDoorM1
import Derived.Test.YtmhllppjcilllaaGreatDoorRH
import Derived.WalkMore
set_option linter.unusedSimpArgs false
set_option linter.unusedVariables false
section
section
namespace Cs
theorem zhp {s:Nat} (hs:s≤32):2^s*2^(32-s)=4294967296:=by
 rw [← Nat.pow_add,show s+(32-s)=32 by omega]
def jo (V s i:Nat):Nat:=(V%2^(32*i))*2^s / 2^(32*i)
theorem shC_zero (V s:Nat):jo V s 0=0:=by simp [jo,Nat.mod_one]
theorem ziO (V s i:Nat):jo V s i<2^s:=by
 unfold jo;rw [Nat.div_lt_iff_lt_mul (Nat.pow_pos (by decide)),Nat.mul_comm (2^s)];exact Nat.mul_lt_mul_of_pos_right (Nat.mod_lt _ (Nat.pow_pos (by decide))) (Nat.pow_pos (by decide))
theorem xF (V s i:Nat):V*2^s / 2^(32*i)=V / 2^(32*i)*2^s+jo V s i:=by
 have h:V*2^s=(V%2^(32*i))*2^s+2^(32*i)*(V / 2^(32*i)*2^s):=by
  conv=>lhs;rw [← Nat.mod_add_div V (2^(32*i))]
  rw [Nat.add_mul,Nat.mul_assoc]
 rw [h,Nat.add_mul_div_left _ _ (Nat.pow_pos (by decide)),Nat.add_comm];rfl
theorem shC_succ (V s i:Nat) (hs:s≤32):jo V s (i+1)=wd V i / 2^(32-s):=by
 have hp:=zhp hs;have h0:0<2^(32-s):=Nat.pow_pos (by decide);have h1:=ziO V s i;have e:jo V s (i+1)=(wd V i*2^s+jo V s i) / 4294967296:=by
  unfold jo;rw [zcb,zbL,← Nat.div_div_eq_div_mul,Nat.add_mul,Nat.mul_assoc,Nat.add_mul_div_left _ _ (Nat.pow_pos (by decide)),Nat.add_comm]
 rw [e,← hp,← Nat.div_div_eq_div_mul,Nat.mul_comm (wd V i),Nat.mul_add_div (Nat.pow_pos (by decide)),Nat.div_eq_of_lt h1,Nat.add_zero]
theorem zjX (V s i:Nat) (hs:s<32):(wd V i*2^s)%4294967296 ||| jo V s i=wd (V*2^s) i:=by
 have hp:=zhp (Nat.le_of_lt hs);have h1:=ziO V s i;have h0:0<2^s:=Nat.pow_pos (by decide);have e1:(wd V i*2^s)%4294967296=(wd V i%2^(32-s))*2^s:=by
  rw [← hp,Nat.mul_comm (2^s),Nat.mul_mod_mul_right]
 rw [e1,← Nat.shiftLeft_eq,← Nat.shiftLeft_add_eq_or_of_lt h1,Nat.shiftLeft_eq];show _=V*2^s / 2^(32*i)%4294967296;rw [xF];have e2:V / 2^(32*i)*2^s=(wd V i%2^(32-s))*2^s+4294967296*(V / 2^(32*i) / 2^(32-s)):=by
  have h2:wd V i%2^(32-s)=V / 2^(32*i)%2^(32-s):=by
   unfold wd;rw [← hp,Nat.mul_comm (2^s),Nat.mod_mul_right_mod]
  rw [h2]
  conv=>lhs;rw [← Nat.mod_add_div (V / 2^(32*i)) (2^(32-s))]
  rw [Nat.add_mul,← hp];congr 1
  ac_rfl
 rw [e2,Nat.add_right_comm,Nat.add_mul_mod_self_left];refine (Nat.mod_eq_of_lt ?_).symm;have h3:wd V i%2^(32-s)<2^(32-s):=Nat.mod_lt _ (Nat.pow_pos (by decide))
 calc wd V i%2^(32-s)*2^s+jo V s i<wd V i%2^(32-s)*2^s+2^s:=by omega
  _=(wd V i%2^(32-s)+1)*2^s:=by rw [Nat.add_mul,Nat.one_mul]
  _≤2^(32-s)*2^s:=Nat.mul_le_mul_right _ h3
  _=4294967296:=by rw [Nat.mul_comm];exact hp
theorem pC (V s i:Nat) (hs:s<32):wd V i / 2^s ||| (wd V (i+1)*2^(32-s))%4294967296=wd (V / 2^s) i:=by
 apply Nat.eq_of_testBit_eq;intro j;unfold wd;rw [show (4294967296:Nat)=2^32 by rfl];simp only [Nat.testBit_or,Nat.testBit_mod_two_pow,Nat.testBit_div_two_pow,Nat.testBit_mul_two_pow];by_cases hj:j<32
 ·by_cases h2:j+s<32
  ·have h3:¬ 32-s≤j:=by omega
   have e:j+s+32*i=j+32*i+s:=by omega
   simp [hj,h2,h3,e]
  ·have h3:32-s≤j:=by omega
   have h4:j-(32-s)<32:=by omega
   have e:j-(32-s)+32*(i+1)=j+32*i+s:=by omega
   simp [hj,h2,h3,h4,e]
 ·have h2:¬ j+s<32:=by omega
  simp [hj,h2]
theorem zjP {top x0 y1 y0 d rest K L M U Y:Nat} (hK:0<K) (hL:L<K) (hU:U=(top*4294967296+x0)*K+L) (hY:Y=(y1*4294967296+y0)*K+M)
  (hr:top=d*y1+rest) (hx:x0<4294967296) (hlt:U<4294967296*Y) (hd:4294967296≤d∨rest*4294967296+x0<d*y0):U<d*Y:=by
 rcases hd with hd | hd
 ·exact Nat.lt_of_lt_of_le hlt (Nat.mul_le_mul_right _ hd)
 ·have h1:top*4294967296+x0+1≤d*(y1*4294967296+y0):=by
   rw [hr,Nat.mul_add,Nat.add_mul,← Nat.mul_assoc];omega
  have h2:(top*4294967296+x0+1)*K≤d*(y1*4294967296+y0)*K:=Nat.mul_le_mul_right _ h1;rw [hU,hY,Nat.mul_add,← Nat.mul_assoc];rw [Nat.add_mul _ 1 K,Nat.one_mul] at h2;have h3:0≤d*M:=Nat.zero_le _;omega
theorem zjO {top x0 y1 y0 d rest K L M U Y:Nat} (hM:M<K) (hU:U=(top*4294967296+x0)*K+L) (hY:Y=(y1*4294967296+y0)*K+M)
  (hr:top=d*y1+rest) (hd:d<4294967296) (hy:2147483648≤y1) (h:d*y0≤rest*4294967296+x0):d*Y<U+Y:=by
 have h1:d*(y1*4294967296+y0)≤top*4294967296+x0:=by
  rw [hr,Nat.mul_add,Nat.add_mul,← Nat.mul_assoc];omega
 have h2:d*(y1*4294967296+y0)*K≤(top*4294967296+x0)*K:=Nat.mul_le_mul_right _ h1;have h3:d*M≤4294967295*M:=Nat.mul_le_mul_right _ (by omega);have h4:4294967295*M≤4294967295*K:=Nat.mul_le_mul_left _ (Nat.le_of_lt hM);have h5:y1*4294967296*K≤(y1*4294967296+y0)*K:=Nat.mul_le_mul_right _ (Nat.le_add_right _ _);have h6:4294967296*K≤y1*4294967296*K:=by
  rw [Nat.mul_assoc];exact Nat.le_mul_of_pos_left _ (by omega)
 have hK:0<K:=by omega
 rw [hU,hY,Nat.mul_add,← Nat.mul_assoc];omega
theorem zhW {top x0 y1 y0 K L M U Y:Nat} (hK:0<K) (hL:L<K) (hU:U=(top*4294967296+x0)*K+L) (hY:Y=(y1*4294967296+y0)*K+M)
  (hx:x0<4294967296) (hy:0<y1):U<(top / y1+1)*Y:=by
 have h1:top+1≤(top / y1+1)*y1:=by
  have:=Nat.div_add_mod top y1;have h2:=Nat.mod_lt top hy;rw [Nat.add_mul,Nat.one_mul,Nat.mul_comm];omega
 have h2:(top+1)*(4294967296*K)≤(top / y1+1)*y1*(4294967296*K):=Nat.mul_le_mul_right _ h1;have h3:(top / y1+1)*y1*(4294967296*K)≤(top / y1+1)*Y:=by
  rw [hY,Nat.mul_assoc];refine Nat.mul_le_mul_left _ ?_;rw [← Nat.mul_assoc,Nat.add_mul _ _ K];omega
 have h4:U<(top+1)*(4294967296*K):=by
  rw [hU,Nat.add_mul,Nat.add_mul,Nat.one_mul,← Nat.mul_assoc];have h5:x0*K+K≤4294967296*K:=by
   rw [← Nat.succ_mul];exact Nat.mul_le_mul_right _ hx
  omega
 omega
theorem xg {top x0 y1 y0 K L M U Y:Nat} (hK:0<K) (hM:M<K) (hU:U=(top*4294967296+x0)*K+L) (hY:Y=(y1*4294967296+y0)*K+M)
  (hlt:U<4294967296*Y):top≤y1*4294967296+y0:=by
 refine Nat.le_of_not_lt fun h=>?_;generalize y1*4294967296+y0=P at h hY;have h1:(P+1)*(4294967296*K)≤top*(4294967296*K):=Nat.mul_le_mul_right _ h;have h2:top*(4294967296*K)≤U:=by
  rw [hU,Nat.add_mul,← Nat.mul_assoc];omega
 rw [show (P+1)*(4294967296*K)=4294967296*(P*K+K) by rw [Nat.add_mul,Nat.one_mul,Nat.mul_left_comm,← Nat.mul_add]] at h1;generalize P*K=Q at h1 hY;omega
def tb (T Y d k:Nat):Nat:=(T%2^(32*k)+d*(Y%2^(32*k))) / 2^(32*k)
theorem tb_zero (T Y d:Nat):tb T Y d 0=0:=by simp [tb,Nat.mod_one]
theorem tb_le (T Y d k:Nat):tb T Y d k≤d:=by
 unfold tb;have hp:0<2^(32*k):=Nat.pow_pos (by decide);generalize 2^(32*k)=p at hp;have h1:=Nat.mod_lt T hp;have h2:d*(Y%p)≤d*p:=Nat.mul_le_mul_left _ (Nat.le_of_lt (Nat.mod_lt Y hp));rw [← Nat.lt_succ_iff,Nat.div_lt_iff_lt_mul hp,Nat.succ_mul];omega
theorem j6 (T Y d k:Nat):(tb T Y d k+(wd T k+d*wd Y k)) / 4294967296=tb T Y d (k+1):=by
 unfold tb;rw [zcb,zcb,zbL,← Nat.div_div_eq_div_mul];have e:T%2^(32*k)+2^(32*k)*wd T k+d*(Y%2^(32*k)+2^(32*k)*wd Y k)=T%2^(32*k)+d*(Y%2^(32*k))+2^(32*k)*(wd T k+d*wd Y k):=by
  rw [Nat.mul_add d,Nat.mul_add (2^(32*k)),Nat.mul_left_comm d];omega
 rw [e,Nat.add_mul_div_left _ _ (Nat.pow_pos (by decide))]
theorem tb_word (T Y d k:Nat):(tb T Y d k+(wd T k+d*wd Y k))%4294967296=wd (T+d*Y) k:=by
 have hp:0<2^(32*k):=Nat.pow_pos (by decide);have e:T+d*Y=T%2^(32*k)+d*(Y%2^(32*k))+2^(32*k)*(T / 2^(32*k)+d*(Y / 2^(32*k))):=by
  conv=>lhs;rw [← Nat.mod_add_div T (2^(32*k)),← Nat.mod_add_div Y (2^(32*k))]
  rw [Nat.mul_add d,Nat.mul_add (2^(32*k)),Nat.mul_left_comm d];omega
 show _=(T+d*Y) / 2^(32*k)%4294967296;rw [e,Nat.add_mul_div_left _ _ hp];show (tb T Y d k+(T / 2^(32*k)%4294967296+d*(Y / 2^(32*k)%4294967296)))%4294967296=_;show _=(tb T Y d k+(T / 2^(32*k)+d*(Y / 2^(32*k))))%4294967296;generalize T / 2^(32*k)=a;generalize Y / 2^(32*k)=b;simp only [Nat.add_mod,Nat.mul_mod,Nat.mod_mod]
theorem xu {u t part:Nat} (ht:t<4294967296) (hu:u=(t+part)%4294967296) :
  t=(u+4294967296-part%4294967296)%4294967296∧(t+part) / 4294967296=part / 4294967296+if u<part%4294967296 then 1 else 0:=by
 subst hu;constructor
 ·omega
 ·split <;> omega
theorem zge (Z i k:Nat):wd Z (i+k)=wd (Z / 2^(32*i)) k:=by
 unfold wd;rw [Nat.div_div_eq_div_mul,← Nat.pow_add,Nat.mul_add]
theorem o6 (Z n j:Nat) (h:j<n):wd (Z%2^(32*n)) j=wd Z j:=by
 conv=>rhs;rw [← Nat.mod_add_div Z (2^(32*n))]
 rw [zgU _ _ _ _ h]
def lr (X Y i:Nat):Nat:=X%(Y*2^(32*i))
theorem lr_zero (X Y:Nat):lr X Y 0=X%Y:=by simp [lr]
theorem lr_top (X Y i:Nat) (h:X<Y*2^(32*i)):lr X Y i=X:=Nat.mod_eq_of_lt h
theorem lr_mod (X Y i:Nat):lr X Y i=lr X Y (i+1)%(Y*2^(32*i)):=by
 unfold lr;rw [zbL,← Nat.mul_assoc,Nat.mod_mul_right_mod]
theorem zjw (X Y i:Nat):lr X Y i=lr X Y (i+1)%2^(32*i)+2^(32*i)*(lr X Y (i+1) / 2^(32*i)%Y):=by
 rw [lr_mod,Nat.mul_comm Y,Nat.mod_mul]
theorem lr_high (X Y i:Nat):lr X Y i / 2^(32*i)=lr X Y (i+1) / 2^(32*i)%Y:=by
 have hp:0<2^(32*i):=Nat.pow_pos (by decide);rw [zjw,Nat.add_mul_div_left _ _ hp,Nat.div_eq_of_lt (Nat.mod_lt _ hp),Nat.zero_add]
theorem lr_low (X Y i j:Nat) (h:j<i):wd (lr X Y i) j=wd (lr X Y (i+1)) j:=by
 rw [zjw,zgU _ _ _ _ h,o6 _ _ _ h]
theorem lr_lt (X Y i:Nat) (hY:0<Y):lr X Y (i+1) / 2^(32*i)<4294967296*Y:=by
 have hp:0<2^(32*i):=Nat.pow_pos (by decide);rw [Nat.div_lt_iff_lt_mul hp,Nat.mul_comm 4294967296,Nat.mul_assoc,Nat.mul_comm 4294967296,← zbL];exact Nat.mod_lt _ (Nat.mul_pos hY (Nat.pow_pos (by decide)))
theorem lr_digit (X Y i:Nat):lr X Y (i+1) / 2^(32*i) / Y=wd (X / Y) i:=by
 unfold lr wd;rw [Nat.div_div_eq_div_mul,Nat.div_div_eq_div_mul,Nat.mul_comm (2^(32*i)) Y,zbL,← Nat.mul_assoc,Nat.mod_mul_right_div_self]
def rd (a b i:Nat):Nat:=a / 10^i%b
theorem dg_split (a i:Nat):a / 10^i=a / 10^(i+1)*10+dg 10 a i:=by
 unfold dg;rw [Nat.pow_succ,← Nat.div_div_eq_div_mul];have:=Nat.div_add_mod (a / 10^i) 10;omega
theorem rd_zero (a b:Nat):rd a b 0=a%b:=by simp [rd]
theorem rd_top (a b n:Nat) (h:nd 10 a≤n):rd a b n=0:=by
 unfold rd;rw [Nat.div_eq_of_lt ((yg 10 (by decide) _ _).1 h),Nat.zero_mod]
theorem gk (a b i:Nat):a / 10^i=b*(10*(a / 10^(i+1) / b))+(rd a b (i+1)*10+dg 10 a i):=by
 have h:=Nat.div_add_mod (a / 10^(i+1)) b;rw [dg_split a i]
 conv=>lhs;rw [← h]
 show (b*(a / 10^(i+1) / b)+rd a b (i+1))*10+_=_;rw [Nat.add_mul,← Nat.add_assoc];congr 2
 ac_rfl
theorem rd_step (a b i:Nat):(rd a b (i+1)*10+dg 10 a i)%b=rd a b i:=by
 show _=a / 10^i%b;rw [gk a b i,Nat.mul_add_mod]
theorem rd_lt (a b i:Nat) (hb:0<b):rd a b (i+1)*10+dg 10 a i<10*b:=by
 have h1:rd a b (i+1)<b:=Nat.mod_lt _ hb;have h2:=dg_lt 10 a i (by decide);omega
theorem rd_digit (a b i:Nat) (hb:0<b):(rd a b (i+1)*10+dg 10 a i) / b=dg 10 (a / b) i:=by
 have h2:(rd a b (i+1)*10+dg 10 a i) / b<10:=by
  rw [Nat.div_lt_iff_lt_mul hb];exact rd_lt a b i hb
 show _=a / b / 10^i%10;rw [Nat.div_div_eq_div_mul,Nat.mul_comm b,← Nat.div_div_eq_div_mul,gk a b i,Nat.mul_add_div hb,Nat.mul_add_mod,Nat.mod_eq_of_lt h2]
end Cs
end
section
namespace Cs
def qd (d:Nat):Nat:=if d=0 then 1 else d
theorem yq (d:Nat):0<qd d:=by unfold qd;split <;> omega
theorem qM {d:Nat} (h:0<d):qd d=d:=by unfold qd;rw [if_neg (by omega)]
def qq (n d:Nat):Rat:=mkRat (n:Int) (qd d)
def qn (q:Rat):Nat:=q.num.toNat
theorem zfu (d:Nat):qd d≠0:=Nat.ne_of_gt (yq d)
theorem qq_num (n d:Nat):(qq n d).num=((n / Nat.gcd n (qd d):Nat):Int):=by
 unfold qq;rw [Rat.num_mkRat,if_neg (zfu d),Int.natAbs_natCast,Nat.gcd_comm,Int.natCast_ediv]
theorem y8 (n d:Nat):qn (qq n d)=n / Nat.gcd n (qd d):=by
 unfold qn;rw [qq_num,Int.toNat_natCast]
theorem zhD (n d:Nat):(qq n d).den=qd d / Nat.gcd n (qd d):=by
 unfold qq;rw [Rat.den_mkRat,if_neg (zfu d),Int.natAbs_natCast,Nat.gcd_comm]
theorem zby (n d:Nat):0≤qq n d:=by
 rw [← Rat.num_nonneg,qq_num];exact Int.natCast_nonneg _
theorem num_qn {q:Rat} (h:0≤q):q.num=(qn q:Int):=(Int.toNat_of_nonneg (Rat.num_nonneg.2 h)).symm
theorem js {q:Rat} (h:0≤q):qq (qn q) q.den=q:=by
 unfold qq;rw [← num_qn h,qM q.den_pos,Rat.mkRat_self]
theorem gD {n d:Nat} (hd:0<d):qq n d=mkRat (n:Int) d:=by unfold qq;rw [qM hd]
theorem zfH (n d n' d':Nat):qq (n*qd d'+n'*qd d) (qd d*qd d')=qq n d+qq n' d':=by
 rw [gD (Nat.mul_pos (yq _) (yq _)),qq,qq,Rat.mkRat_add_mkRat _ _ (zfu _) (zfu _)];simp
theorem zhn (n d n' d':Nat):qq (n*n') (qd d*qd d')=qq n d*qq n' d':=by
 rw [gD (Nat.mul_pos (yq _) (yq _)),qq,qq,Rat.mkRat_mul_mkRat];simp
theorem jB (n d n' d':Nat) (h:n'*qd d≤n*qd d'):qq (n*qd d' - n'*qd d) (qd d*qd d')=qq n d-qq n' d':=by
 have e:qq (n*qd d' - n'*qd d) (qd d*qd d')+qq n' d'=qq n d:=by
  have h1:qq n' d'=qq (n'*qd d) (qd d*qd d'):=by
   rw [gD (Nat.mul_pos (yq _) (yq _)),qq,Rat.mkRat_eq_iff (zfu _) (Nat.ne_of_gt (Nat.mul_pos (yq _) (yq _)))];simp only [Int.natCast_mul];ac_rfl
  have hp:0<qd d*qd d':=Nat.mul_pos (yq _) (yq _);rw [h1,← zfH,qM hp,← Nat.add_mul,Nat.sub_add_cancel h,gD (Nat.mul_pos hp hp),qq,Rat.mkRat_eq_iff (Nat.ne_of_gt (Nat.mul_pos hp hp)) (zfu _)];simp [Int.mul_comm,Int.mul_left_comm]
 rw [← e,Rat.add_sub_cancel]
theorem zho (n d n' d':Nat):qq n d=qq n' d'↔n*qd d'=n'*qd d:=by
 rw [qq,qq,Rat.mkRat_eq_iff (zfu _) (zfu _)];constructor <;> intro h
 ·exact Int.ofNat.inj (by simpa using h)
 ·have:=congrArg (fun x:Nat=>(x:Int)) h;simpa using this
theorem zbF (n d:Nat):qq n d=0↔n=0:=by
 rw [qq,Rat.mkRat_eq_zero (zfu _)];exact Int.natCast_eq_zero
theorem qq_inv (n d:Nat) (h:0<n):(qq n d)⁻¹=qq (qd d) n:=by
 refine Rat.inv_eq_of_mul_eq_one ?_;have e:qq n d*qq (qd d) n=qq (n*qd d) (qd d*qd n):=(zhn n d (qd d) n).symm;rw [e,qM h,show (1:Rat)=qq 1 1 by decide +kernel,zho,qM (Nat.mul_pos (yq d) h),show qd 1=1 from rfl,Nat.mul_one,Nat.one_mul,Nat.mul_comm]
theorem jC (n d n' d':Nat) (h:0<n'):qq (n*qd d') (qd d*n')=qq n d / qq n' d':=by
 rw [Rat.div_def,qq_inv _ _ h,← zhn,qM h]
theorem xO (n d n' d':Nat):qq n d<qq n' d'↔n*qd d'<n'*qd d:=by
 rw [← Rat.not_le,Rat.le_iff_sub_nonneg];constructor
 ·intro h;refine Nat.lt_of_not_le fun h2=>h ?_;rw [← jB n d n' d' h2];exact zby _ _
 ·intro h h2;have h3:qq n' d' - qq n d=qq (n'*qd d-n*qd d') (qd d'*qd d):=(jB n' d' n d (Nat.le_of_lt h)).symm;have h4:qq n' d' - qq n d≠0:=by
   rw [h3,Ne,zbF];omega
  refine h4 (Rat.nonneg_antisymm (by rw [h3];exact zby _ _) ?_);rw [Rat.neg_sub];exact h2
theorem qq_one (n:Nat):qq n 1=(n:Rat):=by
 have h:(0:Rat)≤(n:Rat):=Rat.natCast_nonneg;have:=js h;exact this
def Lt (n d:Nat):Prop:=n=qn (qq n d)∧(d=(qq n d).den∨(n=0∧d=0))
theorem Lt.zero:Lt 0 0:=⟨rfl,.inr ⟨rfl,rfl⟩⟩
theorem Lt.can {q:Rat} (h:0≤q):Lt (qn q) q.den:=by
 constructor
 ·rw [js h]
 ·left;rw [js h]
theorem Lt.qd {n d:Nat} (h:Lt n d):qd d=(qq n d).den:=by
 obtain ⟨h1,h2 | ⟨h2,h3⟩⟩:=h
 ·rw [qM (by rw [h2];exact (qq n d).den_pos)];exact h2
 ·subst h2;subst h3;decide +kernel
def zgp (q:Rat):ByteArray:=if q.den=1 then zc (qn q) else zc (qn q)++⟨#[47]⟩++zc q.den
def Sm (B:Nat) (q:Rat):Prop:=0≤q∧qn q<2^B∧q.den<2^B
theorem Sm.of {B n d:Nat} (hn:n<2^B) (hd:qd d<2^B):Sm B (qq n d) :=
 ⟨zby _ _,by rw [y8];exact Nat.lt_of_le_of_lt (Nat.div_le_self _ _) hn,by rw [zhD];exact Nat.lt_of_le_of_lt (Nat.div_le_self _ _) hd⟩
end Cs
end
end
section
set_option maxRecDepth 100000
set_option maxHeartbeats 4000000
section
open Go Go.RowKit Cs
namespace Go.Proofs.YtmhllppjcilllaaGreatDoor
theorem form_nil (w:World):Calls Tryz.prog 148 #[.slice none 0 0] w fun e w'=>e = .returned (.string (zc 0))∧Below w.heap.size w w':=by
 obtain ⟨ti,hi,hz0,hz1,hz2⟩:=info_parts zea;have hz:=pU;rw [hz];have hmk:∀ u:World,(Instr.makeSlice 139 (.int .i64 0) (.int .i64 0)).run Tryz.prog u = .ok (.slice (some ⟨u.heap.size,0,none⟩) 0 0) (u.alloc (.cells (madeCells #[.int .u8 0] 0) 5)):=fun u =>
  run_make_row 139 5 ti (.int .u8 0) Tryz.underlying139 hi hz0 hz1 rfl .i64 .i64 0 (by rw [hz2];omega) (by omega) u
 go_enter Tryz.func148, Tryz.ntmps148;go_wp2_with fail
 go_loop [3] (fun t=>t = .int .i64 0) (fun _=>0)
 case atStart=>rfl
 case round =>
  subst hrel;go_wp2_with fail
  go_loopw [4,5] (fun o i wr=>o = .slice (some ⟨w.heap.size,0,none⟩) 0 0∧i = .int .i64 (-1)∧Below w.heap.size w wr) (fun _ _ _=>0)
  case atStart=>exact ⟨rfl,rfl,(zx _ _).alloc (zu _) _⟩
  case round =>
   obtain ⟨rfl,rfl,hbel⟩:=hrel;go_wp2_with fail
   go_ret;exact ⟨rfl,hbel⟩
theorem zid (w:World) (V:Nat) (hV:V<18446744073709551616):Calls Tryz.prog 109 #[.int .u64 (V:Int)] w fun e w'=>e = .returned (.string (zc V))∧Below w.heap.size w w':=by
 obtain ⟨ti,hi,hz0,hz1,hz2⟩:=info_parts zdc;have hfm:=fun W A n cap h0 h1 h2 h3=>zdd W A n cap V h0 h1 h2 h3;have hn20:nd 10 V≤20:=(zbM V 20).2 (Nat.lt_of_lt_of_le hV (by decide));have HF:=zb hfm;clear hfm;go_enter Tryz.func109, Tryz.ntmps109;go_wp2;go_loopw [0,3] (fun x l wr=>∃ k:Nat,k≤nd 10 V∧x = .int .u64 ((V / 10^k:Nat):Int)∧wr.ownsRow w.heap.size 3 1 l k (dgi V k)∧(k=0→l = .slice none 0 0)∧Below w.heap.size w wr)
  (fun x _ _=>(intOf x).toNat)
 case atStart=>exact ⟨0,Nat.zero_le _,by rw [Nat.pow_zero,Nat.div_one],World.ownsRow_nil _ _ _ _,fun _=>rfl,zx _ _⟩
 case round =>
  obtain ⟨k,hk,rfl,hown,hnil,hbel⟩:=hrel;have hszw:=hbel.size;obtain ⟨Q,hQ⟩:∃ Q,V / 10^k=Q:=⟨_,rfl⟩;have hQ1:V / 10^(k+1)=Q / 10:=by rw [Nat.pow_succ,← Nat.div_div_eq_div_mul,hQ]
  have hQ2:dg 10 V k=Q%10:=by unfold dg;rw [hQ]
  have hQV:Q≤V:=by rw [← hQ];exact Nat.div_le_self _ _
  rcases Nat.eq_zero_or_pos Q with h0 | h0
  ·have hk2:nd 10 V≤k:=by
    rw [zbM];rw [h0] at hQ;exact Nat.lt_of_not_le fun h=>by
     have:=Nat.div_pos h (Nat.pow_pos (show 0<10 by decide));omega
   obtain rfl:k=nd 10 V:=by omega
   rw [hQ,h0];rcases Nat.eq_zero_or_pos (nd 10 V) with hz | hz
   ·have hV0:V=0:=by
     have:=(zbM V 0).1 (by omega);simpa using this
    obtain rfl:u3 = .slice none 0 0:=hnil hz;subst hV0;clear hown HF;go_wp2_with fail
    refine (form_nil _).mono ?_;rintro e w' ⟨rfl,hb9⟩;go_wp2_with fail
    go_ret;exact ⟨rfl,zw hbel hb9 hszw⟩
   ·obtain ⟨go',cp,rfl,hgo1,hgo2⟩:=yX hown hz;have hrd:Rd wr wr.heap.size (some ⟨go',0,none⟩) (nd 10 V) (yk V):=Rd.of_own hown fun i hi=>ziy _ _ _ hi;have HR:=zb hrd;clear hrd hown;go_wp2_with fail
    refine (HF.out _ _ (nd 10 V) cp hz (by omega) (zu _) HR.out).mono ?_;rintro e w' ⟨rfl,hb9⟩;go_wp2_with fail
    go_ret;exact ⟨rfl,zw hbel hb9 hszw⟩
  ·have hk3:k<nd 10 V:=Nat.lt_of_not_le fun h=>by
    have:=(zbM V k).1 h;have:=Nat.div_eq_of_lt this;omega
   have hlt0:∀ k,u3.ownBlock=some k→w.heap.size≤k:=fun k hk=>(hown.lt k hk).1;rw [hQ];have e1:((Q:Int)%10)=((dg 10 V k:Nat):Int):=by rw [hQ2];omega
   have HQ1:=zb hQ1;have HE:=zb e1;clear hQ hQ1 hQ2 e1;go_wp2_with (at_builtin;go_loud (refine wpList_append_own _ rfl _ _ 26 rfl w.heap.size 3 ti (.int .i64 0) 1 8 Tryz.underlying26 hi hz0 hz1 hz2 rfl (by decide) _ _ _ rfl (hown.alloc _) ⟨wr.heap.size,0,none⟩ 1 1 [.int .i64 ((Q:Int)%10)] rfl rfl pM zeU (by unfold maxLen;omega) (by omega) (by simp;omega) ?_;intro v' w3 hown3 hgr3 _))
   have hbel3:=(hbel.alloc hbel.size _).grown hgr3 (by simp;omega) (fun k e=>hlt0 k e);rw [HE.out,← ze6] at hown3;exact ⟨⟨k+1,by omega,by rw [HQ1.out];simp,hown3,fun h=>absurd h (by omega),hbel3⟩,by simp [intOf];omega⟩
noncomputable def dcvN (v:Value):Nat:=open Classical in if h:∃ n,v = .string (zc n) then h.choose else 0
theorem ze8 (n:Nat):dcvN (.string (zc n))=n:=by
 have h:∃ m,Value.string (zc n) = .string (zc m):=⟨n,rfl⟩;unfold dcvN;rw [dif_pos h];have:=h.choose_spec;injection this with this;exact (zdv this).symm
theorem dec10:zc 10=⟨#[49,48]⟩:=by decide +kernel
def dvF (Q m t j:Nat):Value:=if j=m then .int .i64 (t:Int) else if m+1≤j then yk Q j else .int .i64 0
theorem zgn (w:World) (a b:Nat) (ha:zz a≤1000000) (hb:zz b≤1000000) (hb0:0<b) :
  Calls Tryz.prog 147 #[.string (zc a),.string (zc b)] w fun e w'=>e = .returned (.tuple #[.string (zc (a / b)),.string (zc (a%b)),.bool true])∧Below w.heap.size w w':=by
 have hsa:=qS a;have hna:=pQ a;have h1a:=ze9 a;have hbne:((zc b).toList==[48])=false:=beq_eq_false_iff_ne.2 fun e=>by have:=(zg8 b).1 e;omega
 have hrd:∀ k,zz (rd a b k)≤1000001:=fun k=>by
  have h:rd a b k<b:=Nat.mod_lt _ hb0;have:=oU (Nat.le_of_lt h);omega
 have hx:∀ k,zz (rd a b (k+1)*10+dg 10 a k)≤1000002:=fun k=>by
  have h:=rd_lt a b k hb0;have h2:=oU (Nat.le_of_lt h);have h3:zz (10*b)≤1000001:=by
   refine zec _ _ ?_ (by omega);have:=zfa b
   calc 10*b<10*10^zz b:=by omega
    _=10^(zz b+1):=by rw [Nat.pow_succ];omega
    _≤10^1000001:=Nat.pow_le_pow_right (by decide) (by omega)
  omega
 have hmu:=fun W k=>zbJ W (rd a b k) 10 (by have:=hrd k;omega) (by decide +kernel);rw [dec10] at hmu;have hda:=fun W i hi=>zb5 W a i (by omega) hi;have hof:=fun W k=>zid W (dg 10 a k) (by have:=yS a k;omega);have had:=fun W k=>zeu W (rd a b (k+1)*10) (dg 10 a k) (by have:=hx k;have:=oU (show rd a b (k+1)*10≤rd a b (k+1)*10+dg 10 a k by omega);omega) (by have:=hx k;have:=oU (show dg 10 a k≤rd a b (k+1)*10+dg 10 a k by omega);omega);have hcm:=fun W x=>zjd W x b;have hsu:=fun W k t (h:(t+1)*b≤rd a b (k+1)*10+dg 10 a k)=>rsub_any W (rd a b (k+1)*10+dg 10 a k-t*b) b (by have:=hx k;have:=oU (show rd a b (k+1)*10+dg 10 a k-t*b≤rd a b (k+1)*10+dg 10 a k by omega);omega) (by omega) (by rw [Nat.succ_mul] at h;omega);have hnd:=div_nd a b;have hfm:=fun W A n cap h0 h1 h2 h3=>zdd W A n cap (a / b) h0 h1 h2 h3;have hz0:rd a b (zz a)=0:=rd_top a b _ hna;obtain ⟨sa,hsa'⟩:∃ s,s=zc a:=⟨_,rfl⟩;rw [← hsa'] at hsa hda ⊢;rw [← hsa] at hz0;clear hsa';have hmk:=zie sa.size (by omega);have HMU:=zb hmu;have HDA:=zb hda;have HOF:=zb hof;have HAD:=zb had;have HCM:=zb hcm;have HSU:=zb hsu;have HF:=zb hfm;have HZ0:=zb hz0;have HZZ:=zb (show zc 0=(⟨#[48]⟩:ByteArray) from pU);have hza:sa.size≤1000000:=by omega
 have hz1a:1≤sa.size:=by omega
 have hna':nd 10 (a / b)≤sa.size:=by omega
 have HNA:=zb hna';clear ha hb hsa hna h1a hnd hna' hmu hda hof had hcm hsu hfm hz0 hrd hx;go_enter Tryz.func147, Tryz.ntmps147;go_wp2;go_loopw [8,9] (fun r i wr=>∃ k:Nat,k≤sa.size∧i = .int .i64 ((k:Int)-1)∧r = .string (zc (rd a b k))∧wr.rowIs w.heap.size 3 sa.size (fun j=>if k≤j then yk (a / b) j else .int .i64 0)∧Below w.heap.size w wr)
  (fun _ i _=>(intOf i+1).toNat)
 case atStart=>exact ⟨sa.size,zu _,rfl,by rw [HZ0.out,HZZ.out],pS w (.int .i64 0) sa.size 3 _ rfl (fun i hi=>by rw [if_neg (by omega)]),(zx _ _).alloc (zu _) _⟩
 case round =>
  obtain ⟨k,hk,rfl,rfl,hrow,hbel⟩:=hrel;rcases Nat.eq_zero_or_pos k with h0 | h0
  ·subst h0;have hrd:Rd wr wr.heap.size (some ⟨w.heap.size,0,none⟩) sa.size (yk (a / b)):=Rd.of_row (hrow.congr fun i hi=>by rw [if_pos (by omega)]) (zu _) hrow.lt;have HR:=zb hrd;have hbl:=hbel.size;have hz:=rd_zero a b;rw [hz];clear hrd hmk hrow hz;go_wp2_with fail
   refine (HF.out _ _ sa.size sa.size hz1a (by omega) HNA.out HR.out).mono ?_;rintro e w' ⟨rfl,hb9⟩;go_wp2_with fail
   go_ret3;exact ⟨rfl,zw hbel hb9 hbl⟩
  ·obtain ⟨m,rfl⟩:∃ m,k=m+1:=⟨k-1,by omega⟩;have hrow0:wr.rowIs w.heap.size 3 sa.size (dvF (a / b) m 0):=hrow.congr fun j hj=>by
    unfold dvF;by_cases e:j=m
    ·subst e;rw [if_pos rfl,if_neg (by omega)];rfl
    ·rw [if_neg e]
   have hstep:=rd_step a b m;have hdig:=rd_digit a b m hb0;have hxlt:=rd_lt a b m hb0;obtain ⟨x,hx⟩:∃ x,rd a b (m+1)*10+dg 10 a m=x:=⟨_,rfl⟩;have hmu:=fun W=>HMU.out W (m+1);have hda:=fun W=>HDA.out W m (by omega);have hof:=fun W=>HOF.out W m;have had:=fun W=>HAD.out W m;have hsu:=fun W t=>HSU.out W m t;rw [hx] at hstep hdig hxlt had;simp only [hx] at hsu;have HMU':=zb hmu;have HDA':=zb hda;have HOF':=zb hof;have HAD':=zb had;have HSU':=zb hsu;have HST:=zb hstep;have HDG:=zb hdig;have HX:=zb hx;have d10:=yS a m;rw [show (((m+1:Nat):Int)-1)=(m:Int) by omega];clear hmu hda hof had hsu hstep hdig hrow hx;generalize dg 10 a m=D at *
   generalize hRR:rd a b (m+1)=RR at *
   clear hRR;have hwD:IntKind.u64.wrap (D:Int)=(D:Int):=by rw [IntKind.wrap_u64];omega
   go_wp2_with fail
   refine (HMU'.out _).mono ?_;rintro e w1 ⟨rfl,hb1⟩;go_wp2_with fail
   refine (HDA'.out _).mono ?_;rintro e w2 ⟨rfl,rfl⟩;go_wp2_with fail
   refine (HOF'.out _).mono ?_;rintro e w3 ⟨rfl,hb3⟩;go_wp2_with fail
   refine (HAD'.out _).mono ?_;rintro e w4 ⟨rfl,hb4⟩;have hB:=(hb1.trans (hb3.mono hb1.size)).trans (hb4.mono (Nat.le_trans hb1.size hb3.size));have hrow4:=zo hrow0 hB;have hbel4:=zw hbel hB hbel.size;clear hb1 hb3 hb4 hB hrow0 hbel;go_wp2_with fail
   go_loopw [8] (fun r wr=>∃ t:Nat,t*b≤x∧r = .string (zc (x-t*b))∧wr.rowIs w.heap.size 3 sa.size (dvF (a / b) m t)∧Below w.heap.size w wr) (fun r _=>dcvN r)
   case atStart=>exact ⟨0,by omega,by rw [Nat.zero_mul];rfl,hrow4,hbel4⟩
   case round =>
    clear hrow4 hbel4;obtain ⟨t,ht,rfl,hrow,hbel⟩:=hrel;have ht10:t<10:=Nat.lt_of_not_le fun h=>by
     have:=Nat.mul_le_mul_right b h;omega
    rcases Nat.lt_or_ge (x-t*b) b with hlt | hge
    ·have hq:t=x / b:=by
      have h1:x / b=t:=Nat.div_eq_of_lt_le (by rw [Nat.mul_comm] at ht;rw [Nat.mul_comm];omega) (by rw [Nat.succ_mul];omega);exact h1.symm
     have hr:x-t*b=rd a b m:=by
      rw [← HST.out];have:=Nat.div_add_mod x b;rw [← hq,Nat.mul_comm] at this;omega
     have hc:qv (x-t*b) b = -1:=by unfold qv;rw [if_pos hlt]
     have hcm:=fun W=>HCM.out W (x-t*b);rw [hc] at hcm;have HC':=zb hcm;have HRR:=zb hr;have HTT:=zb (hq.trans HDG.out);clear hq hr hc hcm;go_wp2_with fail
     refine (HC'.out _).mono ?_;rintro e w5 ⟨rfl,rfl⟩;go_wp2_with fail
     refine ⟨⟨m,by omega,rfl,by rw [HRR.out],hrow.congr fun j hj=>?_,hbel⟩,by simp [intOf] <;> omega⟩;unfold dvF;by_cases e:j=m
     ·subst e;rw [if_pos rfl,if_pos (zu _),HTT.out];rfl
     ·rw [if_neg e];by_cases e2:m+1≤j
      ·rw [if_pos e2,if_pos (by omega)]
      ·rw [if_neg e2,if_neg (by omega)]
    ·have hc:0≤qv (x-t*b) b:=by unfold qv;rw [if_neg (by omega)];split <;> decide
     have hle:(t+1)*b≤x:=by rw [Nat.succ_mul];omega
     have hcm:=fun W=>HCM.out W (x-t*b);have hsu:=fun W=>HSU'.out W t hle;have hse:x-t*b-b=x-(t+1)*b:=by rw [Nat.succ_mul];omega
     rw [hse] at hsu;have hml:x-(t+1)*b<x-t*b:=by omega
     have hd:decide (0≤qv (x-t*b) b)=true:=decide_eq_true hc;generalize qv (x-t*b) b=C at *
     have HC':=zb hcm;have HS':=zb hsu;have hcell:=hrow.cell (i:=m) (by omega);have hcell2:wr.cell? ⟨w.heap.size,m,none⟩=some (.int .i64 (t:Int)):=hcell.trans (by unfold dvF;rw [if_pos rfl]);have hfr:=hrow.frozen m;have hrl:=hrow.lt;clear hcell hcm hsu hc;go_wp2_with fail
     refine (HC'.out _).mono ?_;rintro e w5 ⟨rfl,rfl⟩;go_wp2_with fail
     refine (HS'.out _).mono ?_;rintro e w6 ⟨rfl,hb6⟩;have hrow6:=zo hrow hb6;have hcell6:w6.cell? ⟨w.heap.size,m,none⟩=some (.int .i64 (t:Int)):=(hrow6.cell (i:=m) (by omega)).trans (by unfold dvF;rw [if_pos rfl]);have hfr6:=hrow6.frozen m;have hset:=hrow6.set m (.int .i64 ((t+1:Nat):Int));have hset2:(w6.setCell ⟨w.heap.size,m,none⟩ (.int .i64 ((t+1:Nat):Int))).rowIs w.heap.size 3 sa.size (dvF (a / b) m (t+1)):=hset.congr fun j hj=>by
      unfold dvF;by_cases e:j=m
      ·rw [if_pos e,if_pos e]
      ·rw [if_neg e,if_neg e,if_neg e]
     have hbel6:=(zw hbel hb6 hbel.size).setCell (p:=⟨w.heap.size,m,none⟩) (zu _) (.int .i64 ((t+1:Nat):Int));have HS2:=zb hset2;have HB2:=zb hbel6;have hi1:(m:Int)<(sa.size:Int):=by omega
     have hi2:m<sa.size:=by omega
     have hi3:(0:Int)≤(m:Int):=by omega
     clear hcell2 hfr hset hset2 hbel6 hb6 hrow;go_wp2_with fail
     exact ⟨⟨t+1,hle,rfl,HS2.out,HB2.out⟩,by rw [ze8,ze8];exact hml⟩
theorem rgcd_any (w:World) (a b:Nat) (ha:zz a≤1000000) (hb:zz b≤1000000) :
  Calls Tryz.prog 146 #[.string (zc a),.string (zc b)] w fun e w'=>e = .returned (.string (zc (Nat.gcd a b)))∧Below w.heap.size w w':=by
 have hdv:=fun W x y h1 h2 h3=>zgn W x y h1 h2 h3;have HDV:=zb hdv;clear hdv;have HG:Hid (∀ x y,0<y→Nat.gcd y (x%y)=Nat.gcd x y):=zb fun x y h=>by rw [Nat.gcd_comm y,← Nat.gcd_rec,Nat.gcd_comm]
 go_enter Tryz.func146, Tryz.ntmps146;go_wp2_with fail
 go_loopw [0,1] (fun s t wr=>∃ x y:Nat,s = .string (zc x)∧t = .string (zc y)∧zz x≤1000000∧zz y≤1000000∧Nat.gcd x y=Nat.gcd a b∧Below w.heap.size w wr) (fun _ t _=>dcvN t)
 case atStart=>exact ⟨a,b,rfl,rfl,ha,hb,rfl,zx _ _⟩
 case round =>
  clear ha hb;obtain ⟨x,y,rfl,rfl,hx,hy,hg,hbel⟩:=hrel;rcases Nat.eq_zero_or_pos y with h0 | h0
  ·have hbe:((zc y).toList==[48])=true:=by rw [beq_iff_eq];exact (zg8 y).2 h0
   have hxg:x=Nat.gcd a b:=by rw [← hg,h0,Nat.gcd_zero_right]
   have HXG:=zb hxg;have hb3:((zc y).toList != [48])=false:=by simp [bne,hbe]
   clear hg hxg h0;go_wp2_with fail
   go_ret;exact ⟨by rw [HXG.out];rfl,hbel⟩
  ·have hbe:((zc y).toList==[48])=false:=beq_eq_false_iff_ne.2 fun e=>by have:=(zg8 y).1 e;omega
   have hml:x%y<y:=Nat.mod_lt _ h0;have hgg:=HG.out x y h0;rw [hg] at hgg;have HGG:=zb hgg;have hdy:zz (x%y)≤1000000:=by have:=oU (Nat.le_of_lt hml);omega
   have hdv:=fun W=>HDV.out W x y hx hy h0;have HD':=zb hdv;generalize x / y=Q at *
   have hb3:((zc y).toList != [48])=true:=by simp [bne,hbe]
   clear hdv hg hgg;go_wp2_with fail
   refine (HD'.out _).mono ?_;rintro e w1 ⟨rfl,hb1⟩;go_wp2_with fail
   exact ⟨⟨y,x%y,rfl,rfl,hy,hdy,HGG.out,zw hbel hb1 hbel.size⟩,by rw [ze8,ze8];exact hml⟩
end Go.Proofs.YtmhllppjcilllaaGreatDoor
end
end
