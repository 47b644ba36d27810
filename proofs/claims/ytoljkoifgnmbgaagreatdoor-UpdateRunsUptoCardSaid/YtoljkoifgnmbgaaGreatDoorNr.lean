import Derived.Test.YtoljkoifgnmbgaaGreatDoorM1
import Derived.Test.YtoljkoifgnmbgaaGreatDoorN1
import Derived.Test.YtoljkoifgnmbgaaGreatDoorB1
set_option linter.unusedSimpArgs false
set_option linter.unusedVariables false
section
section
namespace Cs
theorem zis {s:Nat} (hs:s≤32):2^s*2^(32-s)=4294967296:=by
 rw [← Nat.pow_add,show s+(32-s)=32 by omega]
def jG (V s i:Nat):Nat:=(V%2^(32*i))*2^s / 2^(32*i)
theorem shC_zero (V s:Nat):jG V s 0=0:=by simp [jG,Nat.mod_one]
theorem zjN (V s i:Nat):jG V s i<2^s:=by
 unfold jG;rw [Nat.div_lt_iff_lt_mul (Nat.pow_pos (by decide)),Nat.mul_comm (2^s)];exact Nat.mul_lt_mul_of_pos_right (Nat.mod_lt _ (Nat.pow_pos (by decide))) (Nat.pow_pos (by decide))
theorem xS (V s i:Nat):V*2^s / 2^(32*i)=V / 2^(32*i)*2^s+jG V s i:=by
 have h:V*2^s=(V%2^(32*i))*2^s+2^(32*i)*(V / 2^(32*i)*2^s):=by
  conv=>lhs;rw [← Nat.mod_add_div V (2^(32*i))]
  rw [Nat.add_mul,Nat.mul_assoc]
 rw [h,Nat.add_mul_div_left _ _ (Nat.pow_pos (by decide)),Nat.add_comm];rfl
theorem shC_succ (V s i:Nat) (hs:s≤32):jG V s (i+1)=wd V i / 2^(32-s):=by
 have hp:=zis hs;have h0:0<2^(32-s):=Nat.pow_pos (by decide);have h1:=zjN V s i;have e:jG V s (i+1)=(wd V i*2^s+jG V s i) / 4294967296:=by
  unfold jG;rw [zbQ,zbB,← Nat.div_div_eq_div_mul,Nat.add_mul,Nat.mul_assoc,Nat.add_mul_div_left _ _ (Nat.pow_pos (by decide)),Nat.add_comm]
 rw [e,← hp,← Nat.div_div_eq_div_mul,Nat.mul_comm (wd V i),Nat.mul_add_div (Nat.pow_pos (by decide)),Nat.div_eq_of_lt h1,Nat.add_zero]
theorem zlb (V s i:Nat) (hs:s<32):(wd V i*2^s)%4294967296 ||| jG V s i=wd (V*2^s) i:=by
 have hp:=zis (Nat.le_of_lt hs);have h1:=zjN V s i;have h0:0<2^s:=Nat.pow_pos (by decide);have e1:(wd V i*2^s)%4294967296=(wd V i%2^(32-s))*2^s:=by
  rw [← hp,Nat.mul_comm (2^s),Nat.mul_mod_mul_right]
 rw [e1,← Nat.shiftLeft_eq,← Nat.shiftLeft_add_eq_or_of_lt h1,Nat.shiftLeft_eq];show _=V*2^s / 2^(32*i)%4294967296;rw [xS];have e2:V / 2^(32*i)*2^s=(wd V i%2^(32-s))*2^s+4294967296*(V / 2^(32*i) / 2^(32-s)):=by
  have h2:wd V i%2^(32-s)=V / 2^(32*i)%2^(32-s):=by
   unfold wd;rw [← hp,Nat.mul_comm (2^s),Nat.mod_mul_right_mod]
  rw [h2]
  conv=>lhs;rw [← Nat.mod_add_div (V / 2^(32*i)) (2^(32-s))]
  rw [Nat.add_mul,← hp];congr 1
  ac_rfl
 rw [e2,Nat.add_right_comm,Nat.add_mul_mod_self_left];refine (Nat.mod_eq_of_lt ?_).symm;have h3:wd V i%2^(32-s)<2^(32-s):=Nat.mod_lt _ (Nat.pow_pos (by decide))
 calc wd V i%2^(32-s)*2^s+jG V s i<wd V i%2^(32-s)*2^s+2^s:=by omega
  _=(wd V i%2^(32-s)+1)*2^s:=by rw [Nat.add_mul,Nat.one_mul]
  _≤2^(32-s)*2^s:=Nat.mul_le_mul_right _ h3
  _=4294967296:=by rw [Nat.mul_comm];exact hp
theorem back_word (V s i:Nat) (hs:s<32):wd V i / 2^s ||| (wd V (i+1)*2^(32-s))%4294967296=wd (V / 2^s) i:=by
 apply Nat.eq_of_testBit_eq;intro j;unfold wd;rw [show (4294967296:Nat)=2^32 by rfl];simp only [Nat.testBit_or,Nat.testBit_mod_two_pow,Nat.testBit_div_two_pow,Nat.testBit_mul_two_pow];by_cases hj:j<32
 ·by_cases h2:j+s<32
  ·have h3:¬ 32-s≤j:=by omega
   have e:j+s+32*i=j+32*i+s:=by omega
   simp [hj,h2,h3,e]
  ·have h3:32-s≤j:=by omega
   have h4:j-(32-s)<32:=by omega
   have e:j-(32-s)+32*(i+1)=j+32*i+s:=by omega
   simp [hj,h2,h3,h4,e]
 ·have h2:¬ j+s<32:=by omega
  simp [hj,h2]
theorem zkV {top x0 y1 y0 d rest K L M U Y:Nat} (hK:0<K) (hL:L<K) (hU:U=(top*4294967296+x0)*K+L) (hY:Y=(y1*4294967296+y0)*K+M)
  (hr:top=d*y1+rest) (hx:x0<4294967296) (hlt:U<4294967296*Y) (hd:4294967296≤d∨rest*4294967296+x0<d*y0):U<d*Y:=by
 rcases hd with hd | hd
 ·exact Nat.lt_of_lt_of_le hlt (Nat.mul_le_mul_right _ hd)
 ·have h1:top*4294967296+x0+1≤d*(y1*4294967296+y0):=by
   rw [hr,Nat.mul_add,Nat.add_mul,← Nat.mul_assoc];omega
  have h2:(top*4294967296+x0+1)*K≤d*(y1*4294967296+y0)*K:=Nat.mul_le_mul_right _ h1;rw [hU,hY,Nat.mul_add,← Nat.mul_assoc];rw [Nat.add_mul _ 1 K,Nat.one_mul] at h2;have h3:0≤d*M:=Nat.zero_le _;omega
theorem zkU {top x0 y1 y0 d rest K L M U Y:Nat} (hM:M<K) (hU:U=(top*4294967296+x0)*K+L) (hY:Y=(y1*4294967296+y0)*K+M)
  (hr:top=d*y1+rest) (hd:d<4294967296) (hy:2147483648≤y1) (h:d*y0≤rest*4294967296+x0):d*Y<U+Y:=by
 have h1:d*(y1*4294967296+y0)≤top*4294967296+x0:=by
  rw [hr,Nat.mul_add,Nat.add_mul,← Nat.mul_assoc];omega
 have h2:d*(y1*4294967296+y0)*K≤(top*4294967296+x0)*K:=Nat.mul_le_mul_right _ h1;have h3:d*M≤4294967295*M:=Nat.mul_le_mul_right _ (by omega);have h4:4294967295*M≤4294967295*K:=Nat.mul_le_mul_left _ (Nat.le_of_lt hM);have h5:y1*4294967296*K≤(y1*4294967296+y0)*K:=Nat.mul_le_mul_right _ (Nat.le_add_right _ _);have h6:4294967296*K≤y1*4294967296*K:=by
  rw [Nat.mul_assoc];exact Nat.le_mul_of_pos_left _ (by omega)
 have hK:0<K:=by omega
 rw [hU,hY,Nat.mul_add,← Nat.mul_assoc];omega
theorem ziW {top x0 y1 y0 K L M U Y:Nat} (hK:0<K) (hL:L<K) (hU:U=(top*4294967296+x0)*K+L) (hY:Y=(y1*4294967296+y0)*K+M)
  (hx:x0<4294967296) (hy:0<y1):U<(top / y1+1)*Y:=by
 have h1:top+1≤(top / y1+1)*y1:=by
  have:=Nat.div_add_mod top y1;have h2:=Nat.mod_lt top hy;rw [Nat.add_mul,Nat.one_mul,Nat.mul_comm];omega
 have h2:(top+1)*(4294967296*K)≤(top / y1+1)*y1*(4294967296*K):=Nat.mul_le_mul_right _ h1;have h3:(top / y1+1)*y1*(4294967296*K)≤(top / y1+1)*Y:=by
  rw [hY,Nat.mul_assoc];refine Nat.mul_le_mul_left _ ?_;rw [← Nat.mul_assoc,Nat.add_mul _ _ K];omega
 have h4:U<(top+1)*(4294967296*K):=by
  rw [hU,Nat.add_mul,Nat.add_mul,Nat.one_mul,← Nat.mul_assoc];have h5:x0*K+K≤4294967296*K:=by
   rw [← Nat.succ_mul];exact Nat.mul_le_mul_right _ hx
  omega
 omega
theorem xF {top x0 y1 y0 K L M U Y:Nat} (hK:0<K) (hM:M<K) (hU:U=(top*4294967296+x0)*K+L) (hY:Y=(y1*4294967296+y0)*K+M)
  (hlt:U<4294967296*Y):top≤y1*4294967296+y0:=by
 refine Nat.le_of_not_lt fun h=>?_;generalize y1*4294967296+y0=P at h hY;have h1:(P+1)*(4294967296*K)≤top*(4294967296*K):=Nat.mul_le_mul_right _ h;have h2:top*(4294967296*K)≤U:=by
  rw [hU,Nat.add_mul,← Nat.mul_assoc];omega
 rw [show (P+1)*(4294967296*K)=4294967296*(P*K+K) by rw [Nat.add_mul,Nat.one_mul,Nat.mul_left_comm,← Nat.mul_add]] at h1;generalize P*K=Q at h1 hY;omega
def tb (T Y d k:Nat):Nat:=(T%2^(32*k)+d*(Y%2^(32*k))) / 2^(32*k)
theorem tb_zero (T Y d:Nat):tb T Y d 0=0:=by simp [tb,Nat.mod_one]
theorem tb_le (T Y d k:Nat):tb T Y d k≤d:=by
 unfold tb;have hp:0<2^(32*k):=Nat.pow_pos (by decide);generalize 2^(32*k)=p at hp;have h1:=Nat.mod_lt T hp;have h2:d*(Y%p)≤d*p:=Nat.mul_le_mul_left _ (Nat.le_of_lt (Nat.mod_lt Y hp));rw [← Nat.lt_succ_iff,Nat.div_lt_iff_lt_mul hp,Nat.succ_mul];omega
theorem gG (T Y d k:Nat):(tb T Y d k+(wd T k+d*wd Y k)) / 4294967296=tb T Y d (k+1):=by
 unfold tb;rw [zbQ,zbQ,zbB,← Nat.div_div_eq_div_mul];have e:T%2^(32*k)+2^(32*k)*wd T k+d*(Y%2^(32*k)+2^(32*k)*wd Y k)=T%2^(32*k)+d*(Y%2^(32*k))+2^(32*k)*(wd T k+d*wd Y k):=by
  rw [Nat.mul_add d,Nat.mul_add (2^(32*k)),Nat.mul_left_comm d];omega
 rw [e,Nat.add_mul_div_left _ _ (Nat.pow_pos (by decide))]
theorem tb_word (T Y d k:Nat):(tb T Y d k+(wd T k+d*wd Y k))%4294967296=wd (T+d*Y) k:=by
 have hp:0<2^(32*k):=Nat.pow_pos (by decide);have e:T+d*Y=T%2^(32*k)+d*(Y%2^(32*k))+2^(32*k)*(T / 2^(32*k)+d*(Y / 2^(32*k))):=by
  conv=>lhs;rw [← Nat.mod_add_div T (2^(32*k)),← Nat.mod_add_div Y (2^(32*k))]
  rw [Nat.mul_add d,Nat.mul_add (2^(32*k)),Nat.mul_left_comm d];omega
 show _=(T+d*Y) / 2^(32*k)%4294967296;rw [e,Nat.add_mul_div_left _ _ hp];show (tb T Y d k+(T / 2^(32*k)%4294967296+d*(Y / 2^(32*k)%4294967296)))%4294967296=_;show _=(tb T Y d k+(T / 2^(32*k)+d*(Y / 2^(32*k))))%4294967296;generalize T / 2^(32*k)=a;generalize Y / 2^(32*k)=b;simp only [Nat.add_mod,Nat.mul_mod,Nat.mod_mod]
theorem xK {u t part:Nat} (ht:t<4294967296) (hu:u=(t+part)%4294967296) :
  t=(u+4294967296-part%4294967296)%4294967296∧(t+part) / 4294967296=part / 4294967296+if u<part%4294967296 then 1 else 0:=by
 subst hu;constructor
 ·omega
 ·split <;> omega
theorem zgW (Z i k:Nat):wd Z (i+k)=wd (Z / 2^(32*i)) k:=by
 unfold wd;rw [Nat.div_div_eq_div_mul,← Nat.pow_add,Nat.mul_add]
theorem xC (Z n j:Nat) (h:j<n):wd (Z%2^(32*n)) j=wd Z j:=by
 conv=>rhs;rw [← Nat.mod_add_div Z (2^(32*n))]
 rw [zhP _ _ _ _ h]
def lr (X Y i:Nat):Nat:=X%(Y*2^(32*i))
theorem lr_zero (X Y:Nat):lr X Y 0=X%Y:=by simp [lr]
theorem lr_top (X Y i:Nat) (h:X<Y*2^(32*i)):lr X Y i=X:=Nat.mod_eq_of_lt h
theorem lr_mod (X Y i:Nat):lr X Y i=lr X Y (i+1)%(Y*2^(32*i)):=by
 unfold lr;rw [zbB,← Nat.mul_assoc,Nat.mod_mul_right_mod]
theorem zkr (X Y i:Nat):lr X Y i=lr X Y (i+1)%2^(32*i)+2^(32*i)*(lr X Y (i+1) / 2^(32*i)%Y):=by
 rw [lr_mod,Nat.mul_comm Y,Nat.mod_mul]
theorem lr_high (X Y i:Nat):lr X Y i / 2^(32*i)=lr X Y (i+1) / 2^(32*i)%Y:=by
 have hp:0<2^(32*i):=Nat.pow_pos (by decide);rw [zkr,Nat.add_mul_div_left _ _ hp,Nat.div_eq_of_lt (Nat.mod_lt _ hp),Nat.zero_add]
theorem lr_low (X Y i j:Nat) (h:j<i):wd (lr X Y i) j=wd (lr X Y (i+1)) j:=by
 rw [zkr,zhP _ _ _ _ h,xC _ _ _ h]
theorem lr_lt (X Y i:Nat) (hY:0<Y):lr X Y (i+1) / 2^(32*i)<4294967296*Y:=by
 have hp:0<2^(32*i):=Nat.pow_pos (by decide);rw [Nat.div_lt_iff_lt_mul hp,Nat.mul_comm 4294967296,Nat.mul_assoc,Nat.mul_comm 4294967296,← zbB];exact Nat.mod_lt _ (Nat.mul_pos hY (Nat.pow_pos (by decide)))
theorem lr_digit (X Y i:Nat):lr X Y (i+1) / 2^(32*i) / Y=wd (X / Y) i:=by
 unfold lr wd;rw [Nat.div_div_eq_div_mul,Nat.div_div_eq_div_mul,Nat.mul_comm (2^(32*i)) Y,zbB,← Nat.mul_assoc,Nat.mod_mul_right_div_self]
def rd (a b i:Nat):Nat:=a / 10^i%b
theorem dg_split (a i:Nat):a / 10^i=a / 10^(i+1)*10+dg 10 a i:=by
 unfold dg;rw [Nat.pow_succ,← Nat.div_div_eq_div_mul];have:=Nat.div_add_mod (a / 10^i) 10;omega
theorem rd_zero (a b:Nat):rd a b 0=a%b:=by simp [rd]
theorem rd_top (a b n:Nat) (h:nd 10 a≤n):rd a b n=0:=by
 unfold rd;rw [Nat.div_eq_of_lt ((yh 10 (by decide) _ _).1 h),Nat.zero_mod]
theorem gK (a b i:Nat):a / 10^i=b*(10*(a / 10^(i+1) / b))+(rd a b (i+1)*10+dg 10 a i):=by
 have h:=Nat.div_add_mod (a / 10^(i+1)) b;rw [dg_split a i]
 conv=>lhs;rw [← h]
 show (b*(a / 10^(i+1) / b)+rd a b (i+1))*10+_=_;rw [Nat.add_mul,← Nat.add_assoc];congr 2
 ac_rfl
theorem rd_step (a b i:Nat):(rd a b (i+1)*10+dg 10 a i)%b=rd a b i:=by
 show _=a / 10^i%b;rw [gK a b i,Nat.mul_add_mod]
theorem rd_lt (a b i:Nat) (hb:0<b):rd a b (i+1)*10+dg 10 a i<10*b:=by
 have h1:rd a b (i+1)<b:=Nat.mod_lt _ hb;have h2:=dg_lt 10 a i (by decide);omega
theorem rd_digit (a b i:Nat) (hb:0<b):(rd a b (i+1)*10+dg 10 a i) / b=dg 10 (a / b) i:=by
 have h2:(rd a b (i+1)*10+dg 10 a i) / b<10:=by
  rw [Nat.div_lt_iff_lt_mul hb];exact rd_lt a b i hb
 show _=a / b / 10^i%10;rw [Nat.div_div_eq_div_mul,Nat.mul_comm b,← Nat.div_div_eq_div_mul,gK a b i,Nat.mul_add_div hb,Nat.mul_add_mod,Nat.mod_eq_of_lt h2]
end Cs
end
section
namespace Cs
def qd (d:Nat):Nat:=if d=0 then 1 else d
theorem xp (d:Nat):0<qd d:=by unfold qd;split <;> omega
theorem yE {d:Nat} (h:0<d):qd d=d:=by unfold qd;rw [if_neg (by omega)]
def qq (n d:Nat):Rat:=mkRat (n:Int) (qd d)
def qn (q:Rat):Nat:=q.num.toNat
theorem zir (d:Nat):qd d≠0:=Nat.ne_of_gt (xp d)
theorem qq_qd (n d:Nat):qq n (qd d)=qq n d:=by unfold qq;rw [yE (xp d)]
theorem qq_num (n d:Nat):(qq n d).num=((n / Nat.gcd n (qd d):Nat):Int):=by
 unfold qq;rw [Rat.num_mkRat,if_neg (zir d),Int.natAbs_natCast,Nat.gcd_comm,Int.natCast_ediv]
theorem gP (n d:Nat):qn (qq n d)=n / Nat.gcd n (qd d):=by
 unfold qn;rw [qq_num,Int.toNat_natCast]
theorem zk1 (n d:Nat):(qq n d).den=qd d / Nat.gcd n (qd d):=by
 unfold qq;rw [Rat.den_mkRat,if_neg (zir d),Int.natAbs_natCast,Nat.gcd_comm]
theorem zf3 (n d:Nat):0≤qq n d:=by
 rw [← Rat.num_nonneg,qq_num];exact Int.natCast_nonneg _
theorem num_qn {q:Rat} (h:0≤q):q.num=(qn q:Int):=(Int.toNat_of_nonneg (Rat.num_nonneg.2 h)).symm
theorem zf5 {q:Rat} (h:0≤q):qq (qn q) q.den=q:=by
 unfold qq;rw [← num_qn h,yE q.den_pos,Rat.mkRat_self]
theorem qq_mk {n d:Nat} (hd:0<d):qq n d=mkRat (n:Int) d:=by unfold qq;rw [yE hd]
theorem qq_add (n d n' d':Nat):qq (n*qd d'+n'*qd d) (qd d*qd d')=qq n d+qq n' d':=by
 rw [qq_mk (Nat.mul_pos (xp _) (xp _)),qq,qq,Rat.mkRat_add_mkRat _ _ (zir _) (zir _)];simp
theorem j6 (n d n' d':Nat):qq (n*n') (qd d*qd d')=qq n d*qq n' d':=by
 rw [qq_mk (Nat.mul_pos (xp _) (xp _)),qq,qq,Rat.mkRat_mul_mkRat];simp
theorem zf4 (n d n' d':Nat):qq n d=qq n' d'↔n*qd d'=n'*qd d:=by
 rw [qq,qq,Rat.mkRat_eq_iff (zir _) (zir _)];constructor <;> intro h
 ·exact Int.ofNat.inj (by simpa using h)
 ·have:=congrArg (fun x:Nat=>(x:Int)) h;simpa using this
theorem zc8 (n d:Nat):qq n d=0↔n=0:=by
 rw [qq,Rat.mkRat_eq_zero (zir _)];exact Int.natCast_eq_zero
theorem ziq (n:Nat):qn (n:Rat)=n:=rfl
theorem zg3 (n:Nat):qq n 1=(n:Rat):=by
 have h:(0:Rat)≤(n:Rat):=Rat.natCast_nonneg;have:=zf5 h;exact this
def Lt (n d:Nat):Prop:=n=qn (qq n d)∧(d=(qq n d).den∨(n=0∧d=0))
theorem Lt.zero:Lt 0 0:=⟨rfl,.inr ⟨rfl,rfl⟩⟩
theorem Lt.can {q:Rat} (h:0≤q):Lt (qn q) q.den:=by
 constructor
 ·rw [zf5 h]
 ·left;rw [zf5 h]
theorem Lt.qd {n d:Nat} (h:Lt n d):qd d=(qq n d).den:=by
 obtain ⟨h1,h2 | ⟨h2,h3⟩⟩:=h
 ·rw [yE (by rw [h2];exact (qq n d).den_pos)];exact h2
 ·subst h2;subst h3;decide +kernel
def jd (q:Rat):ByteArray:=if q.den=1 then zj (qn q) else zj (qn q)++⟨#[47]⟩++zj q.den
def Sm (B:Nat) (q:Rat):Prop:=0≤q∧qn q<2^B∧q.den<2^B
theorem Sm.of {B n d:Nat} (hn:n<2^B) (hd:qd d<2^B):Sm B (qq n d) :=
 ⟨zf3 _ _,by rw [gP];exact Nat.lt_of_le_of_lt (Nat.div_le_self _ _) hn,by rw [zk1];exact Nat.lt_of_le_of_lt (Nat.div_le_self _ _) hd⟩
end Cs
end
end
section
set_option maxRecDepth 100000
set_option maxHeartbeats 1000000
section
open Go Go.RowKit Cs
namespace Go.Proofs.YtoljkoifgnmbgaaGreatDoor
def yB (T i n:Nat) (F:Nat→Value) (j:Nat):Value:=if i≤j∧j<i+n then .int .u32 (wd T (j-i)) else F j
theorem zi9 (w:World) (g N i n cap gy oy capy T Y:Nat) (F:Nat→Value) (hn:n≤1000000) (hiN:i+n<N) (hr0:w.rowIs g 123 N F) (hF:∀ k,k≤n→F (i+k) = .int .u32 (wd T k))
  (hy:∀ k,k<n→w.cell? ⟨gy,oy+k,none⟩=some (.int .u32 (wd Y k))) (hne:gy≠g) (hY:Y<2^(32*n)) (hi:i≤10000000) (ho:oy≤10000000) :
  Calls Tryz.prog 173 #[.slice (some ⟨g,i,none⟩) (n+1) cap,.slice (some ⟨gy,oy,none⟩) n capy] w fun e w'=>e = .returned (.tuple #[])∧w'.rowIs g 123 N (yB (Y+T) i (n+1) F)∧w.grownBy w' (some g):=by
 have hwn:wd Y n=0:=jO _ _ ((qJ _ _).2 hY);have HF:=za hF;have HY:=za hy;have HWN:=za hwn;clear hF hy hwn hY;go_enter Tryz.func173, Tryz.ntmps173;go_wp2_with fail
 go_loopw [4,8] (fun c t wr=>∃ k:Nat,k≤n∧t = .int .i64 k∧c = .int .u64 (cr Y T k)∧wr.rowIs g 123 N (yB (Y+T) i k F)∧w.grownBy wr (some g)) (fun _ t _=>n-(intOf t).toNat)
 case atStart=>exact ⟨0,by omega,rfl,by rw [zj2];rfl,hr0.congr fun j _=>by unfold yB;rw [if_neg (by omega)],World.grownBy.refl w _⟩
 case round =>
  obtain ⟨k,hk,rfl,rfl,hr,hg⟩:=hrel;have hcr:=cr_le Y T k;have c1:=hr.cell (i:=i+k) (by omega);unfold yB at c1;rw [if_neg (by omega),HF.out k hk] at c1;have f1:=hr.frozen (i+k);by_cases hlt:k<n
  ·have c2:wr.cell? ⟨gy,oy+k,none⟩=some (.int .u32 (wd Y k)):=hg.cell (HY.out k hlt) (by intro e;injection e with e;exact hne e);have hwa:=qM Y k;have hwb:=qM T k;go_wp2
   go_quiet (fail)
   go_wp2;have e1:((cr Y T k:Int)+((wd T k:Int)+(wd Y k:Int))) / 4294967296=((cr Y T (k+1):Nat):Int):=by rw [← zj3];simp
   have e2:((cr Y T k:Int)+((wd T k:Int)+(wd Y k:Int)))%4294967296=((wd (Y+T) k:Nat):Int):=by rw [← ze9];simp
   rw [e1,e2];go_roundw
   case rel =>
    refine ⟨k+1,by omega,by go_num,rfl,((q5 hr _).set _ _).congr fun j hj=>?_,zaN (zby hg _) (.inl rfl) _⟩;unfold yB;split
    ·subst j;rw [if_pos (by omega),show i+k-i=k by omega]
    ·by_cases h:i≤j∧j<i+k
     ·rw [if_pos h,if_pos (by omega)]
     ·rw [if_neg h,if_neg (by omega)]
   case measure=>simp [intOf];omega
  ·obtain rfl:k=n:=by omega
   have hw:=ze9 Y T k;rw [HWN.out,Nat.add_zero] at hw;have hwb:=qM T k;go_wp2;have e2:((wd T k:Int)+(cr Y T k:Int))%4294967296=((wd (Y+T) k:Nat):Int):=by rw [← hw,Nat.add_comm];simp
   rw [e2]
   go_end0;refine ⟨rfl,(hr.set _ _).congr fun j hj=>?_,zaN hg (.inl rfl) _⟩;unfold yB;split
   ·subst j;rw [if_pos (by omega),show i+k-i=k by omega]
   ·by_cases h:i≤j∧j<i+k
    ·rw [if_pos h,if_pos (by omega)]
    ·rw [if_neg h,if_neg (by omega)]
theorem tk_word {T U Y d c n k:Nat} (hE:T+d*Y=U+2^(32*(n+1))*c) (hk:k≤n):(tb T Y d k+(wd T k+d*wd Y k))%4294967296=wd U k:=by
 rw [tb_word,hE,zhP _ _ _ _ (by omega)]
theorem tk_end {T U Y d c n:Nat} (hE:T+d*Y=U+2^(32*(n+1))*c) (hT:T<2^(32*(n+1))) (hU:U<2^(32*(n+1))) (hY:Y<2^(32*n)):tb T Y d (n+1)=c:=by
 have hY':Y<2^(32*(n+1)):=Nat.lt_of_lt_of_le hY (Nat.pow_le_pow_right (by decide) (by omega));unfold tb;rw [Nat.mod_eq_of_lt hT,Nat.mod_eq_of_lt hY',hE,Nat.add_mul_div_left _ _ (Nat.pow_pos (by decide)),Nat.div_eq_of_lt hU,Nat.zero_add]
theorem mul_w {a b:Nat} (ha:a<4294967296) (hb:b<4294967296):(a:Int)*(b:Int)≤18446744065119617025∧(0:Int)≤(a:Int)*(b:Int):=by
 refine ⟨?_,Int.mul_nonneg (by omega) (by omega)⟩;have h:a*b≤4294967295*4294967295:=Nat.mul_le_mul (by omega) (by omega);have:=Int.ofNat_le.2 h;simpa using this
theorem zhX (w:World) (g N i n cap gy oy capy U T Y d c:Nat) (F:Nat→Value) (hn:n≤1000000) (hiN:i+n<N) (hr0:w.rowIs g 123 N F) (hF:∀ k,k≤n→F (i+k) = .int .u32 (wd U k))
  (hy:∀ k,k<n→w.cell? ⟨gy,oy+k,none⟩=some (.int .u32 (wd Y k))) (hne:gy≠g) (hY:Y<2^(32*n)) (hi:i≤10000000) (ho:oy≤10000000)
  (hd:d<4294967296) (hc:c≤1) (hU:U<2^(32*(n+1))) (hT:T<2^(32*(n+1))) (hE:T+d*Y=U+2^(32*(n+1))*c) :
  Calls Tryz.prog 172 #[.slice (some ⟨g,i,none⟩) (n+1) cap,.slice (some ⟨gy,oy,none⟩) n capy,.int .u64 d] w fun e w'=>e = .returned (.bool (decide (c=1)))∧w'.rowIs g 123 N (yB T i (n+1) F)∧w.grownBy w' (some g):=by
 have hwn:wd Y n=0:=jO _ _ ((qJ _ _).2 hY);have hend:=tk_end hE hT hU hY;have hwk:=fun k (h:k≤n)=>tk_word hE h;have HF:=za hF;have HY:=za hy;have HWN:=za hwn;have HEND:=za hend;have HWK:=za hwk;clear hF hy hwn hY hend hwk hE hT hU;go_enter Tryz.func172, Tryz.ntmps172;go_wp2_with fail
 go_loopw [7,13] (fun c t wr=>∃ k:Nat,k≤n∧t = .int .i64 k∧c = .int .u64 (tb T Y d k)∧wr.rowIs g 123 N (yB T i k F)∧w.grownBy wr (some g)) (fun _ t _=>n-(intOf t).toNat)
 case atStart=>exact ⟨0,by omega,rfl,by rw [tb_zero];rfl,hr0.congr fun j _=>by unfold yB;rw [if_neg (by omega)],World.grownBy.refl w _⟩
 case round =>
  obtain ⟨k,hk,rfl,rfl,hr,hg⟩:=hrel;have htb:=tb_le T Y d k;have c1:=hr.cell (i:=i+k) (by omega);unfold yB at c1;rw [if_neg (by omega),HF.out k hk] at c1;have f1:=hr.frozen (i+k);have hwu:=qM U k;have hwt:=qM T k;by_cases hlt:k<n
  ·have c2:wr.cell? ⟨gy,oy+k,none⟩=some (.int .u32 (wd Y k)):=hg.cell (HY.out k hlt) (by intro e;injection e with e;exact hne e);have hwy:=qM Y k;obtain ⟨hmul,hmul0⟩:=mul_w hd hwy;have e0:(((d*wd Y k+tb T Y d k:Nat)):Int)=(d:Int)*(wd Y k:Int)+(tb T Y d k:Int):=by simp
   obtain ⟨t1,t2⟩:=xK (u:=wd U k) (t:=wd T k) (part:=d*wd Y k+tb T Y d k) hwt (by rw [← HWK.out k (by omega)];congr 1;omega);have t3:=gG T Y d k;rw [show tb T Y d k+(wd T k+d*wd Y k)=wd T k+(d*wd Y k+tb T Y d k) by omega,t2] at t3;have hrel:∀ wq:World,wq=wr.setCell ⟨g,i+k,none⟩ (.int .u32 (wd T k:Int))→wq.rowIs g 123 N (yB T i (k+1) F)∧w.grownBy wq (some g):=by
    rintro wq rfl;refine ⟨(hr.set _ _).congr fun j hj=>?_,zaN hg (.inl rfl) _⟩;unfold yB;split
    ·subst j;rw [if_pos (by omega),show i+k-i=k by omega]
    ·by_cases h:i≤j∧j<i+k
     ·rw [if_pos h,if_pos (by omega)]
     ·rw [if_neg h,if_neg (by omega)]
   have HREL:=za hrel;by_cases hlt2:wd U k<(d*wd Y k+tb T Y d k)%4294967296
   ·rw [if_pos hlt2] at t3;have e3:((d:Int)*(wd Y k:Int)+(tb T Y d k:Int)) / 4294967296+1=(tb T Y d (k+1):Int):=by rw [← e0];omega
    have e5:(wd U k:Int)<((d:Int)*(wd Y k:Int)+(tb T Y d k:Int))%4294967296:=by rw [← e0];omega
    have e4:((wd U k:Int)-((d:Int)*(wd Y k:Int)+(tb T Y d k:Int)))%4294967296=(wd T k:Int):=by
     rw [← e0];omega
    have HE4:=za e4;have HE3:=za e3;clear hlt2 t1 t2 t3 e0 hrel e4 e3;go_wp2;rw [HE3.out,HE4.out];go_roundw
    case rel=>exact ⟨k+1,by omega,by go_num,rfl,HREL.out _ rfl⟩
    case measure=>simp [intOf];omega
   ·rw [if_neg hlt2] at t3;have e3:((d:Int)*(wd Y k:Int)+(tb T Y d k:Int)) / 4294967296=(tb T Y d (k+1):Int):=by rw [← e0];omega
    have e5:¬ (wd U k:Int)<((d:Int)*(wd Y k:Int)+(tb T Y d k:Int))%4294967296:=by rw [← e0];omega
    have e4:(wd U k:Int)-((d:Int)*(wd Y k:Int)+(tb T Y d k:Int))%4294967296=(wd T k:Int):=by
     rw [← e0];omega
    have HE4:=za e4;have HE3:=za e3;clear hlt2 t1 t2 t3 e0 hrel e4 e3;go_wp2;rw [HE3.out,HE4.out];go_roundw
    case rel=>exact ⟨k+1,by omega,by go_num,rfl,HREL.out _ rfl⟩
    case measure=>simp [intOf];omega
  ·obtain rfl:k=n:=by omega
   have hw:=HWK.out k (zi _);have hs:=gG T Y d k;rw [HWN.out,Nat.mul_zero,Nat.add_zero] at hw hs;rw [HEND.out] at hs;have hcc:decide (c=1)=decide (wd U k<tb T Y d k):=by
    refine decide_eq_decide.2 ?_;constructor <;> intro h <;> omega
   have HCC:=za hcc;have e4:((wd U k:Int)-(tb T Y d k:Int))%4294967296=(wd T k:Int):=by omega
   have HE4:=za e4;clear hw hs hcc e4;go_wp2;rw [HE4.out];go_ret;refine ⟨by rw [HCC.out];rfl,(hr.set _ _).congr fun j hj=>?_,zaN hg (.inl rfl) _⟩;unfold yB;split
   ·subst j;rw [if_pos (by omega),show i+k-i=k by omega]
   ·by_cases h:i≤j∧j<i+k
    ·rw [if_pos h,if_pos (by omega)]
    ·rw [if_neg h,if_neg (by omega)]
end Go.Proofs.YtoljkoifgnmbgaaGreatDoor
end
section
open Go Go.RowKit Cs
namespace Go.Proofs.YtoljkoifgnmbgaaGreatDoor
theorem zft (w:World) (b n cap V s:Nat) (hn:n≤1000000) (hs:s<32) (hc0:∀ i,i<n→w.cell? ⟨b,i,none⟩=some (.int .u32 (wd V i))) (hbl:b<w.heap.size) :
  Calls Tryz.prog 157 #[.slice (some ⟨b,0,none⟩) n cap,.int .u64 s] w fun e w'=>∃ g,w.heap.size≤g∧e = .returned (.slice (some ⟨g,0,none⟩) n n)∧w'.rowIs g 123 n (fun i=>.int .u32 (wd (V*2^s) i))∧Below w.heap.size w w':=by
 have hmk:=zfK n (by omega);have hrow0:(w.alloc (.cells (madeCells #[.int .u32 0] n) 123)).rowIs w.heap.size 123 n (fun _=>.int .u32 0):=jz _ _ _ _ _ rfl fun _ _=>rfl;have hbel0:Below w.heap.size w (w.alloc (.cells (madeCells #[.int .u32 0] n) 123)):=(zA _ _).alloc (zi _) _;have hsrc:∀ j,j<n→(w.alloc (.cells (madeCells #[.int .u32 0] n) 123)).cell? ⟨b,0+j,none⟩=some (.int .u32 (wd V j)):=fun j hj=>by
  rw [Nat.zero_add];exact zF hbel0 hbl (hc0 j hj)
 have Hsrc:=za hsrc;clear hsrc;go_enter Tryz.func157, Tryz.ntmps157;go_wp2_with ((with_reducible refine zb2 rfl (.tmp 12) (.tmp 13) 121 121 rfl 123 Tryz.underlying121 zhb w.heap.size n n n cap (some ⟨b,0,none⟩) rfl rfl 123 n _ hrow0 (by omega) (by omega) (fun i=>.int .u32 (wd V i)) ?c1 ?c2 ?_);rotate_left;rotate_left;intro w3 hr3 hg3)
 case c1=>exact fun _=>⟨b,0,rfl,Hsrc.out⟩
 case c2=>exact fun _ _=>rfl
 have hr3':=hr3.congr (g:=fun i=>.int .u32 (wd V i)) fun i hi=>by rw [if_pos hi]
 have hbel3:Below w.heap.size w w3:=hbel0.grown hg3 (by simp) (fun k e=>by cases e;omega);have hc3:∀ i,i<n→w3.cell? ⟨b,i,none⟩=some (.int .u32 (wd V i)):=fun i hi=>zF hbel3 hbl (hc0 i hi);have HC:=za hc0;clear hr3 hg3 hrow0 Hsrc hmk hc0 hbel0 hc3;go_loopw [6,17] (fun c t wr=>∃ k:Nat,k≤n∧t = .int .i64 k∧c = .int .u32 (jG V s k)∧wr.rowIs w.heap.size 123 n (fun i=>.int .u32 (if i<k then wd (V*2^s) i else wd V i))∧Below w.heap.size w wr) (fun _ t _=>n-(intOf t).toNat)
 case atStart=>exact ⟨0,by omega,rfl,by rw [shC_zero];rfl,hr3'.congr fun i _=>by simp,hbel3⟩
 case round =>
  clear hr3' hbel3;obtain ⟨k,hk,rfl,rfl,hr,hbel⟩:=hrel;by_cases hlt:k<n
  ·have hc1:wr.cell? ⟨b,k,none⟩=some (.int .u32 (wd V k)):=zF hbel hbl (HC.out k hlt);have hf:=hr.frozen k;have hc2:=hr.cell (i:=k) hlt;have hwv:=qM V k;have hsc:=zjN V s k;have hsc2:jG V s k<4294967296:=Nat.lt_of_lt_of_le hsc (by have:=Nat.pow_le_pow_right (n:=2) (by decide) (show s≤32 by omega);omega);clear hsc;go_wp2;have e1:(wd V k:Int) / 2^(32-s)%4294967296=(jG V s (k+1):Int):=by
    have h1:jG V s (k+1)<4294967296:=Nat.lt_of_lt_of_le (zjN V s (k+1)) (by have:=Nat.pow_le_pow_right (n:=2) (by decide) (show s≤32 by omega);omega);have h2:(wd V k:Int) / 2^(32-s)=((wd V k / 2^(32-s):Nat):Int):=by simp
    rw [h2,← shC_succ V s k (by omega)];omega
   have e2:bits BinOp.or IntKind.u32 ((wd V k:Int)*2^s%4294967296) (jG V s k:Int)=(wd (V*2^s) k:Int):=by
    have h2:(wd V k:Int)*2^s%4294967296=((wd V k*2^s%4294967296:Nat):Int):=by simp
    rw [h2,u32_or_nat _ _ (Nat.mod_lt _ (by decide)) hsc2,zlb V s k hs]
   rw [e1,e2];go_roundw
   case rel =>
    refine ⟨k+1,by omega,by go_num,rfl,(hr.set _ _).congr fun j hj=>?_,hbel.setCell (by simp) _⟩;split
    ·subst j;rw [if_pos (by omega)]
    ·by_cases h:j<k
     ·rw [if_pos h,if_pos (by omega)]
     ·rw [if_neg h,if_neg (by omega)]
   case measure=>simp [intOf];omega
  ·obtain rfl:k=n:=by omega
   go_wp2;go_ret;exact ⟨w.heap.size,zi _,rfl,hr.congr fun i hi=>by rw [if_pos hi],hbel⟩
end Go.Proofs.YtoljkoifgnmbgaaGreatDoor
end
end
section
set_option maxRecDepth 100000
set_option maxHeartbeats 400000
section
open Go Go.RowKit Cs
namespace Go.Proofs.YtoljkoifgnmbgaaGreatDoor
theorem jY (a r:Nat) (ha:a<4294967296) (hr:r<4294967296):bits BinOp.or IntKind.u64 ((a:Int)*4294967296) (r:Int)=((a*4294967296+r:Nat):Int):=by
 have e:(a:Int)*4294967296=((a*4294967296:Nat):Int):=by simp
 rw [e,u64_or_nat _ _ (by omega) (by omega),nat_join 32 _ _ (by omega) (by omega)]
theorem zgv (w:World) (g m cap N R q:Nat) (hm:m≤10000000) (hmN:m≤N) (hR:nw R≤m) (hq:0<q) (hq2:q<4294967296) (hrow0:w.rowIs g 123 N (fun j=>.int .u32 (wd R j))) :
  Calls Tryz.prog 114 #[.slice (some ⟨g,0,none⟩) m cap,.int .u32 q] w fun e w'=>e = .returned (.int .u32 ((R%q:Nat):Int)) ∧
   w'.rowIs g 123 N (fun j=>.int .u32 (wd (R / q) j))∧w.grownBy w' (some g)∧w'.heap.size=w.heap.size:=by
 go_enter Tryz.func114, Tryz.ntmps114;go_wp2;go_loopw [5,6] (fun r i wr=>∃ k:Nat,k≤m∧i = .int .i64 ((k:Int)-1)∧r = .int .u64 (jg R q k)∧wr.rowIs g 123 N (fun j=>.int .u32 (if j<k then wd R j else wd (R / q) j))∧w.grownBy wr (some g)∧wr.heap.size=w.heap.size)
  (fun _ i _=>(intOf i+1).toNat)
 case atStart =>
  refine ⟨m,by omega,rfl,by rw [rst_top R q m hR];rfl,hrow0.congr fun j _=>?_,World.grownBy.refl w _,rfl⟩;by_cases h:j<m
  ·rw [if_pos h]
  ·rw [if_neg h,jO R j (by omega),jO (R / q) j (by rw [qJ];exact Nat.lt_of_le_of_lt (Nat.div_le_self _ _) ((qJ _ _).1 (by omega)))]
 case round =>
  clear hrow0;obtain ⟨k,hk,rfl,rfl,hrow,hgr,hsz⟩:=hrel;have Hsz:=za hsz;clear hsz;rcases Nat.eq_zero_or_pos k with h0 | h0
  ·subst h0;have hr0:=rst_zero R q;rw [hr0];clear hr0;have hlt:R%q<4294967296:=Nat.lt_of_lt_of_le (Nat.mod_lt _ hq) (by omega);have hrow':=hrow.congr (g:=fun j=>.int .u32 (wd (R / q) j)) fun j _=>by rw [if_neg (by omega)]
   have hmod:((R%q:Nat):Int)%4294967296=((R%q:Nat):Int):=Int.emod_eq_of_lt (by omega) (by omega);have Hmod:=za hmod;clear hmod;clear hrow;go_wp2;go_ret;exact ⟨by simp,hrow',hgr,Hsz.out⟩
  ·have hc:=hrow.cell (i:=k-1) (by omega);rw [if_pos (by omega)] at hc;have hf:=hrow.frozen (k-1);have hlt:=rst_lt R q k hq;have hw:=qM R (k-1);have hor:=jY (jg R q k) (wd R (k-1)) (by omega) hw;have i0:(0:Int)≤(k:Int)-1:=by omega
   have i1:(k:Int)-1<(m:Int):=by omega
   go_wp2;have e1:((jg R q k:Int)*4294967296+(wd R (k-1):Int))%(q:Int)=((jg R q (k-1):Nat):Int):=by
    rw [← rst_step R q (k-1),Nat.sub_add_cancel h0];simp
   have e2:((jg R q k:Int)*4294967296+(wd R (k-1):Int)) / (q:Int)%4294967296=((wd (R / q) (k-1):Nat):Int):=by
    have h1:=rst_quot R q (k-1) hq;rw [Nat.sub_add_cancel h0] at h1;have h2:=qM (R / q) (k-1);have h3:((jg R q k:Int)*4294967296+(wd R (k-1):Int)) / (q:Int)=(((jg R q k*4294967296+wd R (k-1)) / q:Nat):Int):=by simp
    rw [h3,h1];omega
   rw [e1,e2];go_roundw
   case rel =>
    refine ⟨k-1,by omega,by go_num,rfl,(hrow.set _ _).congr fun j hj=>?_,zaN hgr (.inl rfl) _,(zf _ _ _).trans Hsz.out⟩;split
    ·subst j;rw [if_neg (Nat.lt_irrefl _)]
    ·by_cases h:j<k
     ·rw [if_pos h,if_pos (by omega)]
     ·rw [if_neg h,if_neg (by omega)]
   case measure=>simp [intOf];omega
end Go.Proofs.YtoljkoifgnmbgaaGreatDoor
end
end
