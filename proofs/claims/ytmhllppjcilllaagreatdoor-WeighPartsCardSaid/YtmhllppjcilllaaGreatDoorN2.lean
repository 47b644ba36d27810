import Derived.Test.YtmhllppjcilllaaGreatDoorD1
import Derived.Test.YtmhllppjcilllaaGreatDoorN1
import Derived.Test.YtmhllppjcilllaaGreatDoorM1
import Derived.Test.YtmhllppjcilllaaGreatDoorB1
import Derived.Lib.BitFns
import Derived.Lib.Tables
set_option linter.unusedSimpArgs false
set_option linter.unusedVariables false
section
set_option maxRecDepth 100000
set_option maxHeartbeats 1000000
section
open Go Go.RowKit Cs
namespace Go.Proofs.YtmhllppjcilllaaGreatDoor
def yu (T i n:Nat) (F:Nat→Value) (j:Nat):Value:=if i≤j∧j<i+n then .int .u32 (wd T (j-i)) else F j
theorem zhF (w:World) (g N i n cap gy oy capy T Y:Nat) (F:Nat→Value) (hn:n≤1000000) (hiN:i+n<N) (hr0:w.rowIs g 124 N F) (hF:∀ k,k≤n→F (i+k) = .int .u32 (wd T k))
  (hy:∀ k,k<n→w.cell? ⟨gy,oy+k,none⟩=some (.int .u32 (wd Y k))) (hne:gy≠g) (hY:Y<2^(32*n)) (hi:i≤10000000) (ho:oy≤10000000) :
  Calls Tryz.prog 158 #[.slice (some ⟨g,i,none⟩) (n+1) cap,.slice (some ⟨gy,oy,none⟩) n capy] w fun e w'=>e = .returned (.tuple #[])∧w'.rowIs g 124 N (yu (Y+T) i (n+1) F)∧w.grownBy w' (some g):=by
 have hwn:wd Y n=0:=jk _ _ ((qW _ _).2 hY);have HF:=zc hF;have HY:=zc hy;have HWN:=zc hwn;clear hF hy hwn hY;go_enter Tryz.func158, Tryz.ntmps158;go_wp2_with fail
 go_loopw [4,8] (fun c t wr=>∃ k:Nat,k≤n∧t = .int .i64 k∧c = .int .u64 (cr Y T k)∧wr.rowIs g 124 N (yu (Y+T) i k F)∧w.grownBy wr (some g)) (fun _ t _=>n-(intOf t).toNat)
 case atStart=>exact ⟨0,by omega,rfl,by rw [zgC];rfl,hr0.congr fun j _=>by unfold yu;rw [if_neg (by omega)],World.grownBy.refl w _⟩
 case round =>
  obtain ⟨k,hk,rfl,rfl,hr,hg⟩:=hrel;have hcr:=jf Y T k;have c1:=hr.cell (i:=i+k) (by omega);unfold yu at c1;rw [if_neg (by omega),HF.out k hk] at c1;have f1:=hr.frozen (i+k);by_cases hlt:k<n
  ·have c2:wr.cell? ⟨gy,oy+k,none⟩=some (.int .u32 (wd Y k)):=hg.cell (HY.out k hlt) (by intro e;injection e with e;exact hne e);have hwa:=qt Y k;have hwb:=qt T k;go_wp2
   go_quiet (fail)
   go_wp2;have e1:((cr Y T k:Int)+((wd T k:Int)+(wd Y k:Int))) / 4294967296=((cr Y T (k+1):Nat):Int):=by rw [← zgD];simp
   have e2:((cr Y T k:Int)+((wd T k:Int)+(wd Y k:Int)))%4294967296=((wd (Y+T) k:Nat):Int):=by rw [← zdt];simp
   rw [e1,e2];go_roundw
   case rel =>
    refine ⟨k+1,by omega,by go_num,rfl,((qO hr _).set _ _).congr fun j hj=>?_,zbi (zb1 hg _) (.inl rfl) _⟩;unfold yu;split
    ·subst j;rw [if_pos (by omega),show i+k-i=k by omega]
    ·by_cases h:i≤j∧j<i+k
     ·rw [if_pos h,if_pos (by omega)]
     ·rw [if_neg h,if_neg (by omega)]
   case measure=>simp [intOf];omega
  ·obtain rfl:k=n:=by omega
   have hw:=zdt Y T k;rw [HWN.out,Nat.add_zero] at hw;have hwb:=qt T k;go_wp2;have e2:((wd T k:Int)+(cr Y T k:Int))%4294967296=((wd (Y+T) k:Nat):Int):=by rw [← hw,Nat.add_comm];simp
   rw [e2]
   go_end0;refine ⟨rfl,(hr.set _ _).congr fun j hj=>?_,zbi hg (.inl rfl) _⟩;unfold yu;split
   ·subst j;rw [if_pos (by omega),show i+k-i=k by omega]
   ·by_cases h:i≤j∧j<i+k
    ·rw [if_pos h,if_pos (by omega)]
    ·rw [if_neg h,if_neg (by omega)]
theorem tk_word {T U Y d c n k:Nat} (hE:T+d*Y=U+2^(32*(n+1))*c) (hk:k≤n):(tb T Y d k+(wd T k+d*wd Y k))%4294967296=wd U k:=by
 rw [tb_word,hE,zgT _ _ _ _ (by omega)]
theorem tk_end {T U Y d c n:Nat} (hE:T+d*Y=U+2^(32*(n+1))*c) (hT:T<2^(32*(n+1))) (hU:U<2^(32*(n+1))) (hY:Y<2^(32*n)):tb T Y d (n+1)=c:=by
 have hY':Y<2^(32*(n+1)):=Nat.lt_of_lt_of_le hY (Nat.pow_le_pow_right (by decide) (by omega));unfold tb;rw [Nat.mod_eq_of_lt hT,Nat.mod_eq_of_lt hY',hE,Nat.add_mul_div_left _ _ (Nat.pow_pos (by decide)),Nat.div_eq_of_lt hU,Nat.zero_add]
theorem mul_w {a b:Nat} (ha:a<4294967296) (hb:b<4294967296):(a:Int)*(b:Int)≤18446744065119617025∧(0:Int)≤(a:Int)*(b:Int):=by
 refine ⟨?_,Int.mul_nonneg (by omega) (by omega)⟩;have h:a*b≤4294967295*4294967295:=Nat.mul_le_mul (by omega) (by omega);have:=Int.ofNat_le.2 h;simpa using this
theorem zhb (w:World) (g N i n cap gy oy capy U T Y d c:Nat) (F:Nat→Value) (hn:n≤1000000) (hiN:i+n<N) (hr0:w.rowIs g 124 N F) (hF:∀ k,k≤n→F (i+k) = .int .u32 (wd U k))
  (hy:∀ k,k<n→w.cell? ⟨gy,oy+k,none⟩=some (.int .u32 (wd Y k))) (hne:gy≠g) (hY:Y<2^(32*n)) (hi:i≤10000000) (ho:oy≤10000000)
  (hd:d<4294967296) (hc:c≤1) (hU:U<2^(32*(n+1))) (hT:T<2^(32*(n+1))) (hE:T+d*Y=U+2^(32*(n+1))*c) :
  Calls Tryz.prog 157 #[.slice (some ⟨g,i,none⟩) (n+1) cap,.slice (some ⟨gy,oy,none⟩) n capy,.int .u64 d] w fun e w'=>e = .returned (.bool (decide (c=1)))∧w'.rowIs g 124 N (yu T i (n+1) F)∧w.grownBy w' (some g):=by
 have hwn:wd Y n=0:=jk _ _ ((qW _ _).2 hY);have hend:=tk_end hE hT hU hY;have hwk:=fun k (h:k≤n)=>tk_word hE h;have HF:=zc hF;have HY:=zc hy;have HWN:=zc hwn;have HEND:=zc hend;have HWK:=zc hwk;clear hF hy hwn hY hend hwk hE hT hU;go_enter Tryz.func157, Tryz.ntmps157;go_wp2_with fail
 go_loopw [7,13] (fun c t wr=>∃ k:Nat,k≤n∧t = .int .i64 k∧c = .int .u64 (tb T Y d k)∧wr.rowIs g 124 N (yu T i k F)∧w.grownBy wr (some g)) (fun _ t _=>n-(intOf t).toNat)
 case atStart=>exact ⟨0,by omega,rfl,by rw [tb_zero];rfl,hr0.congr fun j _=>by unfold yu;rw [if_neg (by omega)],World.grownBy.refl w _⟩
 case round =>
  obtain ⟨k,hk,rfl,rfl,hr,hg⟩:=hrel;have htb:=tb_le T Y d k;have c1:=hr.cell (i:=i+k) (by omega);unfold yu at c1;rw [if_neg (by omega),HF.out k hk] at c1;have f1:=hr.frozen (i+k);have hwu:=qt U k;have hwt:=qt T k;by_cases hlt:k<n
  ·have c2:wr.cell? ⟨gy,oy+k,none⟩=some (.int .u32 (wd Y k)):=hg.cell (HY.out k hlt) (by intro e;injection e with e;exact hne e);have hwy:=qt Y k;obtain ⟨hmul,hmul0⟩:=mul_w hd hwy;have e0:(((d*wd Y k+tb T Y d k:Nat)):Int)=(d:Int)*(wd Y k:Int)+(tb T Y d k:Int):=by simp
   obtain ⟨t1,t2⟩:=xm (u:=wd U k) (t:=wd T k) (part:=d*wd Y k+tb T Y d k) hwt (by rw [← HWK.out k (by omega)];congr 1;omega);have t3:=j9 T Y d k;rw [show tb T Y d k+(wd T k+d*wd Y k)=wd T k+(d*wd Y k+tb T Y d k) by omega,t2] at t3;have hrel:∀ wq:World,wq=wr.setCell ⟨g,i+k,none⟩ (.int .u32 (wd T k:Int))→wq.rowIs g 124 N (yu T i (k+1) F)∧w.grownBy wq (some g):=by
    rintro wq rfl;refine ⟨(hr.set _ _).congr fun j hj=>?_,zbi hg (.inl rfl) _⟩;unfold yu;split
    ·subst j;rw [if_pos (by omega),show i+k-i=k by omega]
    ·by_cases h:i≤j∧j<i+k
     ·rw [if_pos h,if_pos (by omega)]
     ·rw [if_neg h,if_neg (by omega)]
   have HREL:=zc hrel;by_cases hlt2:wd U k<(d*wd Y k+tb T Y d k)%4294967296
   ·rw [if_pos hlt2] at t3;have e3:((d:Int)*(wd Y k:Int)+(tb T Y d k:Int)) / 4294967296+1=(tb T Y d (k+1):Int):=by rw [← e0];omega
    have e5:(wd U k:Int)<((d:Int)*(wd Y k:Int)+(tb T Y d k:Int))%4294967296:=by rw [← e0];omega
    have e4:((wd U k:Int)-((d:Int)*(wd Y k:Int)+(tb T Y d k:Int)))%4294967296=(wd T k:Int):=by
     rw [← e0];omega
    have HE4:=zc e4;have HE3:=zc e3;clear hlt2 t1 t2 t3 e0 hrel e4 e3;go_wp2;rw [HE3.out,HE4.out];go_roundw
    case rel=>exact ⟨k+1,by omega,by go_num,rfl,HREL.out _ rfl⟩
    case measure=>simp [intOf];omega
   ·rw [if_neg hlt2] at t3;have e3:((d:Int)*(wd Y k:Int)+(tb T Y d k:Int)) / 4294967296=(tb T Y d (k+1):Int):=by rw [← e0];omega
    have e5:¬ (wd U k:Int)<((d:Int)*(wd Y k:Int)+(tb T Y d k:Int))%4294967296:=by rw [← e0];omega
    have e4:(wd U k:Int)-((d:Int)*(wd Y k:Int)+(tb T Y d k:Int))%4294967296=(wd T k:Int):=by
     rw [← e0];omega
    have HE4:=zc e4;have HE3:=zc e3;clear hlt2 t1 t2 t3 e0 hrel e4 e3;go_wp2;rw [HE3.out,HE4.out];go_roundw
    case rel=>exact ⟨k+1,by omega,by go_num,rfl,HREL.out _ rfl⟩
    case measure=>simp [intOf];omega
  ·obtain rfl:k=n:=by omega
   have hw:=HWK.out k (zv _);have hs:=j9 T Y d k;rw [HWN.out,Nat.mul_zero,Nat.add_zero] at hw hs;rw [HEND.out] at hs;have hcc:decide (c=1)=decide (wd U k<tb T Y d k):=by
    refine decide_eq_decide.2 ?_;constructor <;> intro h <;> omega
   have HCC:=zc hcc;have e4:((wd U k:Int)-(tb T Y d k:Int))%4294967296=(wd T k:Int):=by omega
   have HE4:=zc e4;clear hw hs hcc e4;go_wp2;rw [HE4.out];go_ret;refine ⟨by rw [HCC.out];rfl,(hr.set _ _).congr fun j hj=>?_,zbi hg (.inl rfl) _⟩;unfold yu;split
   ·subst j;rw [if_pos (by omega),show i+k-i=k by omega]
   ·by_cases h:i≤j∧j<i+k
    ·rw [if_pos h,if_pos (by omega)]
    ·rw [if_neg h,if_neg (by omega)]
end Go.Proofs.YtmhllppjcilllaaGreatDoor
end
section
open Go Go.RowKit Cs
namespace Go.Proofs.YtmhllppjcilllaaGreatDoor
theorem zeH (w:World) (b n cap V s:Nat) (hn:n≤1000000) (hs:s<32) (hc0:∀ i,i<n→w.cell? ⟨b,i,none⟩=some (.int .u32 (wd V i))) (hbl:b<w.heap.size) :
  Calls Tryz.prog 120 #[.slice (some ⟨b,0,none⟩) n cap,.int .u64 s] w fun e w'=>∃ g,w.heap.size≤g∧e = .returned (.slice (some ⟨g,0,none⟩) n n)∧w'.rowIs g 124 n (fun i=>.int .u32 (wd (V*2^s) i))∧Below w.heap.size w w':=by
 have hmk:=zeV n (by omega);have hrow0:(w.alloc (.cells (madeCells #[.int .u32 0] n) 124)).rowIs w.heap.size 124 n (fun _=>.int .u32 0):=oX _ _ _ _ _ rfl fun _ _=>rfl;have hbel0:Below w.heap.size w (w.alloc (.cells (madeCells #[.int .u32 0] n) 124)):=(zy _ _).alloc (zv _) _;have hsrc:∀ j,j<n→(w.alloc (.cells (madeCells #[.int .u32 0] n) 124)).cell? ⟨b,0+j,none⟩=some (.int .u32 (wd V j)):=fun j hj=>by
  rw [Nat.zero_add];exact zF hbel0 hbl (hc0 j hj)
 have Hsrc:=zc hsrc;clear hsrc;go_enter Tryz.func120, Tryz.ntmps120;go_wp2_with ((with_reducible refine zbU rfl (.tmp 12) (.tmp 13) 123 123 rfl 124 Tryz.underlying123 zgi w.heap.size n n n cap (some ⟨b,0,none⟩) rfl rfl 124 n _ hrow0 (by omega) (by omega) (fun i=>.int .u32 (wd V i)) ?c1 ?c2 ?_);rotate_left;rotate_left;intro w3 hr3 hg3)
 case c1=>exact fun _=>⟨b,0,rfl,Hsrc.out⟩
 case c2=>exact fun _ _=>rfl
 have hr3':=hr3.congr (g:=fun i=>.int .u32 (wd V i)) fun i hi=>by rw [if_pos hi]
 have hbel3:Below w.heap.size w w3:=hbel0.grown hg3 (by simp) (fun k e=>by cases e;omega);have hc3:∀ i,i<n→w3.cell? ⟨b,i,none⟩=some (.int .u32 (wd V i)):=fun i hi=>zF hbel3 hbl (hc0 i hi);have HC:=zc hc0;clear hr3 hg3 hrow0 Hsrc hmk hc0 hbel0 hc3;go_loopw [6,17] (fun c t wr=>∃ k:Nat,k≤n∧t = .int .i64 k∧c = .int .u32 (jp V s k)∧wr.rowIs w.heap.size 124 n (fun i=>.int .u32 (if i<k then wd (V*2^s) i else wd V i))∧Below w.heap.size w wr) (fun _ t _=>n-(intOf t).toNat)
 case atStart=>exact ⟨0,by omega,rfl,by rw [shC_zero];rfl,hr3'.congr fun i _=>by simp,hbel3⟩
 case round =>
  clear hr3' hbel3;obtain ⟨k,hk,rfl,rfl,hr,hbel⟩:=hrel;by_cases hlt:k<n
  ·have hc1:wr.cell? ⟨b,k,none⟩=some (.int .u32 (wd V k)):=zF hbel hbl (HC.out k hlt);have hf:=hr.frozen k;have hc2:=hr.cell (i:=k) hlt;have hwv:=qt V k;have hsc:=ziQ V s k;have hsc2:jp V s k<4294967296:=Nat.lt_of_lt_of_le hsc (by have:=Nat.pow_le_pow_right (n:=2) (by decide) (show s≤32 by omega);omega);clear hsc;go_wp2;have e1:(wd V k:Int) / 2^(32-s)%4294967296=(jp V s (k+1):Int):=by
    have h1:jp V s (k+1)<4294967296:=Nat.lt_of_lt_of_le (ziQ V s (k+1)) (by have:=Nat.pow_le_pow_right (n:=2) (by decide) (show s≤32 by omega);omega);have h2:(wd V k:Int) / 2^(32-s)=((wd V k / 2^(32-s):Nat):Int):=by simp
    rw [h2,← shC_succ V s k (by omega)];omega
   have e2:bits BinOp.or IntKind.u32 ((wd V k:Int)*2^s%4294967296) (jp V s k:Int)=(wd (V*2^s) k:Int):=by
    have h2:(wd V k:Int)*2^s%4294967296=((wd V k*2^s%4294967296:Nat):Int):=by simp
    rw [h2,u32_or_nat _ _ (Nat.mod_lt _ (by decide)) hsc2,zkf V s k hs]
   rw [e1,e2];go_roundw
   case rel =>
    refine ⟨k+1,by omega,by go_num,rfl,(hr.set _ _).congr fun j hj=>?_,hbel.setCell (by simp) _⟩;split
    ·subst j;rw [if_pos (by omega)]
    ·by_cases h:j<k
     ·rw [if_pos h,if_pos (by omega)]
     ·rw [if_neg h,if_neg (by omega)]
   case measure=>simp [intOf];omega
  ·obtain rfl:k=n:=by omega
   go_wp2;go_ret;exact ⟨w.heap.size,zv _,rfl,hr.congr fun i hi=>by rw [if_pos hi],hbel⟩
end Go.Proofs.YtmhllppjcilllaaGreatDoor
end
end
section
set_option maxRecDepth 100000
set_option maxHeartbeats 400000
section
open Go Go.RowKit Cs
namespace Go.Proofs.YtmhllppjcilllaaGreatDoor
theorem jz (a r:Nat) (ha:a<4294967296) (hr:r<4294967296):bits BinOp.or IntKind.u64 ((a:Int)*4294967296) (r:Int)=((a*4294967296+r:Nat):Int):=by
 have e:(a:Int)*4294967296=((a*4294967296:Nat):Int):=by simp
 rw [e,u64_or_nat _ _ (by omega) (by omega),nat_join 32 _ _ (by omega) (by omega)]
theorem zfB (w:World) (g m cap N R q:Nat) (hm:m≤10000000) (hmN:m≤N) (hR:nw R≤m) (hq:0<q) (hq2:q<4294967296) (hrow0:w.rowIs g 124 N (fun j=>.int .u32 (wd R j))) :
  Calls Tryz.prog 89 #[.slice (some ⟨g,0,none⟩) m cap,.int .u32 q] w fun e w'=>e = .returned (.int .u32 ((R%q:Nat):Int)) ∧
   w'.rowIs g 124 N (fun j=>.int .u32 (wd (R / q) j))∧w.grownBy w' (some g)∧w'.heap.size=w.heap.size:=by
 go_enter Tryz.func89, Tryz.ntmps89;go_wp2;go_loopw [5,6] (fun r i wr=>∃ k:Nat,k≤m∧i = .int .i64 ((k:Int)-1)∧r = .int .u64 (y9 R q k)∧wr.rowIs g 124 N (fun j=>.int .u32 (if j<k then wd R j else wd (R / q) j))∧w.grownBy wr (some g)∧wr.heap.size=w.heap.size)
  (fun _ i _=>(intOf i+1).toNat)
 case atStart =>
  refine ⟨m,by omega,rfl,by rw [rst_top R q m hR];rfl,hrow0.congr fun j _=>?_,World.grownBy.refl w _,rfl⟩;by_cases h:j<m
  ·rw [if_pos h]
  ·rw [if_neg h,jk R j (by omega),jk (R / q) j (by rw [qW];exact Nat.lt_of_le_of_lt (Nat.div_le_self _ _) ((qW _ _).1 (by omega)))]
 case round =>
  clear hrow0;obtain ⟨k,hk,rfl,rfl,hrow,hgr,hsz⟩:=hrel;have Hsz:=zc hsz;clear hsz;rcases Nat.eq_zero_or_pos k with h0 | h0
  ·subst h0;have hr0:=rst_zero R q;rw [hr0];clear hr0;have hlt:R%q<4294967296:=Nat.lt_of_lt_of_le (Nat.mod_lt _ hq) (by omega);have hrow':=hrow.congr (g:=fun j=>.int .u32 (wd (R / q) j)) fun j _=>by rw [if_neg (by omega)]
   have hmod:((R%q:Nat):Int)%4294967296=((R%q:Nat):Int):=Int.emod_eq_of_lt (by omega) (by omega);have Hmod:=zc hmod;clear hmod;clear hrow;go_wp2;go_ret;exact ⟨by simp,hrow',hgr,Hsz.out⟩
  ·have hc:=hrow.cell (i:=k-1) (by omega);rw [if_pos (by omega)] at hc;have hf:=hrow.frozen (k-1);have hlt:=rst_lt R q k hq;have hw:=qt R (k-1);have hor:=jz (y9 R q k) (wd R (k-1)) (by omega) hw;have i0:(0:Int)≤(k:Int)-1:=by omega
   have i1:(k:Int)-1<(m:Int):=by omega
   go_wp2;have e1:((y9 R q k:Int)*4294967296+(wd R (k-1):Int))%(q:Int)=((y9 R q (k-1):Nat):Int):=by
    rw [← rst_step R q (k-1),Nat.sub_add_cancel h0];simp
   have e2:((y9 R q k:Int)*4294967296+(wd R (k-1):Int)) / (q:Int)%4294967296=((wd (R / q) (k-1):Nat):Int):=by
    have h1:=rst_quot R q (k-1) hq;rw [Nat.sub_add_cancel h0] at h1;have h2:=qt (R / q) (k-1);have h3:((y9 R q k:Int)*4294967296+(wd R (k-1):Int)) / (q:Int)=(((y9 R q k*4294967296+wd R (k-1)) / q:Nat):Int):=by simp
    rw [h3,h1];omega
   rw [e1,e2];go_roundw
   case rel =>
    refine ⟨k-1,by omega,by go_num,rfl,(hrow.set _ _).congr fun j hj=>?_,zbi hgr (.inl rfl) _,(yO _ _ _).trans Hsz.out⟩;split
    ·subst j;rw [if_neg (Nat.lt_irrefl _)]
    ·by_cases h:j<k
     ·rw [if_pos h,if_pos (by omega)]
     ·rw [if_neg h,if_neg (by omega)]
   case measure=>simp [intOf];omega
end Go.Proofs.YtmhllppjcilllaaGreatDoor
end
end
section
set_option maxRecDepth 100000
set_option maxHeartbeats 1000000
section
open Go Go.RowKit Cs
namespace Go.Proofs.YtmhllppjcilllaaGreatDoor
theorem oY:zb 0=⟨#[]⟩:=by simp [zb,oW]
theorem pow2_yes (w:World) (n:Int) (h0:0≤n) (h1:n≤4096) :
  Calls Tryz.prog 31 #[.int .i64 n] w fun e w'=>e = .returned (zM (2^n.toNat))∧Below w.heap.size w w':=by
 obtain ⟨m,rfl⟩:=Int.eq_ofNat_of_zero_le h0;rw [Int.toNat_natCast];have hm:m≤4096:=by omega
 have hmk:=zeV (m / 32+1) (by omega);rw [Int.natCast_succ,Int.natCast_ediv] at hmk;simp only [Int.cast_ofNat_Int] at hmk;have hrow:=oX (w.alloc (.cells #[.string ⟨#[]⟩] 31)) (.int .u32 0) (m / 32+1) 124 (w.heap.size+1) (f:=fun _=>.int .u32 0) (by simp) (fun _ _=>rfl);have hc:=hrow.cell (i:=m / 32) (by omega);have hf:=hrow.frozen (m / 32);have hpw:2^(m%32)<4294967296:=by
  have:=Nat.pow_lt_pow_right (a:=2) (by decide) (show m%32<32 by omega);simpa using this
 go_enter Tryz.func31, Tryz.ntmps31;go_wp2_with fail
 have hv:((2:Int)^(m%32)%4294967296)=((2^(m%32):Nat):Int):=by
  rw [Int.natCast_pow];exact Int.emod_eq_of_lt (Int.pow_nonneg (by decide)) (by have:=Int.ofNat_lt.2 hpw;simpa using this)
 have hr2:=hrow.set (m / 32) (.int .u32 (2^(m%32)%4294967296));rw [World.setCell_alloc_at _ _ _ _ _ (by simp)] at hr2;have hr3:=hr2.congr (g:=fun i=>.int .u32 (wd (2^m) i)) fun i _=>by
  rw [wd_pow2];split
  ·rw [hv]
  ·rfl
 have hbx0:=(qC w (.string ⟨#[]⟩) 31 _ rfl).alloc (.cells ((madeCells #[.int .u32 0] (m / 32+1)).setIfInBounds (m / 32) (.int .u32 (2^(m%32)%4294967296))) 124);refine (zbS _ _ (m / 32+1) (m / 32+1) (2^m) (by omega) (fun i hi=>hr3.cell hi) hr3.lt ?_).mono ?_
 ·rw [qW];exact Nat.pow_lt_pow_right (by decide) (by omega)
 rintro e w1 ⟨rfl,hb1⟩;have hbx:=zh hbx0 hb1;clear hc hf hr2 hr3 hbx0 hrow hmk hv hpw;have hc:=zQ hbx;have hf:=hbx.frozen 0;go_wp2;exact zbY rfl _ rfl (qV hbx _) rfl ⟨rfl,((((zy _ _).alloc (zv _) _).alloc (by simp) _).trans (hb1.mono (by simp;omega))).setCell (zv _) _⟩
theorem len8_any (x:Int) (w:World) (h0:0≤x) (h1:x≤255) :
  Calls Tryz.prog 123 #[.int .u8 x] w fun e w'=>e = .returned (.int .i64 (Lib.bitLen x.toNat))∧w=w':=by
 rw [← Lib.len8_int x h0 h1];go_enter Tryz.func123, Tryz.ntmps123;go_wp2;go_ret;refine ⟨zgm (a:=wrap64 (Lib.len8 x)) ?_,rfl⟩;unfold wrap64;rfl
theorem zcP:∀ (f x:Nat),x<2^f→Lib.bitLenAux f x=nd 2 x
 | 0,x,h=>by
   have:x=0:=by simpa using h
   subst this;simp [Lib.bitLenAux,zcn]
 | f+1,x,h=>by
   rw [Lib.bitLenAux];split
   ·rename_i h0;subst h0;rw [zcn]
   ·rename_i h0;rw [zfG 2 x (by decide) (by omega),zcP f (x / 2) (by rw [Nat.pow_succ] at h;omega)]
theorem pH (x:Nat) (h:x<256):Lib.bitLen x=nd 2 x :=
 zcP 64 x (by omega)
theorem zb2 (w:World) (V:Nat) (hV:n8 V≤10000000) :
  Calls Tryz.prog 81 #[zM V] w fun e w'=>e = .returned (.int .i64 (nd 2 V))∧Below w.heap.size w w':=by
 have hs:=zbu V;have hg:=zcY V;have hle:(zb V).size≤10000000:=by omega
 show Calls _ _ #[.agg #[.string (zb V)]] _ _;generalize zb V=s at *
 have Hs:=zc hs;clear hs;have Hg:=zc hg;clear hg;rcases Nat.eq_zero_or_pos s.size with h0 | h0
 ·have hV0:V=0:=(zbj 256 (by decide) V).1 (by rw [← h0];exact Hs.out.symm);have hd:nd 2 V=0:=by rw [hV0,zcn]
  rw [hd];have h1:((s.size:Int)==0)=true:=beq_iff_eq.2 (by omega);clear h0 hV0 hd;go_enter Tryz.func81, Tryz.ntmps81;go_wp2;go_ret;exact ⟨rfl,(zy _ _).alloc (zv _) _⟩
 ·have hV0:0<V:=by
   rcases Nat.eq_zero_or_pos V with h | h
   ·have:=Hs.out;rw [h,oW] at this;omega
   ·exact h
  have hd:=zhx V hV0;rw [hd];have h1:((s.size:Int)==0)=false:=beq_eq_false_iff_ne.2 (by omega);have h2:(0:Int)≤(s.size:Int)-1:=by omega
  have h3:(s.size:Int)-1<(s.size:Int):=by omega
  clear hd hV0;go_enter Tryz.func81, Tryz.ntmps81;have hbb:=zjI V (s.size-1);have hsb:((s[s.size-1]'(by omega)).toNat:Int)=(qj V (s.size-1):Int):=by rw [Hg.out]
  have Hsb:=zc hsb;clear hsb;go_wp2_with fail
  rw [Hsb.out];refine (len8_any _ _ (by omega) (by omega)).mono ?_;rintro e w1 ⟨rfl,rfl⟩;rw [Int.toNat_natCast,pH _ hbb];have hbl:=(yj 2 (by decide) 8 (qj V (s.size-1))).2 (by omega);go_wp2;go_ret;refine ⟨zgm ?_,(zy _ _).alloc (zv _) _⟩;rw [← Hs.out];omega
theorem cmp_eq (w:World) (V:Nat) :
  Calls Tryz.prog 72 #[zM V,zM V] w fun e w'=>e = .returned (.int .i64 0)∧Below w.heap.size w w':=by
 show Calls _ _ #[.agg #[.string (zb V)],.agg #[.string (zb V)]] _ _;generalize zb V=s at *
 go_enter Tryz.func72, Tryz.ntmps72;go_wp2;go_ret;exact ⟨rfl,((zy _ _).alloc (zv _) _).alloc (by simp) _⟩
theorem cmp_ne (w:World) (a b:Nat) (hab:a≠b) (ha:n8 a≤10000000) (hb:n8 b≤10000000) :
  Calls Tryz.prog 72 #[zM a,zM b] w fun e w'=>e = .returned (.int .i64 (qg a b))∧Below w.heap.size w w':=by
 have hs:=zbu a;have hg:=zcY a;have ht:=zbu b;have hh:=zcY b;have hne:zb a≠zb b:=fun h=>hab (zjo h);have hcN:a<b→qg a b = -1:=fun h=>by unfold qg;rw [if_pos h]
 have hcP:b<a→qg a b=1:=fun h=>by unfold qg;rw [if_neg (by omega),if_neg (by omega)]
 show Calls _ _ #[.agg #[.string (zb a)],.agg #[.string (zb b)]] _ _;generalize zb a=s at *
 generalize zb b=t at *
 have hle1:s.size≤10000000:=by omega
 have hle2:t.size≤10000000:=by omega
 have hst:(s.toList==t.toList)=false:=by
  rw [beq_eq_false_iff_ne,ByteArray.toList_eq,ByteArray.toList_eq];exact fun h=>hne (ByteArray.ext (Array.toList_inj.1 h))
 have Hs:=zc hs;clear hs;have Hg:=zc hg;clear hg;have Ht:=zc ht;clear ht;have Hh:=zc hh;clear hh;have HN:=zc hcN;clear hcN;have HP:=zc hcP;clear hcP;have Hne:=zc hab;clear hab hne;have hc1:=zQ ((qC w (.string s) 31 _ rfl).alloc (.cells #[.string t] 31));have hc2:=zQ (qC (w.alloc (.cells #[.string s] 31)) (.string t) 31 (w.heap.size+1) (by simp));have hbl:Below w.heap.size w ((w.alloc (.cells #[.string s] 31)).alloc (.cells #[.string t] 31)):=((zy _ _).alloc (zv _) _).alloc (by simp) _;by_cases hl:s.size=t.size
 ·have h1:((s.size:Int) != (t.size:Int))=false:=by rw [bne_eq_false_iff_eq];omega
  have Hl:=zc hl;clear hl;go_enter Tryz.func72, Tryz.ntmps72;have hb1:=(qC w (.string s) 31 _ rfl).alloc (.cells #[.string t] 31);have hb2:=qC (w.alloc (.cells #[.string s] 31)) (.string t) 31 (w.heap.size+1) (by simp);go_wp2;go_loopw [5] (fun i wr=>∃ k:Nat,k≤s.size∧i = .int .i64 ((k:Int)-1)∧Hid (a / 2^(8*k)=b / 2^(8*k))∧wr.rowIs w.heap.size 31 1 (fun _=>.string s)∧wr.rowIs (w.heap.size+1) 31 1 (fun _=>.string t)∧Below w.heap.size w wr)
   (fun i _=>(intOf i+1).toNat)
  case atStart =>
   refine ⟨s.size,by omega,rfl,?_,hb1,hb2,hbl⟩;show _=_;rw [div_n8 a _ (by rw [← Hs.out];omega),div_n8 b _ (by rw [← Ht.out,← Hl.out];omega)]
  case round =>
   clear hc1 hc2 hb1 hb2 hbl;obtain ⟨k,hk,rfl,hq,hx1,hx2,hbl⟩:=hrel;have hc1:=zQ hx1;have hc2:=zQ hx2;rcases Nat.eq_zero_or_pos k with h0 | h0
   ·subst h0;exact absurd (by have:=hq.out;simpa using this) Hne.out
   ·have hkt:k-1<t.size:=by rw [← Hl.out];omega
    have i0:(0:Int)≤(k:Int)-1:=by omega
    have i1:(k:Int)-1<(s.size:Int):=by omega
    have i2:(k:Int)-1<(t.size:Int):=by omega
    have hq':a / 2^(8*(k-1+1))=b / 2^(8*(k-1+1)):=by rw [Nat.sub_add_cancel h0];exact hq.out
    have e1:=Hg.out (k-1) (by omega);have e2:=Hh.out (k-1) hkt;rcases Nat.lt_trichotomy (qj a (k-1)) (qj b (k-1)) with hlt | heq | hgt
    ·have hr:=HN.out (zjF a b (k-1) hq' hlt);have ht:(s[k-1]'(by omega)).toNat<(t[k-1]'hkt).toNat:=by omega
     have Hr:=zc hr;clear hr hq' e1 e2 hlt;go_wp2
     go_quiet (fail)
     go_wp2;go_ret;exact ⟨by rw [Hr.out];rfl,qY hbl _⟩
    ·have hr:=cmp_same a b (k-1) hq' heq;have ht:(s[k-1]'(by omega)).toNat≤(t[k-1]'hkt).toNat:=by omega
     have ht2:(t[k-1]'hkt).toNat≤(s[k-1]'(by omega)).toNat:=by omega
     have Hr:=zc hr;clear hr hq' e1 e2 heq;go_wp2
     go_quiet (fail)
     go_wp2
     go_quiet (fail)
     go_wp2;go_roundw
     case rel=>exact ⟨k-1,by omega,by go_num,Hr,qO hx1 _,qO hx2 _,qY hbl _⟩
     case measure=>simp [intOf];omega
    ·have hr:=HP.out (zjF b a (k-1) hq'.symm hgt);have ht:(t[k-1]'hkt).toNat<(s[k-1]'(by omega)).toNat:=by omega
     have ht2:¬ (s[k-1]'(by omega)).toNat<(t[k-1]'hkt).toNat:=by omega
     have Hr:=zc hr;clear hr hq' e1 e2 hgt;go_wp2
     go_quiet (fail)
     go_wp2
     go_quiet (fail)
     go_wp2;go_ret;exact ⟨by rw [Hr.out];rfl,qY (qY hbl _) _⟩
 ·have h1:((s.size:Int) != (t.size:Int))=true:=by rw [bne_iff_ne];omega
  rcases Nat.lt_or_gt_of_ne hl with h2 | h2
  ·have h3:a<b:=oC _ _ (by rw [← Hs.out,← Ht.out];exact h2);rw [HN.out h3];clear h3 hl;go_enter Tryz.func72, Tryz.ntmps72;go_wp2;go_ret;exact ⟨rfl,hbl⟩
  ·have h3:b<a:=oC _ _ (by rw [← Hs.out,← Ht.out];exact h2);rw [HP.out h3];have h4:¬ s.size<t.size:=by omega
   clear h3 hl;go_enter Tryz.func72, Tryz.ntmps72;go_wp2;go_ret;exact ⟨rfl,hbl⟩
theorem zfg (w:World) (a b:Nat) (ha:n8 a≤10000000) (hb:n8 b≤10000000) :
  Calls Tryz.prog 72 #[zM a,zM b] w fun e w'=>e = .returned (.int .i64 (qg a b))∧Below w.heap.size w w':=by
 by_cases h:a=b
 ·subst h;have:qg a a=0:=by unfold qg;rw [if_neg (by omega),if_pos rfl]
  rw [this];exact cmp_eq w a
 ·exact cmp_ne w a b h ha hb
end Go.Proofs.YtmhllppjcilllaaGreatDoor
end
section
open Go Go.RowKit Cs
namespace Go.Proofs.YtmhllppjcilllaaGreatDoor
theorem yZ (w:World) (a b:Nat) (ha:n8 a≤1000000) (hb:n8 b≤1000000) :
  Calls Tryz.prog 33 #[zM a,zM b] w fun e w'=>e = .returned (zM (a*b))∧Below w.heap.size w w':=by
 go_enter Tryz.func33, Tryz.ntmps33;go_wp2_with fail
 go_region_held3 (fun w'=>w'.cell? ⟨w.heap.size,0,none⟩=some (.string (zb a))∧w'.cell? ⟨w.heap.size+1,0,none⟩=some (.string (zb b)))
  (first | go_keep | exact ⟨hk3,hk4⟩ | exact ⟨hk1,hk2⟩)
  (first
    | ((go_at_call 78;(with_reducible refine (pY _ a (by omega)).mono ?_);rintro e w1 ⟨g1,hg1,rfl,hr1,hb1⟩;simp at hg1
        have hk1:w1.cell? ⟨w.heap.size,0,none⟩=some (.string (zb a)):=(hb1.cell (p:=⟨w.heap.size,0,none⟩) (by simp;omega)).trans (by go_simp);have hk2:w1.cell? ⟨w.heap.size+1,0,none⟩=some (.string (zb b)):=(hb1.cell (p:=⟨w.heap.size+1,0,none⟩) (by simp)).trans (by go_simp)))
    | ((go_at_call 78;(with_reducible refine (pY _ b (by omega)).mono ?_);rintro e w2 ⟨g2,hg2,rfl,hr2,hb2⟩
        have hk3:w2.cell? ⟨w.heap.size,0,none⟩=some (.string (zb a)):=(hb2.cell (p:=⟨w.heap.size,0,none⟩) (by have:=hb1.size;simp at this ⊢;omega)).trans hk1;have hk4:w2.cell? ⟨w.heap.size+1,0,none⟩=some (.string (zb b)):=(hb2.cell (p:=⟨w.heap.size+1,0,none⟩) (by have:=hb1.size;simp at this ⊢;omega)).trans hk2)))
 have hz1:=hb1.size;simp at hz1;have hz2:=hb2.size;have hlt1:=hr1.lt;have hlt2:=hr2.lt;replace hr1:=zh hr1 hb2;have hbox:w2.rowIs (w.heap.size+1+1) 31 1 fun _=>.string ⟨#[]⟩:=zh (zh (qC ((w.alloc _).alloc _) _ _ _ (by simp)).drew hb1) hb2;have hbel:Below w.heap.size w w2:=((((((zy _ _).alloc (zv _) _).alloc (by simp) _).alloc (by simp;omega) _).drew).trans (hb1.mono (by simp;omega))).trans (hb2.mono (by omega));clear hb1 hb2 hk1 hk2 hk3 hk4;have hna:nw a≤1000000:=by unfold nw;omega
 have hnb:nw b≤1000000:=by unfold nw;omega
 have hmk:=zeV (nw a+nw b) (by omega);rw [Int.natCast_add] at hmk;go_wp2;go_loopw [24] (fun t wr=>∃ i:Nat,i≤nw a∧t = .int .i64 i∧wr.rowIs (w.heap.size+1+1) 31 1 (fun _=>.string ⟨#[]⟩) ∧
   wr.rowIs g1 124 (nw a) (fun i=>.int .u32 (wd a i))∧wr.rowIs g2 124 (nw b) (fun i=>.int .u32 (wd b i)) ∧
   wr.rowIs w2.heap.size 124 (nw a+nw b) (fun j=>.int .u32 (wd (mM a b i) j))∧Below w.heap.size w wr)
  (fun t _=>nw a-(intOf t).toNat)
 case atStart =>
  refine ⟨0,by omega,rfl,hbox.alloc _,hr1.alloc _,hr2.alloc _,oX _ _ _ _ _ rfl fun i _=>?_,hbel.alloc (by omega) _⟩;rw [m_zero];simp [wd]
 case round =>
  clear hbox hr1 hr2 hbel hmk;obtain ⟨i,hi,rfl,hbox,hr1,hr2,hr3,hbel⟩:=hrel;by_cases hlt:i<nw a
  ·have hc1:=hr1.cell hlt;have hwa:=qt a i;go_wp2;go_loopw [10,31] (fun c t wr=>∃ k:Nat,k≤nw b∧t = .int .i64 k∧c = .int .u64 (cC a b i k)∧wr.rowIs (w.heap.size+1+1) 31 1 (fun _=>.string ⟨#[]⟩) ∧
     wr.rowIs g1 124 (nw a) (fun i=>.int .u32 (wd a i))∧wr.rowIs g2 124 (nw b) (fun i=>.int .u32 (wd b i)) ∧
     wr.rowIs w2.heap.size 124 (nw a+nw b) (fun j=>.int .u32 (if j<i+k then wd (tT a b i k) j else wd (mM a b i) j))∧Below w.heap.size w wr)
    (fun _ t _=>nw b-(intOf t).toNat)
   case atStart =>
    exact ⟨0,by omega,rfl,by rw [c_zero];rfl,hbox,hr1,hr2,hr3.congr fun j _=>by rw [t_zero];simp,hbel⟩
   case round =>
    clear hbox hr1 hr2 hr3 hbel hc1;obtain ⟨k,hk,rfl,rfl,hbox,hr1,hr2,hr3,hbel⟩:=hrel;have hcl:=c_le a b i k;by_cases hltk:k<nw b
    ·have hc2:=hr2.cell hltk;have hc3:=hr3.cell (i:=i+k) (by omega);rw [if_neg (Nat.lt_irrefl _)] at hc3;have hf3:=hr3.frozen (i+k);have hwb:=qt b k;have hwm:=qt (mM a b i) (i+k);have hmul:(wd a i:Int)*(wd b k:Int)≤18446744065119617025:=by
      have:=Int.ofNat_le.2 (zh0 a b i k);simpa using this
     have hmul0:(0:Int)≤(wd a i:Int)*(wd b k:Int):=Int.mul_nonneg (by omega) (by omega);go_wp2
     go_quiet (fail)
     go_wp2;have e1:((cC a b i k:Int)+((wd (mM a b i) (i+k):Int)+(wd a i:Int)*(wd b k:Int))) / 4294967296=((cC a b i (k+1):Nat):Int):=by rw [← zf8];simp
     have e2:((cC a b i k:Int)+((wd (mM a b i) (i+k):Int)+(wd a i:Int)*(wd b k:Int)))%4294967296=((wd (tT a b i (k+1)) (i+k):Nat):Int):=by rw [← xr];simp
     rw [e1,e2];go_roundw
     case rel =>
      refine ⟨k+1,by omega,by go_num,rfl,(qO hbox _).setOther (by simp;omega) _,(qO hr1 _).setOther (by simp;omega) _,(qO hr2 _).setOther (by simp;omega) _,?_,(qY hbel _).setCell (by simp;omega) _⟩;refine ((qO hr3 _).set _ _).congr fun j hj=>?_;split
      ·subst j;rw [if_pos (by omega)]
      ·by_cases h:j<i+k
       ·rw [if_pos h,if_pos (by omega),step_low a b i k j h]
       ·rw [if_neg h,if_neg (by omega)]
     case measure=>simp [intOf];omega
    ·obtain rfl:k=nw b:=by omega
     have hc3:=hr3.cell (i:=i+nw b) (by omega);have hf3:=hr3.frozen (i+nw b);have hr4:=(hr3.set (i+nw b) (.int .u32 ((cC a b i (nw b):Int)%4294967296))).congr (g:=fun j=>.int .u32 (wd (mM a b (i+1)) j)) fun j hj=>by
      have hw:=c_end a b i (nw b) (zv _);split
      ·subst j;rw [← hw];rfl
      ·rename_i hne;by_cases h:j<i+nw b
       ·rw [if_pos h,t_end a b i _ (zv _)]
       ·rw [if_neg h,m_high a b i j (by omega),m_high a b (i+1) j (by omega)]
     have hbox4:=hbox.setOther (a:=⟨w2.heap.size,i+nw b,none⟩) (by simp;omega) (.int .u32 ((cC a b i (nw b):Int)%4294967296));have hr14:=hr1.setOther (a:=⟨w2.heap.size,i+nw b,none⟩) (by simp;omega) (.int .u32 ((cC a b i (nw b):Int)%4294967296));have hr24:=hr2.setOther (a:=⟨w2.heap.size,i+nw b,none⟩) (by simp;omega) (.int .u32 ((cC a b i (nw b):Int)%4294967296));have hbel4:=hbel.setCell (p:=⟨w2.heap.size,i+nw b,none⟩) (by simp;omega) (.int .u32 ((cC a b i (nw b):Int)%4294967296));have hmod:(cC a b i (nw b):Int)%4294967296=(cC a b i (nw b):Int):=Int.emod_eq_of_lt (by omega) (by omega);rw [hmod] at hr4 hbox4 hr14 hr24 hbel4;clear hmod;go_wp2;go_roundw
     case rel=>exact ⟨i+1,by omega,by go_num,hbox4,hr14,hr24,hr4,hbel4⟩
     case measure=>simp [intOf];omega
  ·obtain rfl:i=nw a:=by omega
   have hr4:=hr3.congr (g:=fun j=>.int .u32 (wd (a*b) j)) fun j hj=>by rw [m_end a b _ (zv _)]
   go_wp2_with fail
   refine (zbS _ _ (nw a+nw b) (nw a+nw b) (a*b) (by omega) (fun i hi=>hr4.cell hi) hr4.lt ?_).mono ?_
   ·have:=yz a b;rw [qW,Nat.mul_add,Nat.pow_add];exact Nat.mul_lt_mul'' ((qW _ _).1 (zv _)) ((qW _ _).1 (zv _))
   rintro e w5 ⟨rfl,hb5⟩;have hbx:=zh hbox hb5;have hc:=zQ hbx;have hf:=hbx.frozen 0;go_wp2;exact zbY rfl _ rfl (qV hbx _) rfl ⟨rfl,(hbel.trans (hb5.mono (by have:=hbel.size;omega))).setCell (by simp;omega) _⟩
end Go.Proofs.YtmhllppjcilllaaGreatDoor
end
end
