import Derived.Test.YtmhllppjcilllaaGreatDoorHp
import Derived.Test.YtmhllppjcilllaaGreatDoorRQ
import Derived.Test.YtmhllppjcilllaaGreatDoorN1
import Derived.Test.YtmhllppjcilllaaGreatDoorM1
set_option linter.unusedSimpArgs false
set_option linter.unusedVariables false
section
open Go Go.RowKit
end
section
set_option maxRecDepth 100000
set_option maxHeartbeats 1000000
section
open Go Go.RowKit Cs
namespace Go.Proofs.YtmhllppjcilllaaGreatDoor
def yo (T i n:Nat) (F:Nat→Value) (j:Nat):Value:=if i≤j∧j<i+n then .int .u32 (wd T (j-i)) else F j
theorem zh9 (w:World) (g N i n cap gy oy capy T Y:Nat) (F:Nat→Value) (hn:n≤1000000) (hiN:i+n<N) (hr0:w.rowIs g 124 N F) (hF:∀ k,k≤n→F (i+k) = .int .u32 (wd T k))
  (hy:∀ k,k<n→w.cell? ⟨gy,oy+k,none⟩=some (.int .u32 (wd Y k))) (hne:gy≠g) (hY:Y<2^(32*n)) (hi:i≤10000000) (ho:oy≤10000000) :
  Calls Tryz.prog 158 #[.slice (some ⟨g,i,none⟩) (n+1) cap,.slice (some ⟨gy,oy,none⟩) n capy] w fun e w'=>e = .returned (.tuple #[])∧w'.rowIs g 124 N (yo (Y+T) i (n+1) F)∧w.grownBy w' (some g):=by
 have hwn:wd Y n=0:=jh _ _ ((q8 _ _).2 hY);have HF:=zb hF;have HY:=zb hy;have HWN:=zb hwn;clear hF hy hwn hY;go_enter Tryz.func158, Tryz.ntmps158;go_wp2_with fail
 go_loopw [4,8] (fun c t wr=>∃ k:Nat,k≤n∧t = .int .i64 k∧c = .int .u64 (cr Y T k)∧wr.rowIs g 124 N (yo (Y+T) i k F)∧w.grownBy wr (some g)) (fun _ t _=>n-(intOf t).toNat)
 case atStart=>exact ⟨0,by omega,rfl,by rw [zgC];rfl,hr0.congr fun j _=>by unfold yo;rw [if_neg (by omega)],World.grownBy.refl w _⟩
 case round =>
  obtain ⟨k,hk,rfl,rfl,hr,hg⟩:=hrel;have hcr:=jd Y T k;have c1:=hr.cell (i:=i+k) (by omega);unfold yo at c1;rw [if_neg (by omega),HF.out k hk] at c1;have f1:=hr.frozen (i+k);by_cases hlt:k<n
  ·have c2:wr.cell? ⟨gy,oy+k,none⟩=some (.int .u32 (wd Y k)):=hg.cell (HY.out k hlt) (by intro e;injection e with e;exact hne e);have hwa:=qz Y k;have hwb:=qz T k;go_wp2
   go_quiet (fail)
   go_wp2;have e1:((cr Y T k:Int)+((wd T k:Int)+(wd Y k:Int))) / 4294967296=((cr Y T (k+1):Nat):Int):=by rw [← zgD];simp
   have e2:((cr Y T k:Int)+((wd T k:Int)+(wd Y k:Int)))%4294967296=((wd (Y+T) k:Nat):Int):=by rw [← zdx];simp
   rw [e1,e2];go_roundw
   case rel =>
    refine ⟨k+1,by omega,by go_num,rfl,((qT hr _).set _ _).congr fun j hj=>?_,zbl (zb6 hg _) (.inl rfl) _⟩;unfold yo;split
    ·subst j;rw [if_pos (by omega),show i+k-i=k by omega]
    ·by_cases h:i≤j∧j<i+k
     ·rw [if_pos h,if_pos (by omega)]
     ·rw [if_neg h,if_neg (by omega)]
   case measure=>simp [intOf];omega
  ·obtain rfl:k=n:=by omega
   have hw:=zdx Y T k;rw [HWN.out,Nat.add_zero] at hw;have hwb:=qz T k;go_wp2;have e2:((wd T k:Int)+(cr Y T k:Int))%4294967296=((wd (Y+T) k:Nat):Int):=by rw [← hw,Nat.add_comm];simp
   rw [e2]
   go_end0;refine ⟨rfl,(hr.set _ _).congr fun j hj=>?_,zbl hg (.inl rfl) _⟩;unfold yo;split
   ·subst j;rw [if_pos (by omega),show i+k-i=k by omega]
   ·by_cases h:i≤j∧j<i+k
    ·rw [if_pos h,if_pos (by omega)]
    ·rw [if_neg h,if_neg (by omega)]
theorem tk_word {T U Y d c n k:Nat} (hE:T+d*Y=U+2^(32*(n+1))*c) (hk:k≤n):(tb T Y d k+(wd T k+d*wd Y k))%4294967296=wd U k:=by
 rw [tb_word,hE,zgU _ _ _ _ (by omega)]
theorem tk_end {T U Y d c n:Nat} (hE:T+d*Y=U+2^(32*(n+1))*c) (hT:T<2^(32*(n+1))) (hU:U<2^(32*(n+1))) (hY:Y<2^(32*n)):tb T Y d (n+1)=c:=by
 have hY':Y<2^(32*(n+1)):=Nat.lt_of_lt_of_le hY (Nat.pow_le_pow_right (by decide) (by omega));unfold tb;rw [Nat.mod_eq_of_lt hT,Nat.mod_eq_of_lt hY',hE,Nat.add_mul_div_left _ _ (Nat.pow_pos (by decide)),Nat.div_eq_of_lt hU,Nat.zero_add]
theorem mul_w {a b:Nat} (ha:a<4294967296) (hb:b<4294967296):(a:Int)*(b:Int)≤18446744065119617025∧(0:Int)≤(a:Int)*(b:Int):=by
 refine ⟨?_,Int.mul_nonneg (by omega) (by omega)⟩;have h:a*b≤4294967295*4294967295:=Nat.mul_le_mul (by omega) (by omega);have:=Int.ofNat_le.2 h;simpa using this
theorem zgZ (w:World) (g N i n cap gy oy capy U T Y d c:Nat) (F:Nat→Value) (hn:n≤1000000) (hiN:i+n<N) (hr0:w.rowIs g 124 N F) (hF:∀ k,k≤n→F (i+k) = .int .u32 (wd U k))
  (hy:∀ k,k<n→w.cell? ⟨gy,oy+k,none⟩=some (.int .u32 (wd Y k))) (hne:gy≠g) (hY:Y<2^(32*n)) (hi:i≤10000000) (ho:oy≤10000000)
  (hd:d<4294967296) (hc:c≤1) (hU:U<2^(32*(n+1))) (hT:T<2^(32*(n+1))) (hE:T+d*Y=U+2^(32*(n+1))*c) :
  Calls Tryz.prog 157 #[.slice (some ⟨g,i,none⟩) (n+1) cap,.slice (some ⟨gy,oy,none⟩) n capy,.int .u64 d] w fun e w'=>e = .returned (.bool (decide (c=1)))∧w'.rowIs g 124 N (yo T i (n+1) F)∧w.grownBy w' (some g):=by
 have hwn:wd Y n=0:=jh _ _ ((q8 _ _).2 hY);have hend:=tk_end hE hT hU hY;have hwk:=fun k (h:k≤n)=>tk_word hE h;have HF:=zb hF;have HY:=zb hy;have HWN:=zb hwn;have HEND:=zb hend;have HWK:=zb hwk;clear hF hy hwn hY hend hwk hE hT hU;go_enter Tryz.func157, Tryz.ntmps157;go_wp2_with fail
 go_loopw [7,13] (fun c t wr=>∃ k:Nat,k≤n∧t = .int .i64 k∧c = .int .u64 (tb T Y d k)∧wr.rowIs g 124 N (yo T i k F)∧w.grownBy wr (some g)) (fun _ t _=>n-(intOf t).toNat)
 case atStart=>exact ⟨0,by omega,rfl,by rw [tb_zero];rfl,hr0.congr fun j _=>by unfold yo;rw [if_neg (by omega)],World.grownBy.refl w _⟩
 case round =>
  obtain ⟨k,hk,rfl,rfl,hr,hg⟩:=hrel;have htb:=tb_le T Y d k;have c1:=hr.cell (i:=i+k) (by omega);unfold yo at c1;rw [if_neg (by omega),HF.out k hk] at c1;have f1:=hr.frozen (i+k);have hwu:=qz U k;have hwt:=qz T k;by_cases hlt:k<n
  ·have c2:wr.cell? ⟨gy,oy+k,none⟩=some (.int .u32 (wd Y k)):=hg.cell (HY.out k hlt) (by intro e;injection e with e;exact hne e);have hwy:=qz Y k;obtain ⟨hmul,hmul0⟩:=mul_w hd hwy;have e0:(((d*wd Y k+tb T Y d k:Nat)):Int)=(d:Int)*(wd Y k:Int)+(tb T Y d k:Int):=by simp
   obtain ⟨t1,t2⟩:=xu (u:=wd U k) (t:=wd T k) (part:=d*wd Y k+tb T Y d k) hwt (by rw [← HWK.out k (by omega)];congr 1;omega);have t3:=j6 T Y d k;rw [show tb T Y d k+(wd T k+d*wd Y k)=wd T k+(d*wd Y k+tb T Y d k) by omega,t2] at t3;have hrel:∀ wq:World,wq=wr.setCell ⟨g,i+k,none⟩ (.int .u32 (wd T k:Int))→wq.rowIs g 124 N (yo T i (k+1) F)∧w.grownBy wq (some g):=by
    rintro wq rfl;refine ⟨(hr.set _ _).congr fun j hj=>?_,zbl hg (.inl rfl) _⟩;unfold yo;split
    ·subst j;rw [if_pos (by omega),show i+k-i=k by omega]
    ·by_cases h:i≤j∧j<i+k
     ·rw [if_pos h,if_pos (by omega)]
     ·rw [if_neg h,if_neg (by omega)]
   have HREL:=zb hrel;by_cases hlt2:wd U k<(d*wd Y k+tb T Y d k)%4294967296
   ·rw [if_pos hlt2] at t3;have e3:((d:Int)*(wd Y k:Int)+(tb T Y d k:Int)) / 4294967296+1=(tb T Y d (k+1):Int):=by rw [← e0];omega
    have e5:(wd U k:Int)<((d:Int)*(wd Y k:Int)+(tb T Y d k:Int))%4294967296:=by rw [← e0];omega
    have e4:((wd U k:Int)-((d:Int)*(wd Y k:Int)+(tb T Y d k:Int)))%4294967296=(wd T k:Int):=by
     rw [← e0];omega
    have HE4:=zb e4;have HE3:=zb e3;clear hlt2 t1 t2 t3 e0 hrel e4 e3;go_wp2;rw [HE3.out,HE4.out];go_roundw
    case rel=>exact ⟨k+1,by omega,by go_num,rfl,HREL.out _ rfl⟩
    case measure=>simp [intOf];omega
   ·rw [if_neg hlt2] at t3;have e3:((d:Int)*(wd Y k:Int)+(tb T Y d k:Int)) / 4294967296=(tb T Y d (k+1):Int):=by rw [← e0];omega
    have e5:¬ (wd U k:Int)<((d:Int)*(wd Y k:Int)+(tb T Y d k:Int))%4294967296:=by rw [← e0];omega
    have e4:(wd U k:Int)-((d:Int)*(wd Y k:Int)+(tb T Y d k:Int))%4294967296=(wd T k:Int):=by
     rw [← e0];omega
    have HE4:=zb e4;have HE3:=zb e3;clear hlt2 t1 t2 t3 e0 hrel e4 e3;go_wp2;rw [HE3.out,HE4.out];go_roundw
    case rel=>exact ⟨k+1,by omega,by go_num,rfl,HREL.out _ rfl⟩
    case measure=>simp [intOf];omega
  ·obtain rfl:k=n:=by omega
   have hw:=HWK.out k (zu _);have hs:=j6 T Y d k;rw [HWN.out,Nat.mul_zero,Nat.add_zero] at hw hs;rw [HEND.out] at hs;have hcc:decide (c=1)=decide (wd U k<tb T Y d k):=by
    refine decide_eq_decide.2 ?_;constructor <;> intro h <;> omega
   have HCC:=zb hcc;have e4:((wd U k:Int)-(tb T Y d k:Int))%4294967296=(wd T k:Int):=by omega
   have HE4:=zb e4;clear hw hs hcc e4;go_wp2;rw [HE4.out];go_ret;refine ⟨by rw [HCC.out];rfl,(hr.set _ _).congr fun j hj=>?_,zbl hg (.inl rfl) _⟩;unfold yo;split
   ·subst j;rw [if_pos (by omega),show i+k-i=k by omega]
   ·by_cases h:i≤j∧j<i+k
    ·rw [if_pos h,if_pos (by omega)]
    ·rw [if_neg h,if_neg (by omega)]
end Go.Proofs.YtmhllppjcilllaaGreatDoor
end
section
open Go Go.RowKit Cs
namespace Go.Proofs.YtmhllppjcilllaaGreatDoor
theorem zeI (w:World) (b n cap V s:Nat) (hn:n≤1000000) (hs:s<32) (hc0:∀ i,i<n→w.cell? ⟨b,i,none⟩=some (.int .u32 (wd V i))) (hbl:b<w.heap.size) :
  Calls Tryz.prog 120 #[.slice (some ⟨b,0,none⟩) n cap,.int .u64 s] w fun e w'=>∃ g,w.heap.size≤g∧e = .returned (.slice (some ⟨g,0,none⟩) n n)∧w'.rowIs g 124 n (fun i=>.int .u32 (wd (V*2^s) i))∧Below w.heap.size w w':=by
 have hmk:=zeZ n (by omega);have hrow0:(w.alloc (.cells (madeCells #[.int .u32 0] n) 124)).rowIs w.heap.size 124 n (fun _=>.int .u32 0):=pS _ _ _ _ _ rfl fun _ _=>rfl;have hbel0:Below w.heap.size w (w.alloc (.cells (madeCells #[.int .u32 0] n) 124)):=(zx _ _).alloc (zu _) _;have hsrc:∀ j,j<n→(w.alloc (.cells (madeCells #[.int .u32 0] n) 124)).cell? ⟨b,0+j,none⟩=some (.int .u32 (wd V j)):=fun j hj=>by
  rw [Nat.zero_add];exact zB hbel0 hbl (hc0 j hj)
 have Hsrc:=zb hsrc;clear hsrc;go_enter Tryz.func120, Tryz.ntmps120;go_wp2_with ((with_reducible refine zca rfl (.tmp 12) (.tmp 13) 123 123 rfl 124 Tryz.underlying123 zgg w.heap.size n n n cap (some ⟨b,0,none⟩) rfl rfl 124 n _ hrow0 (by omega) (by omega) (fun i=>.int .u32 (wd V i)) ?c1 ?c2 ?_);rotate_left;rotate_left;intro w3 hr3 hg3)
 case c1=>exact fun _=>⟨b,0,rfl,Hsrc.out⟩
 case c2=>exact fun _ _=>rfl
 have hr3':=hr3.congr (g:=fun i=>.int .u32 (wd V i)) fun i hi=>by rw [if_pos hi]
 have hbel3:Below w.heap.size w w3:=hbel0.grown hg3 (by simp) (fun k e=>by cases e;omega);have hc3:∀ i,i<n→w3.cell? ⟨b,i,none⟩=some (.int .u32 (wd V i)):=fun i hi=>zB hbel3 hbl (hc0 i hi);have HC:=zb hc0;clear hr3 hg3 hrow0 Hsrc hmk hc0 hbel0 hc3;go_loopw [6,17] (fun c t wr=>∃ k:Nat,k≤n∧t = .int .i64 k∧c = .int .u32 (jo V s k)∧wr.rowIs w.heap.size 124 n (fun i=>.int .u32 (if i<k then wd (V*2^s) i else wd V i))∧Below w.heap.size w wr) (fun _ t _=>n-(intOf t).toNat)
 case atStart=>exact ⟨0,by omega,rfl,by rw [shC_zero];rfl,hr3'.congr fun i _=>by simp,hbel3⟩
 case round =>
  clear hr3' hbel3;obtain ⟨k,hk,rfl,rfl,hr,hbel⟩:=hrel;by_cases hlt:k<n
  ·have hc1:wr.cell? ⟨b,k,none⟩=some (.int .u32 (wd V k)):=zB hbel hbl (HC.out k hlt);have hf:=hr.frozen k;have hc2:=hr.cell (i:=k) hlt;have hwv:=qz V k;have hsc:=ziO V s k;have hsc2:jo V s k<4294967296:=Nat.lt_of_lt_of_le hsc (by have:=Nat.pow_le_pow_right (n:=2) (by decide) (show s≤32 by omega);omega);clear hsc;go_wp2;have e1:(wd V k:Int) / 2^(32-s)%4294967296=(jo V s (k+1):Int):=by
    have h1:jo V s (k+1)<4294967296:=Nat.lt_of_lt_of_le (ziO V s (k+1)) (by have:=Nat.pow_le_pow_right (n:=2) (by decide) (show s≤32 by omega);omega);have h2:(wd V k:Int) / 2^(32-s)=((wd V k / 2^(32-s):Nat):Int):=by simp
    rw [h2,← shC_succ V s k (by omega)];omega
   have e2:bits BinOp.or IntKind.u32 ((wd V k:Int)*2^s%4294967296) (jo V s k:Int)=(wd (V*2^s) k:Int):=by
    have h2:(wd V k:Int)*2^s%4294967296=((wd V k*2^s%4294967296:Nat):Int):=by simp
    rw [h2,u32_or_nat _ _ (Nat.mod_lt _ (by decide)) hsc2,zjX V s k hs]
   rw [e1,e2];go_roundw
   case rel =>
    refine ⟨k+1,by omega,by go_num,rfl,(hr.set _ _).congr fun j hj=>?_,hbel.setCell (by simp) _⟩;split
    ·subst j;rw [if_pos (by omega)]
    ·by_cases h:j<k
     ·rw [if_pos h,if_pos (by omega)]
     ·rw [if_neg h,if_neg (by omega)]
   case measure=>simp [intOf];omega
  ·obtain rfl:k=n:=by omega
   go_wp2;go_ret;exact ⟨w.heap.size,zu _,rfl,hr.congr fun i hi=>by rw [if_pos hi],hbel⟩
end Go.Proofs.YtmhllppjcilllaaGreatDoor
end
end
section
set_option maxRecDepth 100000
set_option maxHeartbeats 400000
section
open Go Go.RowKit Cs
namespace Go.Proofs.YtmhllppjcilllaaGreatDoor
theorem jA (a r:Nat) (ha:a<4294967296) (hr:r<4294967296):bits BinOp.or IntKind.u64 ((a:Int)*4294967296) (r:Int)=((a*4294967296+r:Nat):Int):=by
 have e:(a:Int)*4294967296=((a*4294967296:Nat):Int):=by simp
 rw [e,u64_or_nat _ _ (by omega) (by omega),nat_join 32 _ _ (by omega) (by omega)]
theorem zfB (w:World) (g m cap N R q:Nat) (hm:m≤10000000) (hmN:m≤N) (hR:nw R≤m) (hq:0<q) (hq2:q<4294967296) (hrow0:w.rowIs g 124 N (fun j=>.int .u32 (wd R j))) :
  Calls Tryz.prog 89 #[.slice (some ⟨g,0,none⟩) m cap,.int .u32 q] w fun e w'=>e = .returned (.int .u32 ((R%q:Nat):Int)) ∧
   w'.rowIs g 124 N (fun j=>.int .u32 (wd (R / q) j))∧w.grownBy w' (some g)∧w'.heap.size=w.heap.size:=by
 go_enter Tryz.func89, Tryz.ntmps89;go_wp2;go_loopw [5,6] (fun r i wr=>∃ k:Nat,k≤m∧i = .int .i64 ((k:Int)-1)∧r = .int .u64 (y7 R q k)∧wr.rowIs g 124 N (fun j=>.int .u32 (if j<k then wd R j else wd (R / q) j))∧w.grownBy wr (some g)∧wr.heap.size=w.heap.size)
  (fun _ i _=>(intOf i+1).toNat)
 case atStart =>
  refine ⟨m,by omega,rfl,by rw [rst_top R q m hR];rfl,hrow0.congr fun j _=>?_,World.grownBy.refl w _,rfl⟩;by_cases h:j<m
  ·rw [if_pos h]
  ·rw [if_neg h,jh R j (by omega),jh (R / q) j (by rw [q8];exact Nat.lt_of_le_of_lt (Nat.div_le_self _ _) ((q8 _ _).1 (by omega)))]
 case round =>
  clear hrow0;obtain ⟨k,hk,rfl,rfl,hrow,hgr,hsz⟩:=hrel;have Hsz:=zb hsz;clear hsz;rcases Nat.eq_zero_or_pos k with h0 | h0
  ·subst h0;have hr0:=rst_zero R q;rw [hr0];clear hr0;have hlt:R%q<4294967296:=Nat.lt_of_lt_of_le (Nat.mod_lt _ hq) (by omega);have hrow':=hrow.congr (g:=fun j=>.int .u32 (wd (R / q) j)) fun j _=>by rw [if_neg (by omega)]
   have hmod:((R%q:Nat):Int)%4294967296=((R%q:Nat):Int):=Int.emod_eq_of_lt (by omega) (by omega);have Hmod:=zb hmod;clear hmod;clear hrow;go_wp2;go_ret;exact ⟨by simp,hrow',hgr,Hsz.out⟩
  ·have hc:=hrow.cell (i:=k-1) (by omega);rw [if_pos (by omega)] at hc;have hf:=hrow.frozen (k-1);have hlt:=rst_lt R q k hq;have hw:=qz R (k-1);have hor:=jA (y7 R q k) (wd R (k-1)) (by omega) hw;have i0:(0:Int)≤(k:Int)-1:=by omega
   have i1:(k:Int)-1<(m:Int):=by omega
   go_wp2;have e1:((y7 R q k:Int)*4294967296+(wd R (k-1):Int))%(q:Int)=((y7 R q (k-1):Nat):Int):=by
    rw [← rst_step R q (k-1),Nat.sub_add_cancel h0];simp
   have e2:((y7 R q k:Int)*4294967296+(wd R (k-1):Int)) / (q:Int)%4294967296=((wd (R / q) (k-1):Nat):Int):=by
    have h1:=rst_quot R q (k-1) hq;rw [Nat.sub_add_cancel h0] at h1;have h2:=qz (R / q) (k-1);have h3:((y7 R q k:Int)*4294967296+(wd R (k-1):Int)) / (q:Int)=(((y7 R q k*4294967296+wd R (k-1)) / q:Nat):Int):=by simp
    rw [h3,h1];omega
   rw [e1,e2];go_roundw
   case rel =>
    refine ⟨k-1,by omega,by go_num,rfl,(hrow.set _ _).congr fun j hj=>?_,zbl hgr (.inl rfl) _,(yW _ _ _).trans Hsz.out⟩;split
    ·subst j;rw [if_neg (Nat.lt_irrefl _)]
    ·by_cases h:j<k
     ·rw [if_pos h,if_pos (by omega)]
     ·rw [if_neg h,if_neg (by omega)]
   case measure=>simp [intOf];omega
end Go.Proofs.YtmhllppjcilllaaGreatDoor
end
end
