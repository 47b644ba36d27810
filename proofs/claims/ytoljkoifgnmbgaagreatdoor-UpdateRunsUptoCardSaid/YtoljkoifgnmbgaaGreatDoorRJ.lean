import Derived.Test.YtoljkoifgnmbgaaGreatDoorRH
import Derived.Test.YtoljkoifgnmbgaaGreatDoorNr
import Derived.Test.YtoljkoifgnmbgaaGreatDoorKl
import Derived.WalkMore
set_option linter.unusedSimpArgs false
set_option linter.unusedVariables false
set_option maxRecDepth 100000
set_option maxHeartbeats 4000000
section
open Go Go.RowKit Cs
namespace Go.Proofs.YtoljkoifgnmbgaaGreatDoor
theorem form_nil (w:World):Calls Tryz.prog 148 #[.slice none 0 0] w fun e w'=>e = .returned (.string (zj 0))∧Below w.heap.size w w':=by
 obtain ⟨ti,hi,hz0,hz1,hz2⟩:=info_parts ze4;have hz:=jP;rw [hz];have hmk:∀ u:World,(Instr.makeSlice 158 (.int .i64 0) (.int .i64 0)).run Tryz.prog u = .ok (.slice (some ⟨u.heap.size,0,none⟩) 0 0) (u.alloc (.cells (madeCells #[.int .u8 0] 0) 5)):=fun u =>
  run_make_row 158 5 ti (.int .u8 0) Tryz.underlying158 hi hz0 hz1 rfl .i64 .i64 0 (by rw [hz2];omega) (by omega) u
 go_enter Tryz.func148, Tryz.ntmps148;go_wp2_with fail
 go_loop [3] (fun t=>t = .int .i64 0) (fun _=>0)
 case atStart=>rfl
 case round =>
  subst hrel;go_wp2_with fail
  go_loopw [4,5] (fun o i wr=>o = .slice (some ⟨w.heap.size,0,none⟩) 0 0∧i = .int .i64 (-1)∧Below w.heap.size w wr) (fun _ _ _=>0)
  case atStart=>exact ⟨rfl,rfl,(zA _ _).alloc (zi _) _⟩
  case round =>
   obtain ⟨rfl,rfl,hbel⟩:=hrel;go_wp2_with fail
   go_ret;exact ⟨rfl,hbel⟩
theorem rof_any (w:World) (V:Nat) (hV:V<18446744073709551616):Calls Tryz.prog 144 #[.int .u64 (V:Int)] w fun e w'=>e = .returned (.string (zj V))∧Below w.heap.size w w':=by
 obtain ⟨ti,hi,hz0,hz1,hz2⟩:=info_parts zd2;have hfm:=fun W A n cap h0 h1 h2 h3=>zd3 W A n cap V h0 h1 h2 h3;have hn20:nd 10 V≤20:=(zbC V 20).2 (Nat.lt_of_lt_of_le hV (by decide));have HF:=za hfm;clear hfm;go_enter Tryz.func144, Tryz.ntmps144;go_wp2;go_loopw [0,3] (fun x l wr=>∃ k:Nat,k≤nd 10 V∧x = .int .u64 ((V / 10^k:Nat):Int)∧wr.ownsRow w.heap.size 3 1 l k (dgi V k)∧(k=0→l = .slice none 0 0)∧Below w.heap.size w wr)
  (fun x _ _=>(intOf x).toNat)
 case atStart=>exact ⟨0,Nat.zero_le _,by rw [Nat.pow_zero,Nat.div_one],World.ownsRow_nil _ _ _ _,fun _=>rfl,zA _ _⟩
 case round =>
  obtain ⟨k,hk,rfl,hown,hnil,hbel⟩:=hrel;have hszw:=hbel.size;obtain ⟨Q,hQ⟩:∃ Q,V / 10^k=Q:=⟨_,rfl⟩;have hQ1:V / 10^(k+1)=Q / 10:=by rw [Nat.pow_succ,← Nat.div_div_eq_div_mul,hQ]
  have hQ2:dg 10 V k=Q%10:=by unfold dg;rw [hQ]
  have hQV:Q≤V:=by rw [← hQ];exact Nat.div_le_self _ _
  rcases Nat.eq_zero_or_pos Q with h0 | h0
  ·have hk2:nd 10 V≤k:=by
    rw [zbC];rw [h0] at hQ;exact Nat.lt_of_not_le fun h=>by
     have:=Nat.div_pos h (Nat.pow_pos (show 0<10 by decide));omega
   obtain rfl:k=nd 10 V:=by omega
   rw [hQ,h0];rcases Nat.eq_zero_or_pos (nd 10 V) with hz | hz
   ·have hV0:V=0:=by
     have:=(zbC V 0).1 (by omega);simpa using this
    obtain rfl:u3 = .slice none 0 0:=hnil hz;subst hV0;clear hown HF;go_wp2_with fail
    refine (form_nil _).mono ?_;rintro e w' ⟨rfl,hb9⟩;go_wp2_with fail
    go_ret;exact ⟨rfl,zu hbel hb9 hszw⟩
   ·obtain ⟨go',cp,rfl,hgo1,hgo2⟩:=yO hown hz;have hrd:Rd wr wr.heap.size (some ⟨go',0,none⟩) (nd 10 V) (yA V):=Rd.of_own hown fun i hi=>zj0 _ _ _ hi;have HR:=za hrd;clear hrd hown;go_wp2_with fail
    refine (HF.out _ _ (nd 10 V) cp hz (by omega) (zi _) HR.out).mono ?_;rintro e w' ⟨rfl,hb9⟩;go_wp2_with fail
    go_ret;exact ⟨rfl,zu hbel hb9 hszw⟩
  ·have hk3:k<nd 10 V:=Nat.lt_of_not_le fun h=>by
    have:=(zbC V k).1 h;have:=Nat.div_eq_of_lt this;omega
   have hlt0:∀ k,u3.ownBlock=some k→w.heap.size≤k:=fun k hk=>(hown.lt k hk).1;rw [hQ];have e1:((Q:Int)%10)=((dg 10 V k:Nat):Int):=by rw [hQ2];omega
   have HQ1:=za hQ1;have HE:=za e1;clear hQ hQ1 hQ2 e1;go_wp2_with (at_builtin;go_loud (refine wpList_append_own _ rfl _ _ 52 rfl w.heap.size 3 ti (.int .i64 0) 1 8 Tryz.underlying52 hi hz0 hz1 hz2 rfl (by decide) _ _ _ rfl (hown.alloc _) ⟨wr.heap.size,0,none⟩ 1 1 [.int .i64 ((Q:Int)%10)] rfl rfl qR zcL (by unfold maxLen;omega) (by omega) (by simp;omega) ?_;intro v' w3 hown3 hgr3 _))
   have hbel3:=(hbel.alloc hbel.size _).grown hgr3 (by simp;omega) (fun k e=>hlt0 k e);rw [HE.out,← zfg] at hown3;exact ⟨⟨k+1,by omega,by rw [HQ1.out];simp,hown3,fun h=>absurd h (by omega),hbel3⟩,by simp [intOf];omega⟩
noncomputable def jc (v:Value):Nat:=open Classical in if h:∃ n,v = .string (zj n) then h.choose else 0
theorem zfh (n:Nat):jc (.string (zj n))=n:=by
 have h:∃ m,Value.string (zj n) = .string (zj m):=⟨n,rfl⟩;unfold jc;rw [dif_pos h];have:=h.choose_spec;injection this with this;exact (zfS this).symm
theorem dec10:zj 10=⟨#[49,48]⟩:=by decide +kernel
def dvF (Q m t j:Nat):Value:=if j=m then .int .i64 (t:Int) else if m+1≤j then yA Q j else .int .i64 0
theorem zdT (w:World) (a b:Nat) (ha:zB a≤1000000) (hb:zB b≤1000000) (hb0:0<b) :
  Calls Tryz.prog 101 #[.string (zj a),.string (zj b)] w fun e w'=>e = .returned (.tuple #[.string (zj (a / b)),.string (zj (a%b)),.bool true])∧Below w.heap.size w w':=by
 have hsa:=qO a;have hna:=gu a;have h1a:=zce a;have hbne:((zj b).toList==[48])=false:=beq_eq_false_iff_ne.2 fun e=>by have:=(zdH b).1 e;omega
 have hrd:∀ k,zB (rd a b k)≤1000001:=fun k=>by
  have h:rd a b k<b:=Nat.mod_lt _ hb0;have:=yz (Nat.le_of_lt h);omega
 have hx:∀ k,zB (rd a b (k+1)*10+dg 10 a k)≤1000002:=fun k=>by
  have h:=rd_lt a b k hb0;have h2:=yz (Nat.le_of_lt h);have h3:zB (10*b)≤1000001:=by
   refine zbW _ _ ?_ (by omega);have:=zfL b
   calc 10*b<10*10^zB b:=by omega
    _=10^(zB b+1):=by rw [Nat.pow_succ];omega
    _≤10^1000001:=Nat.pow_le_pow_right (by decide) (by omega)
  omega
 have hmu:=fun W k=>zbK W (rd a b k) 10 (by have:=hrd k;omega) (by decide +kernel);rw [dec10] at hmu;have hda:=fun W i hi=>zbx W a i (by omega) hi;have hof:=fun W k=>rof_any W (dg 10 a k) (by have:=y9 a k;omega);have had:=fun W k=>zdV W (rd a b (k+1)*10) (dg 10 a k) (by have:=hx k;have:=yz (show rd a b (k+1)*10≤rd a b (k+1)*10+dg 10 a k by omega);omega) (by have:=hx k;have:=yz (show dg 10 a k≤rd a b (k+1)*10+dg 10 a k by omega);omega);have hcm:=fun W x=>zjU W x b;have hsu:=fun W k t (h:(t+1)*b≤rd a b (k+1)*10+dg 10 a k)=>rsub_any W (rd a b (k+1)*10+dg 10 a k-t*b) b (by have:=hx k;have:=yz (show rd a b (k+1)*10+dg 10 a k-t*b≤rd a b (k+1)*10+dg 10 a k by omega);omega) (by omega) (by rw [Nat.succ_mul] at h;omega);have hnd:=div_nd a b;have hfm:=fun W A n cap h0 h1 h2 h3=>zd3 W A n cap (a / b) h0 h1 h2 h3;have hz0:rd a b (zB a)=0:=rd_top a b _ hna;obtain ⟨sa,hsa'⟩:∃ s,s=zj a:=⟨_,rfl⟩;rw [← hsa'] at hsa hda ⊢;rw [← hsa] at hz0;clear hsa';have hmk:=zje sa.size (by omega);have HMU:=za hmu;have HDA:=za hda;have HOF:=za hof;have HAD:=za had;have HCM:=za hcm;have HSU:=za hsu;have HF:=za hfm;have HZ0:=za hz0;have HZZ:=za (show zj 0=(⟨#[48]⟩:ByteArray) from jP);have hza:sa.size≤1000000:=by omega
 have hz1a:1≤sa.size:=by omega
 have hna':nd 10 (a / b)≤sa.size:=by omega
 have HNA:=za hna';clear ha hb hsa hna h1a hnd hna' hmu hda hof had hcm hsu hfm hz0 hrd hx;go_enter Tryz.func101, Tryz.ntmps101;go_wp2;go_loopw [8,9] (fun r i wr=>∃ k:Nat,k≤sa.size∧i = .int .i64 ((k:Int)-1)∧r = .string (zj (rd a b k))∧wr.rowIs w.heap.size 3 sa.size (fun j=>if k≤j then yA (a / b) j else .int .i64 0)∧Below w.heap.size w wr)
  (fun _ i _=>(intOf i+1).toNat)
 case atStart=>exact ⟨sa.size,zi _,rfl,by rw [HZ0.out,HZZ.out],jz w (.int .i64 0) sa.size 3 _ rfl (fun i hi=>by rw [if_neg (by omega)]),(zA _ _).alloc (zi _) _⟩
 case round =>
  obtain ⟨k,hk,rfl,rfl,hrow,hbel⟩:=hrel;rcases Nat.eq_zero_or_pos k with h0 | h0
  ·subst h0;have hrd:Rd wr wr.heap.size (some ⟨w.heap.size,0,none⟩) sa.size (yA (a / b)):=Rd.of_row (hrow.congr fun i hi=>by rw [if_pos (by omega)]) (zi _) hrow.lt;have HR:=za hrd;have hbl:=hbel.size;have hz:=rd_zero a b;rw [hz];clear hrd hmk hrow hz;go_wp2_with fail
   refine (HF.out _ _ sa.size sa.size hz1a (by omega) HNA.out HR.out).mono ?_;rintro e w' ⟨rfl,hb9⟩;go_wp2_with fail
   go_ret3;exact ⟨rfl,zu hbel hb9 hbl⟩
  ·obtain ⟨m,rfl⟩:∃ m,k=m+1:=⟨k-1,by omega⟩;have hrow0:wr.rowIs w.heap.size 3 sa.size (dvF (a / b) m 0):=hrow.congr fun j hj=>by
    unfold dvF;by_cases e:j=m
    ·subst e;rw [if_pos rfl,if_neg (by omega)];rfl
    ·rw [if_neg e]
   have hstep:=rd_step a b m;have hdig:=rd_digit a b m hb0;have hxlt:=rd_lt a b m hb0;obtain ⟨x,hx⟩:∃ x,rd a b (m+1)*10+dg 10 a m=x:=⟨_,rfl⟩;have hmu:=fun W=>HMU.out W (m+1);have hda:=fun W=>HDA.out W m (by omega);have hof:=fun W=>HOF.out W m;have had:=fun W=>HAD.out W m;have hsu:=fun W t=>HSU.out W m t;rw [hx] at hstep hdig hxlt had;simp only [hx] at hsu;have HMU':=za hmu;have HDA':=za hda;have HOF':=za hof;have HAD':=za had;have HSU':=za hsu;have HST:=za hstep;have HDG:=za hdig;have HX:=za hx;have d10:=y9 a m;rw [show (((m+1:Nat):Int)-1)=(m:Int) by omega];clear hmu hda hof had hsu hstep hdig hrow hx;generalize dg 10 a m=D at *
   generalize hRR:rd a b (m+1)=RR at *
   clear hRR;have hwD:IntKind.u64.wrap (D:Int)=(D:Int):=by rw [IntKind.wrap_u64];omega
   go_wp2_with fail
   refine (HMU'.out _).mono ?_;rintro e w1 ⟨rfl,hb1⟩;go_wp2_with fail
   refine (HDA'.out _).mono ?_;rintro e w2 ⟨rfl,rfl⟩;go_wp2_with fail
   refine (HOF'.out _).mono ?_;rintro e w3 ⟨rfl,hb3⟩;go_wp2_with fail
   refine (HAD'.out _).mono ?_;rintro e w4 ⟨rfl,hb4⟩;have hB:=(hb1.trans (hb3.mono hb1.size)).trans (hb4.mono (Nat.le_trans hb1.size hb3.size));have hrow4:=zh hrow0 hB;have hbel4:=zu hbel hB hbel.size;clear hb1 hb3 hb4 hB hrow0 hbel;go_wp2_with fail
   go_loopw [8] (fun r wr=>∃ t:Nat,t*b≤x∧r = .string (zj (x-t*b))∧wr.rowIs w.heap.size 3 sa.size (dvF (a / b) m t)∧Below w.heap.size w wr) (fun r _=>jc r)
   case atStart=>exact ⟨0,by omega,by rw [Nat.zero_mul];rfl,hrow4,hbel4⟩
   case round =>
    clear hrow4 hbel4;obtain ⟨t,ht,rfl,hrow,hbel⟩:=hrel;have ht10:t<10:=Nat.lt_of_not_le fun h=>by
     have:=Nat.mul_le_mul_right b h;omega
    rcases Nat.lt_or_ge (x-t*b) b with hlt | hge
    ·have hq:t=x / b:=by
      have h1:x / b=t:=Nat.div_eq_of_lt_le (by rw [Nat.mul_comm] at ht;rw [Nat.mul_comm];omega) (by rw [Nat.succ_mul];omega);exact h1.symm
     have hr:x-t*b=rd a b m:=by
      rw [← HST.out];have:=Nat.div_add_mod x b;rw [← hq,Nat.mul_comm] at this;omega
     have hc:qH (x-t*b) b = -1:=by unfold qH;rw [if_pos hlt]
     have hcm:=fun W=>HCM.out W (x-t*b);rw [hc] at hcm;have HC':=za hcm;have HRR:=za hr;have HTT:=za (hq.trans HDG.out);clear hq hr hc hcm;go_wp2_with fail
     refine (HC'.out _).mono ?_;rintro e w5 ⟨rfl,rfl⟩;go_wp2_with fail
     refine ⟨⟨m,by omega,rfl,by rw [HRR.out],hrow.congr fun j hj=>?_,hbel⟩,by simp [intOf] <;> omega⟩;unfold dvF;by_cases e:j=m
     ·subst e;rw [if_pos rfl,if_pos (zi _),HTT.out];rfl
     ·rw [if_neg e];by_cases e2:m+1≤j
      ·rw [if_pos e2,if_pos (by omega)]
      ·rw [if_neg e2,if_neg (by omega)]
    ·have hc:0≤qH (x-t*b) b:=by unfold qH;rw [if_neg (by omega)];split <;> decide
     have hle:(t+1)*b≤x:=by rw [Nat.succ_mul];omega
     have hcm:=fun W=>HCM.out W (x-t*b);have hsu:=fun W=>HSU'.out W t hle;have hse:x-t*b-b=x-(t+1)*b:=by rw [Nat.succ_mul];omega
     rw [hse] at hsu;have hml:x-(t+1)*b<x-t*b:=by omega
     have hd:decide (0≤qH (x-t*b) b)=true:=decide_eq_true hc;generalize qH (x-t*b) b=C at *
     have HC':=za hcm;have HS':=za hsu;have hcell:=hrow.cell (i:=m) (by omega);have hcell2:wr.cell? ⟨w.heap.size,m,none⟩=some (.int .i64 (t:Int)):=hcell.trans (by unfold dvF;rw [if_pos rfl]);have hfr:=hrow.frozen m;have hrl:=hrow.lt;clear hcell hcm hsu hc;go_wp2_with fail
     refine (HC'.out _).mono ?_;rintro e w5 ⟨rfl,rfl⟩;go_wp2_with fail
     refine (HS'.out _).mono ?_;rintro e w6 ⟨rfl,hb6⟩;have hrow6:=zh hrow hb6;have hcell6:w6.cell? ⟨w.heap.size,m,none⟩=some (.int .i64 (t:Int)):=(hrow6.cell (i:=m) (by omega)).trans (by unfold dvF;rw [if_pos rfl]);have hfr6:=hrow6.frozen m;have hset:=hrow6.set m (.int .i64 ((t+1:Nat):Int));have hset2:(w6.setCell ⟨w.heap.size,m,none⟩ (.int .i64 ((t+1:Nat):Int))).rowIs w.heap.size 3 sa.size (dvF (a / b) m (t+1)):=hset.congr fun j hj=>by
      unfold dvF;by_cases e:j=m
      ·rw [if_pos e,if_pos e]
      ·rw [if_neg e,if_neg e,if_neg e]
     have hbel6:=(zu hbel hb6 hbel.size).setCell (p:=⟨w.heap.size,m,none⟩) (zi _) (.int .i64 ((t+1:Nat):Int));have HS2:=za hset2;have HB2:=za hbel6;have hi1:(m:Int)<(sa.size:Int):=by omega
     have hi2:m<sa.size:=by omega
     have hi3:(0:Int)≤(m:Int):=by omega
     clear hcell2 hfr hset hset2 hbel6 hb6 hrow;go_wp2_with fail
     exact ⟨⟨t+1,hle,rfl,HS2.out,HB2.out⟩,by rw [zfh,zfh];exact hml⟩
theorem zhg (w:World) (a b:Nat) (ha:zB a≤1000000) (hb:zB b≤1000000) :
  Calls Tryz.prog 103 #[.string (zj a),.string (zj b)] w fun e w'=>e = .returned (.string (zj (Nat.gcd a b)))∧Below w.heap.size w w':=by
 have hdv:=fun W x y h1 h2 h3=>zdT W x y h1 h2 h3;have HDV:=za hdv;clear hdv;have HG:Hid (∀ x y,0<y→Nat.gcd y (x%y)=Nat.gcd x y):=za fun x y h=>by rw [Nat.gcd_comm y,← Nat.gcd_rec,Nat.gcd_comm]
 go_enter Tryz.func103, Tryz.ntmps103;go_wp2_with fail
 go_loopw [0,1] (fun s t wr=>∃ x y:Nat,s = .string (zj x)∧t = .string (zj y)∧zB x≤1000000∧zB y≤1000000∧Nat.gcd x y=Nat.gcd a b∧Below w.heap.size w wr) (fun _ t _=>jc t)
 case atStart=>exact ⟨a,b,rfl,rfl,ha,hb,rfl,zA _ _⟩
 case round =>
  clear ha hb;obtain ⟨x,y,rfl,rfl,hx,hy,hg,hbel⟩:=hrel;rcases Nat.eq_zero_or_pos y with h0 | h0
  ·have hbe:((zj y).toList==[48])=true:=by rw [beq_iff_eq];exact (zdH y).2 h0
   have hxg:x=Nat.gcd a b:=by rw [← hg,h0,Nat.gcd_zero_right]
   have HXG:=za hxg;have hb3:((zj y).toList != [48])=false:=by simp [bne,hbe]
   clear hg hxg h0;go_wp2_with fail
   go_ret;exact ⟨by rw [HXG.out];rfl,hbel⟩
  ·have hbe:((zj y).toList==[48])=false:=beq_eq_false_iff_ne.2 fun e=>by have:=(zdH y).1 e;omega
   have hml:x%y<y:=Nat.mod_lt _ h0;have hgg:=HG.out x y h0;rw [hg] at hgg;have HGG:=za hgg;have hdy:zB (x%y)≤1000000:=by have:=yz (Nat.le_of_lt hml);omega
   have hdv:=fun W=>HDV.out W x y hx hy h0;have HD':=za hdv;generalize x / y=Q at *
   have hb3:((zj y).toList != [48])=true:=by simp [bne,hbe]
   clear hdv hg hgg;go_wp2_with fail
   refine (HD'.out _).mono ?_;rintro e w1 ⟨rfl,hb1⟩;go_wp2_with fail
   exact ⟨⟨y,x%y,rfl,rfl,hy,hdy,HGG.out,zu hbel hb1 hbel.size⟩,by rw [zfh,zfh];exact hml⟩
end Go.Proofs.YtoljkoifgnmbgaaGreatDoor
end
section
open Go Go.RowKit Cs
namespace Go.Proofs.YtoljkoifgnmbgaaGreatDoor
theorem zeB (w:World) (s a b:ByteArray) (k:Nat) (hsz:s.size≤1000000) (hk:k≤s.size) (hne:∀ j (h:j<s.size),j<k→(s[j]'h).toNat≠47)
  (hend:(k=s.size∧a=s∧b=⟨#[49]⟩)∨(∃ h:k<s.size,(s[k]'h).toNat=47∧s.extract 0 k=a∧s.extract (k+1) s.size=b)) :
  Calls Tryz.prog 97 #[.string s] w fun e w'=>e = .returned (.tuple #[.string a,.string b])∧Below w.heap.size w w':=by
 have HNE:=za hne;have HEND:=za hend;clear hne hend;go_enter Tryz.func97, Tryz.ntmps97;go_wp2_with fail
 go_loopw [4] (fun t wr=>∃ i:Nat,i≤k∧t = .int .i64 (i:Int)∧wr=w) (fun t _=>s.size-(intOf t).toNat)
 case atStart=>exact ⟨0,Nat.zero_le _,rfl,rfl⟩
 case round =>
  obtain ⟨i,hi,rfl,rfl⟩:=hrel;rcases Nat.lt_or_ge i k with hik | hik
  ·have hlt:i<s.size:=by omega
   have hb:=HNE.out i hlt hik;have hb2:(((s[i]'hlt).toNat:Int)==47)=false:=beq_eq_false_iff_ne.2 (by exact_mod_cast hb);have d1:decide ((i:Int)<(s.size:Int))=true:=decide_eq_true (by omega);have i0:(0:Int)≤(i:Int):=by omega
   have i1:(i:Int)<(s.size:Int):=by omega
   clear hb;go_wp2_with fail
   exact ⟨⟨i+1,by omega,by go_num,by first | rfl | trivial⟩,by simp [intOf];omega⟩
  ·obtain rfl:i=k:=by omega
   rcases HEND.out with ⟨h1,h2,h3⟩ | ⟨hlt,h1,h2,h3⟩
   ·have d1:decide ((i:Int)<(s.size:Int))=false:=decide_eq_false (by omega);have d2:¬ i<s.size:=by omega
    have d3:¬ (i:Int)<(s.size:Int):=by omega
    have d4:(s.size:Int)≤(i:Int):=by omega
    subst h2;subst h3;clear h1 HNE;go_wp2_with fail
    go_ret2;exact ⟨rfl,zA _ _⟩
   ·have hb2:(((s[i]'hlt).toNat:Int)==47)=true:=by rw [h1];rfl
    have d1:decide ((i:Int)<(s.size:Int))=true:=decide_eq_true (by omega);have i0:(0:Int)≤(i:Int):=by omega
    have i1:(i:Int)<(s.size:Int):=by omega
    have i2:(i:Int)≤(s.size:Int):=by omega
    have i3:(i:Int)+1≤(s.size:Int):=by omega
    have i4:(0:Int)≤(i:Int)+1:=by omega
    have i5:decide ((0:Int)≤(i:Int))=true:=decide_eq_true i0;subst h2;subst h3;clear h1;go_wp2_with fail
    go_region
    all_goals
     go_wp2_with fail
     go_ret2;exact ⟨rfl,(zA _ _).drew⟩
theorem zk4 (V j:Nat) (h:j<(zj V).size):((zj V)[j]'h).toNat≠47:=by rw [zcC];omega
def PT (s:ByteArray) (n d:Nat):Prop:=(s=zj n∧d=1)∨s=zj n++⟨#[47]⟩++zj d
theorem PT.read {s:ByteArray} {q:Rat} (h:rdO s=some q):PT s (qn q) q.den:=by
 obtain ⟨_,e,_,_⟩:=zhi h;unfold jd at e;by_cases hd:q.den=1
 ·rw [if_pos hd] at e;exact .inl ⟨e,hd⟩
 ·rw [if_neg hd] at e;exact .inr e
theorem zbN (w:World) (s:ByteArray) (n d:Nat) (h:PT s n d) (hz:s.size≤1000000) :
  Calls Tryz.prog 97 #[.string s] w fun e w'=>e = .returned (.tuple #[.string (zj n),.string (zj d)])∧Below w.heap.size w w':=by
 rcases h with ⟨e,hd⟩ | e
 ·subst e;exact zeB w _ _ _ (zj n).size (by omega) (zi _) (fun j h _=>zk4 _ j h) (.inl ⟨rfl,rfl,by rw [hd];decide +kernel⟩)
 ·have hc:=zkx n d;have hsl:=zeq n d;unfold yl yv at hc;rw [hsl,if_neg (by omega),if_neg (by omega),Int.toNat_natCast] at hc;have hsize:(zj n++(⟨#[47]⟩:ByteArray)++zj d).size=(zj n).size+1+(zj d).size:=by rw [ByteArray.size_append,ByteArray.size_append];rfl
  have h1:=zce d;have h2:=qO d;subst e;refine zeB w _ _ _ (zj n).size (by omega) (by omega) (fun j h hj=>?_) (.inr ⟨by omega,?_,hc.1,hc.2⟩)
  ·have e2:(zj n++(⟨#[47]⟩:ByteArray)++zj d)[j]'h=(zj n)[j]'hj:=by
    rw [ByteArray.getElem_append_left (by rw [ByteArray.size_append];omega),ByteArray.getElem_append_left hj]
   rw [e2];exact zk4 _ j hj
  ·have e2:(zj n++(⟨#[47]⟩:ByteArray)++zj d)[(zj n).size]'(by omega)=47:=by
    rw [ByteArray.getElem_append_left (by rw [ByteArray.size_append];show _<_+1;omega),ByteArray.getElem_append_right (zi _)];simp;rfl
   rw [e2];rfl
theorem zfy (w:World) (a b:Nat) (ha:zB a≤1000000) (hb:zB b≤1000000) (hb0:0<b) :
  Calls Tryz.prog 143 #[.string (zj a),.string (zj b)] w fun e w'=>e = .returned (.string (zj (a / b)))∧Below w.heap.size w w':=by
 have hdv:=fun W=>zdT W a b ha hb hb0;have HDV:=za hdv;clear hdv;generalize a / b=Q at *
 generalize a%b=R at *
 go_enter Tryz.func143, Tryz.ntmps143;go_wp2_with fail
 refine (HDV.out _).mono ?_;rintro e w1 ⟨rfl,hb1⟩;go_wp2_with fail
 go_ret;exact ⟨rfl,hb1⟩
theorem lcm_over (d e:Nat) (hd:0<d):d*e / Nat.gcd d e / d=e / Nat.gcd d e:=by
 rw [Nat.mul_div_assoc _ (Nat.gcd_dvd_right _ _),Nat.mul_comm,Nat.mul_div_cancel _ hd]
theorem pB (d e:Nat) (he:0<e):d*e / Nat.gcd d e / e=d / Nat.gcd d e:=by
 rw [Nat.mul_comm d e,Nat.mul_div_assoc _ (Nat.gcd_dvd_left _ _),Nat.mul_comm,Nat.mul_div_cancel _ he]
theorem zld (w:World) (sa sb:ByteArray) (n d m e:Nat) (ha:PT sa n d) (hb:PT sb m e) (hza:sa.size≤1000) (hzb:sb.size≤1000) (hn:zB n≤100) (hd:zB d≤100) (hm:zB m≤100) (he:zB e≤100) (hd0:0<d) (he0:0<e) :
  Calls Tryz.prog 100 #[.string sa,.string sb] w fun x w'=>x = .returned (.tuple #[.string (zj (n*(e / Nat.gcd d e))),.string (zj (m*(d / Nat.gcd d e)))])∧Below w.heap.size w w':=by
 have hg0:0<Nat.gcd d e:=Nat.gcd_pos_of_pos_left _ hd0;have hgd:Nat.gcd d e≤d:=Nat.gcd_le_left _ hd0;have hml:zB (d*e)≤200:=by
  refine zbW _ _ ?_ (by omega);have h1:d<10^100:=Nat.lt_of_lt_of_le (zfL d) (Nat.pow_le_pow_right (by decide) hd);have h2:e<10^100:=Nat.lt_of_lt_of_le (zfL e) (Nat.pow_le_pow_right (by decide) he);rw [show 200=100+100 from rfl,Nat.pow_add];exact Nat.mul_lt_mul'' h1 h2
 have q1:=lcm_over d e hd0;have q2:=pB d e he0;have hpa:=fun W=>zbN W sa n d ha (by omega);have hpb:=fun W=>zbN W sb m e hb (by omega);have hmu:=fun W=>zbK W d e (by omega) (by omega);have hgc:=fun W=>zhg W d e (by omega) (by omega);have hov:=fun W=>zfy W (d*e) (Nat.gcd d e) (by omega) (by have:=yz hgd;omega) hg0;have hL:zB (d*e / Nat.gcd d e)≤200:=Nat.le_trans (yz (Nat.div_le_self _ _)) hml;have ho1:=fun W=>zfy W (d*e / Nat.gcd d e) d (by omega) (by omega) hd0;have ho2:=fun W=>zfy W (d*e / Nat.gcd d e) e (by omega) (by omega) he0;rw [q1] at ho1;rw [q2] at ho2;have hm1:=fun W=>zbK W n (e / Nat.gcd d e) (by omega) (by have:=yz (Nat.div_le_self e (Nat.gcd d e));omega);have hm2:=fun W=>zbK W m (d / Nat.gcd d e) (by omega) (by have:=yz (Nat.div_le_self d (Nat.gcd d e));omega);have HPA:=za hpa;have HPB:=za hpb;have HMU:=za hmu;have HGC:=za hgc;have HOV:=za hov;have HO1:=za ho1;have HO2:=za ho2;have HM1:=za hm1;have HM2:=za hm2;clear hpa hpb hmu hgc hov ho1 ho2 hm1 hm2 q1 q2 hg0 hgd hml hL ha hb hn hd hm he hd0 he0 hza hzb;go_enter Tryz.func100, Tryz.ntmps100;go_wp2_with fail
 refine (HPA.out _).mono ?_;rintro x w1 ⟨rfl,hb1⟩;go_wp2_with fail
 refine (HPB.out _).mono ?_;rintro x w2 ⟨rfl,hb2⟩;have hb:=zu hb1 hb2 hb1.size;go_wp2_with fail
 refine (HMU.out _).mono ?_;rintro x w3 ⟨rfl,hb3⟩;replace hb:=zu hb hb3 hb.size;go_wp2_with fail
 refine (HGC.out _).mono ?_;rintro x w4 ⟨rfl,hb4⟩;replace hb:=zu hb hb4 hb.size;go_wp2_with fail
 refine (HOV.out _).mono ?_;rintro x w5 ⟨rfl,hb5⟩;replace hb:=zu hb hb5 hb.size;go_wp2_with fail
 refine (HO1.out _).mono ?_;rintro x w6 ⟨rfl,hb6⟩;replace hb:=zu hb hb6 hb.size;go_wp2_with fail
 refine (HM1.out _).mono ?_;rintro x w7 ⟨rfl,hb7⟩;replace hb:=zu hb hb7 hb.size;go_wp2_with fail
 refine (HO2.out _).mono ?_;rintro x w8 ⟨rfl,hb8⟩;replace hb:=zu hb hb8 hb.size;go_wp2_with fail
 refine (HM2.out _).mono ?_;rintro x w9 ⟨rfl,hb9⟩;replace hb:=zu hb hb9 hb.size;go_wp2_with fail
 go_ret2;exact ⟨rfl,hb⟩
structure TxAt (n:Nat) (la:List ByteArray) (pl:List Pr):Prop where
 ln:la.length=n+1
 pt:∀ v,1≤v→v≤n→PT (la.getD v ⟨#[]⟩) (pl.getD v (0,0)).1 (qd (pl.getD v (0,0)).2)
 sz:∀ v,1≤v→v≤n→(la.getD v ⟨#[]⟩).size≤1000
 dn:∀ v,1≤v→v≤n→zB (pl.getD v (0,0)).1≤100
 dd:∀ v,1≤v→v≤n→zB (qd (pl.getD v (0,0)).2)≤100
theorem zlf (w:World) (n:Nat) (hn:n≤128) (la lb:List ByteArray) (pl ph:List Pr) (Al Ah:Option Addr) (cl ch:Nat) (hA:TxAt n la pl) (hB:TxAt n lb ph) (hrl:Rd w w.heap.size Al (n+1) (qW la)) (hrh:Rd w w.heap.size Ah (n+1) (qW lb)) :
  Calls Tryz.prog 54 #[.slice Al (n+1) cl,.slice Ah (n+1) ch] w fun e w'=>e = .returned (.bool (decide (16384<zG pl n+zG ph n)))∧Below w.heap.size w w':=by
 obtain ⟨ba,oa,rfl,hba,hca⟩:=hrl (by omega);obtain ⟨bh,oh,rfl,hbh,hch⟩:=hrh (by omega);have HCA:=za hca;have HCH:=za hch;have hlen:∀ x,zB x≤100→nd 2 x≤400:=fun x h=>by have:=od x 100 h;omega
 have HLN:=za hlen;have HA:=za hA;have HB:=za hB;clear hca hch hlen hA hB hrl hrh;go_enter Tryz.func54, Tryz.ntmps54;go_wp2_with fail
 go_loopw [5,6] (fun s t wr=>∃ k:Nat,k≤n∧t = .int .i64 ((k:Int)+1)∧s = .int .i64 ((zG pl k+zG ph k:Nat):Int)∧zG pl k+zG ph k≤k*1600∧Below w.heap.size w wr) (fun _ t _=>n+1-(intOf t).toNat)
 case atStart=>exact ⟨0,Nat.zero_le _,rfl,rfl,Nat.zero_le _,zA _ _⟩
 case round =>
  obtain ⟨k,hk,rfl,rfl,hsm,hbel⟩:=hrel;rcases Nat.lt_or_ge k n with hlt | hge
  ·have c1:=(hbel.cell (p:=⟨ba,oa+(k+1),none⟩) hba).trans (HCA.out (k+1) (by omega));have c2:=(hbel.cell (p:=⟨bh,oh+(k+1),none⟩) hbh).trans (HCH.out (k+1) (by omega));have p1:=HA.out.pt (k+1) (by omega) (by omega);have p2:=HB.out.pt (k+1) (by omega) (by omega);have z1:=HA.out.sz (k+1) (by omega) (by omega);have z2:=HB.out.sz (k+1) (by omega) (by omega);have n1:=HA.out.dn (k+1) (by omega) (by omega);have n2:=HA.out.dd (k+1) (by omega) (by omega);have n3:=HB.out.dn (k+1) (by omega) (by omega);have n4:=HB.out.dd (k+1) (by omega) (by omega);have hs1:zG pl (k+1)=zG pl k+(nd 2 (pl.getD (k+1) (0,0)).1+nd 2 (qd (pl.getD (k+1) (0,0)).2)):=rfl;have hs2:zG ph (k+1)=zG ph k+(nd 2 (ph.getD (k+1) (0,0)).1+nd 2 (qd (ph.getD (k+1) (0,0)).2)):=rfl;unfold qW at c1 c2;generalize la.getD (k+1) ⟨#[]⟩=sa at *
   generalize lb.getD (k+1) ⟨#[]⟩=sb at *
   generalize (pl.getD (k+1) (0,0)).1=x1 at *
   generalize qd (pl.getD (k+1) (0,0)).2=x2 at *
   generalize (ph.getD (k+1) (0,0)).1=x3 at *
   generalize qd (ph.getD (k+1) (0,0)).2=x4 at *
   have hpa:=fun W=>zbN W sa x1 x2 p1 (by omega);have hpb:=fun W=>zbN W sb x3 x4 p2 (by omega);have hl1:=fun W=>zeR W x1 (by omega);have hl2:=fun W=>zeR W x2 (by omega);have hl3:=fun W=>zeR W x3 (by omega);have hl4:=fun W=>zeR W x4 (by omega);have y1:=HLN.out x1 n1;have y2:=HLN.out x2 n2;have y3:=HLN.out x3 n3;have y4:=HLN.out x4 n4;have HPA:=za hpa;have HPB:=za hpb;have HL1:=za hl1;have HL2:=za hl2;have HL3:=za hl3;have HL4:=za hl4;have HS1:=za hs1;have HS2:=za hs2;have HBA:=za hba;have HBH:=za hbh;clear hpa hpb hl1 hl2 hl3 hl4 p1 p2 z1 z2 n1 n2 n3 n4 hs1 hs2;generalize nd 2 x1=y1v at *
   generalize nd 2 x2=y2v at *
   generalize nd 2 x3=y3v at *
   generalize nd 2 x4=y4v at *
   obtain ⟨S,hS⟩:∃ S,zG pl k+zG ph k=S:=⟨_,rfl⟩;have hS':zG pl (k+1)+zG ph (k+1)=S+y1v+y2v+y3v+y4v:=by rw [HS1.out,HS2.out];omega
   rw [hS] at hsm ⊢;have HSS:=za hS';have hSb:S≤204800:=by omega
   have d1:decide ((k:Int)+1<(n:Int)+1)=true:=decide_eq_true (by omega);have d2:k+1<n+1:=by omega
   have i0:(0:Int)≤(k:Int)+1:=by omega
   have i1:(k:Int)+1<(n:Int)+1:=by omega
   clear hS hS';go_wp2_with fail
   refine (HPA.out _).mono ?_;rintro e w1 ⟨rfl,hb1⟩;have hB1:=zu hbel hb1 hbel.size;have c2':=zF hb1 (Nat.lt_of_lt_of_le HBH.out hbel.size) c2;clear c1 c2;go_wp2_with fail
   refine (HPB.out _).mono ?_;rintro e w2 ⟨rfl,hb2⟩;have hB2:=zu hB1 hb2 hB1.size;clear c2' hb1 hb2 hB1;go_wp2_with fail
   refine (HL1.out _).mono ?_;rintro e w3 ⟨rfl,hb3⟩;have hB3:=zu hB2 hb3 hB2.size;go_wp2_with fail
   refine (HL2.out _).mono ?_;rintro e w4 ⟨rfl,hb4⟩;have hB4:=zu hB3 hb4 hB3.size;go_wp2_with fail
   refine (HL3.out _).mono ?_;rintro e w5 ⟨rfl,hb5⟩;have hB5:=zu hB4 hb5 hB4.size;go_wp2_with fail
   refine (HL4.out _).mono ?_;rintro e w6 ⟨rfl,hb6⟩;have hB6:=zu hB5 hb6 hB5.size;clear hb3 hb4 hb5 hb6 hB2 hB3 hB4 hB5 hbel;go_wp2_with fail
   refine ⟨⟨k+1,by omega,by go_num,?_,by rw [HSS.out,Nat.succ_mul];omega,hB6⟩,by simp [intOf] <;> omega⟩;rw [HSS.out]
   go_num
  ·obtain rfl:k=n:=by omega
   have d1:decide ((k:Int)+1<(k:Int)+1)=false:=decide_eq_false (by omega);obtain ⟨S,hS⟩:∃ S,zG pl k+zG ph k=S:=⟨_,rfl⟩;rw [hS];have HSS:=za hS;clear hS;have hd:decide (16384<(S:Int))=decide (16384<S):=by
    by_cases h:16384<S
    ·rw [decide_eq_true h,decide_eq_true (by exact_mod_cast h)]
    ·rw [decide_eq_false h,decide_eq_false (by exact_mod_cast h)]
   go_wp2_with fail
   go_ret;exact ⟨by rw [HSS.out,← hd];rfl,hbel⟩
end Go.Proofs.YtoljkoifgnmbgaaGreatDoor
end
