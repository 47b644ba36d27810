import Derived.Test.YtmhllppjcilllaaGreatDoorRH
import Derived.Test.YtmhllppjcilllaaGreatDoorD1
import Derived.WalkMore
set_option linter.unusedSimpArgs false
set_option linter.unusedVariables false
set_option maxRecDepth 100000
set_option maxHeartbeats 4000000
section
open Go Go.RowKit Cs
namespace Go.Proofs.YtmhllppjcilllaaGreatDoor
theorem form_nil (w:World):Calls Tryz.prog 148 #[.slice none 0 0] w fun e w'=>e = .returned (.string (dec 0))∧Below w.heap.size w w':=by
 obtain ⟨ti,hi,hz0,hz1,hz2⟩:=info_parts info_u8;have hz:=dec_zero;rw [hz]
 have hmk:∀ u:World,(Instr.makeSlice 139 (.int .i64 0) (.int .i64 0)).run Tryz.prog u = .ok (.slice (some ⟨u.heap.size,0,none⟩) 0 0) (u.alloc (.cells (madeCells #[.int .u8 0] 0) 5)):=fun u =>
  run_make_row 139 5 ti (.int .u8 0) Tryz.underlying139 hi hz0 hz1 rfl .i64 .i64 0 (by rw [hz2];omega) (by omega) u
 go_enter Tryz.func148, Tryz.ntmps148
 go_wp2_with fail
 go_loop [3] (fun t=>t = .int .i64 0) (fun _=>0)
 case atStart=>rfl
 case round =>
  subst hrel
  go_wp2_with fail
  go_loopw [4,5] (fun o i wr=>o = .slice (some ⟨w.heap.size,0,none⟩) 0 0∧i = .int .i64 (-1)∧Below w.heap.size w wr) (fun _ _ _=>0)
  case atStart=>exact ⟨rfl,rfl,(zqr _ _).alloc (zqn _) _⟩
  case round =>
   obtain ⟨rfl,rfl,hbel⟩:=hrel
   go_wp2_with fail
   go_ret
   exact ⟨rfl,hbel⟩
theorem rof_any (w:World) (V:Nat) (hV:V<18446744073709551616):Calls Tryz.prog 109 #[.int .u64 (V:Int)] w fun e w'=>e = .returned (.string (dec V))∧Below w.heap.size w w':=by
 obtain ⟨ti,hi,hz0,hz1,hz2⟩:=info_parts info_int;have hfm:=fun W A n cap h0 h1 h2 h3=>form_pos W A n cap V h0 h1 h2 h3;have hn20:nd 10 V≤20:=(nd10_pow V 20).2 (Nat.lt_of_lt_of_le hV (by decide));have HF:=zqh hfm;clear hfm
 go_enter Tryz.func109, Tryz.ntmps109
 go_wp2
 go_loopw [0,3] (fun x l wr=>∃ k:Nat,k≤nd 10 V∧x = .int .u64 ((V / 10^k:Nat):Int)∧wr.ownsRow w.heap.size 3 1 l k (dgi V k)∧(k=0→l = .slice none 0 0)∧Below w.heap.size w wr)
  (fun x _ _=>(intOf x).toNat)
 case atStart=>exact ⟨0,Nat.zero_le _,by rw [Nat.pow_zero,Nat.div_one],World.ownsRow_nil _ _ _ _,fun _=>rfl,zqr _ _⟩
 case round =>
  obtain ⟨k,hk,rfl,hown,hnil,hbel⟩:=hrel;have hszw:=hbel.size;obtain ⟨Q,hQ⟩:∃ Q,V / 10^k=Q:=⟨_,rfl⟩
  have hQ1:V / 10^(k+1)=Q / 10:=by rw [Nat.pow_succ,← Nat.div_div_eq_div_mul,hQ]
  have hQ2:dg 10 V k=Q%10:=by unfold dg;rw [hQ]
  have hQV:Q≤V:=by rw [← hQ];exact Nat.div_le_self _ _
  rcases Nat.eq_zero_or_pos Q with h0 | h0
  ·have hk2:nd 10 V≤k:=by
    rw [nd10_pow];rw [h0] at hQ
    exact Nat.lt_of_not_le fun h=>by
     have:=Nat.div_pos h (Nat.pow_pos (show 0<10 by decide));omega
   obtain rfl:k=nd 10 V:=by omega
   rw [hQ,h0];rcases Nat.eq_zero_or_pos (nd 10 V) with hz | hz
   ·have hV0:V=0:=by
     have:=(nd10_pow V 0).1 (by omega)
     simpa using this
    obtain rfl:u3 = .slice none 0 0:=hnil hz;subst hV0;clear hown HF
    go_wp2_with fail
    refine (form_nil _).mono ?_;rintro e w' ⟨rfl,hb9⟩
    go_wp2_with fail
    go_ret
    exact ⟨rfl,zqx hbel hb9 hszw⟩
   ·obtain ⟨go',cp,rfl,hgo1,hgo2⟩:=ownsForm hown hz;have hrd:Rd wr wr.heap.size (some ⟨go',0,none⟩) (nd 10 V) (dgF V):=Rd.of_own hown fun i hi=>dgi_get _ _ _ hi;have HR:=zqh hrd;clear hrd hown
    go_wp2_with fail
    refine (HF.out _ _ (nd 10 V) cp hz (by omega) (zqn _) HR.out).mono ?_;rintro e w' ⟨rfl,hb9⟩
    go_wp2_with fail
    go_ret
    exact ⟨rfl,zqx hbel hb9 hszw⟩
  ·have hk3:k<nd 10 V:=Nat.lt_of_not_le fun h=>by
    have:=(nd10_pow V k).1 h;have:=Nat.div_eq_of_lt this;omega
   have hlt0:∀ k,u3.ownBlock=some k→w.heap.size≤k:=fun k hk=>(hown.lt k hk).1;rw [hQ]
   have e1:((Q:Int)%10)=((dg 10 V k:Nat):Int):=by rw [hQ2];omega
   have HQ1:=zqh hQ1;have HE:=zqh e1;clear hQ hQ1 hQ2 e1
   go_wp2_with (at_builtin;go_loud (refine wpList_append_own _ rfl _ _ 26 rfl w.heap.size 3 ti (.int .i64 0) 1 8 Tryz.underlying26 hi hz0 hz1 hz2 rfl (by decide) _ _ _ rfl (hown.alloc _) ⟨wr.heap.size,0,none⟩ 1 1 [.int .i64 ((Q:Int)%10)] rfl rfl newOne oneInt (by unfold maxLen;omega) (by omega) (by simp;omega) ?_;intro v' w3 hown3 hgr3 _))
   have hbel3:=(hbel.alloc hbel.size _).grown hgr3 (by simp;omega) (fun k e=>hlt0 k e);rw [HE.out,← dgi_succ] at hown3;exact ⟨⟨k+1,by omega,by rw [HQ1.out];simp,hown3,fun h=>absurd h (by omega),hbel3⟩,by simp [intOf];omega⟩
noncomputable def decV (v:Value):Nat:=open Classical in if h:∃ n,v = .string (dec n) then h.choose else 0
theorem decV_dec (n:Nat):decV (.string (dec n))=n:=by
 have h:∃ m,Value.string (dec n) = .string (dec m):=⟨n,rfl⟩;unfold decV;rw [dif_pos h];have:=h.choose_spec;injection this with this;exact (dec_inj this).symm
theorem dec10:dec 10=⟨#[49,48]⟩:=by decide +kernel
def dvF (Q m t j:Nat):Value:=if j=m then .int .i64 (t:Int) else if m+1≤j then dgF Q j else .int .i64 0
theorem rdiv_any (w:World) (a b:Nat) (ha:decN a≤1000000) (hb:decN b≤1000000) (hb0:0<b) :
  Calls Tryz.prog 147 #[.string (dec a),.string (dec b)] w fun e w'=>e = .returned (.tuple #[.string (dec (a / b)),.string (dec (a%b)),.bool true])∧Below w.heap.size w w':=by
 have hsa:=dec_size a;have hna:=nd_decN a;have h1a:=decN_one a
 have hbne:((dec b).toList==[48])=false:=beq_eq_false_iff_ne.2 fun e=>by have:=(dec_is0 b).1 e;omega
 have hrd:∀ k,decN (rd a b k)≤1000001:=fun k=>by
  have h:rd a b k<b:=Nat.mod_lt _ hb0;have:=decN_mono (Nat.le_of_lt h);omega
 have hx:∀ k,decN (rd a b (k+1)*10+dg 10 a k)≤1000002:=fun k=>by
  have h:=rd_lt a b k hb0;have h2:=decN_mono (Nat.le_of_lt h)
  have h3:decN (10*b)≤1000001:=by
   refine decN_le _ _ ?_ (by omega);have:=lt_decN b
   calc 10*b<10*10^decN b:=by omega
    _=10^(decN b+1):=by rw [Nat.pow_succ];omega
    _≤10^1000001:=Nat.pow_le_pow_right (by decide) (by omega)
  omega
 have hmu:=fun W k=>rmul_any W (rd a b k) 10 (by have:=hrd k;omega) (by decide +kernel);rw [dec10] at hmu;have hda:=fun W i hi=>rdigit_any W a i (by omega) hi;have hof:=fun W k=>rof_any W (dg 10 a k) (by have:=dg10_lt a k;omega);have had:=fun W k=>radd_any W (rd a b (k+1)*10) (dg 10 a k) (by have:=hx k;have:=decN_mono (show rd a b (k+1)*10≤rd a b (k+1)*10+dg 10 a k by omega);omega) (by have:=hx k;have:=decN_mono (show dg 10 a k≤rd a b (k+1)*10+dg 10 a k by omega);omega);have hcm:=fun W x=>rcmp_any W x b;have hsu:=fun W k t (h:(t+1)*b≤rd a b (k+1)*10+dg 10 a k)=>rsub_any W (rd a b (k+1)*10+dg 10 a k-t*b) b (by have:=hx k;have:=decN_mono (show rd a b (k+1)*10+dg 10 a k-t*b≤rd a b (k+1)*10+dg 10 a k by omega);omega) (by omega) (by rw [Nat.succ_mul] at h;omega);have hnd:=div_nd a b;have hfm:=fun W A n cap h0 h1 h2 h3=>form_pos W A n cap (a / b) h0 h1 h2 h3;have hz0:rd a b (decN a)=0:=rd_top a b _ hna;obtain ⟨sa,hsa'⟩:∃ s,s=dec a:=⟨_,rfl⟩;rw [← hsa'] at hsa hda ⊢;rw [← hsa] at hz0;clear hsa';have hmk:=rmk_int sa.size (by omega);have HMU:=zqh hmu;have HDA:=zqh hda;have HOF:=zqh hof;have HAD:=zqh had;have HCM:=zqh hcm;have HSU:=zqh hsu;have HF:=zqh hfm;have HZ0:=zqh hz0;have HZZ:=zqh (show dec 0=(⟨#[48]⟩:ByteArray) from dec_zero)
 have hza:sa.size≤1000000:=by omega
 have hz1a:1≤sa.size:=by omega
 have hna':nd 10 (a / b)≤sa.size:=by omega
 have HNA:=zqh hna';clear ha hb hsa hna h1a hnd hna' hmu hda hof had hcm hsu hfm hz0 hrd hx
 go_enter Tryz.func147, Tryz.ntmps147
 go_wp2
 go_loopw [8,9] (fun r i wr=>∃ k:Nat,k≤sa.size∧i = .int .i64 ((k:Int)-1)∧r = .string (dec (rd a b k))∧wr.rowIs w.heap.size 3 sa.size (fun j=>if k≤j then dgF (a / b) j else .int .i64 0)∧Below w.heap.size w wr)
  (fun _ i _=>(intOf i+1).toNat)
 case atStart=>exact ⟨sa.size,zqn _,rfl,by rw [HZ0.out,HZZ.out],rowMade w (.int .i64 0) sa.size 3 _ rfl (fun i hi=>by rw [if_neg (by omega)]),(zqr _ _).alloc (zqn _) _⟩
 case round =>
  obtain ⟨k,hk,rfl,rfl,hrow,hbel⟩:=hrel;rcases Nat.eq_zero_or_pos k with h0 | h0
  ·subst h0;have hrd:Rd wr wr.heap.size (some ⟨w.heap.size,0,none⟩) sa.size (dgF (a / b)):=Rd.of_row (hrow.congr fun i hi=>by rw [if_pos (by omega)]) (zqn _) hrow.lt;have HR:=zqh hrd;have hbl:=hbel.size;have hz:=rd_zero a b;rw [hz];clear hrd hmk hrow hz
   go_wp2_with fail
   refine (HF.out _ _ sa.size sa.size hz1a (by omega) HNA.out HR.out).mono ?_;rintro e w' ⟨rfl,hb9⟩
   go_wp2_with fail
   go_ret3
   exact ⟨rfl,zqx hbel hb9 hbl⟩
  ·obtain ⟨m,rfl⟩:∃ m,k=m+1:=⟨k-1,by omega⟩
   have hrow0:wr.rowIs w.heap.size 3 sa.size (dvF (a / b) m 0):=hrow.congr fun j hj=>by
    unfold dvF;by_cases e:j=m
    ·subst e;rw [if_pos rfl,if_neg (by omega)];rfl
    ·rw [if_neg e]
   have hstep:=rd_step a b m;have hdig:=rd_digit a b m hb0;have hxlt:=rd_lt a b m hb0;obtain ⟨x,hx⟩:∃ x,rd a b (m+1)*10+dg 10 a m=x:=⟨_,rfl⟩;have hmu:=fun W=>HMU.out W (m+1);have hda:=fun W=>HDA.out W m (by omega);have hof:=fun W=>HOF.out W m;have had:=fun W=>HAD.out W m;have hsu:=fun W t=>HSU.out W m t;rw [hx] at hstep hdig hxlt had;simp only [hx] at hsu;have HMU':=zqh hmu;have HDA':=zqh hda;have HOF':=zqh hof;have HAD':=zqh had;have HSU':=zqh hsu;have HST:=zqh hstep;have HDG:=zqh hdig;have HX:=zqh hx;have d10:=dg10_lt a m;rw [show (((m+1:Nat):Int)-1)=(m:Int) by omega];clear hmu hda hof had hsu hstep hdig hrow hx
   generalize dg 10 a m=D at *
   generalize hRR:rd a b (m+1)=RR at *
   clear hRR
   have hwD:IntKind.u64.wrap (D:Int)=(D:Int):=by rw [IntKind.wrap_u64];omega
   go_wp2_with fail
   refine (HMU'.out _).mono ?_;rintro e w1 ⟨rfl,hb1⟩
   go_wp2_with fail
   refine (HDA'.out _).mono ?_;rintro e w2 ⟨rfl,rfl⟩
   go_wp2_with fail
   refine (HOF'.out _).mono ?_;rintro e w3 ⟨rfl,hb3⟩
   go_wp2_with fail
   refine (HAD'.out _).mono ?_;rintro e w4 ⟨rfl,hb4⟩;have hB:=(hb1.trans (hb3.mono hb1.size)).trans (hb4.mono (Nat.le_trans hb1.size hb3.size));have hrow4:=rowBelow hrow0 hB;have hbel4:=zqx hbel hB hbel.size;clear hb1 hb3 hb4 hB hrow0 hbel
   go_wp2_with fail
   go_loopw [8] (fun r wr=>∃ t:Nat,t*b≤x∧r = .string (dec (x-t*b))∧wr.rowIs w.heap.size 3 sa.size (dvF (a / b) m t)∧Below w.heap.size w wr) (fun r _=>decV r)
   case atStart=>exact ⟨0,by omega,by rw [Nat.zero_mul];rfl,hrow4,hbel4⟩
   case round =>
    clear hrow4 hbel4;obtain ⟨t,ht,rfl,hrow,hbel⟩:=hrel
    have ht10:t<10:=Nat.lt_of_not_le fun h=>by
     have:=Nat.mul_le_mul_right b h;omega
    rcases Nat.lt_or_ge (x-t*b) b with hlt | hge
    ·have hq:t=x / b:=by
      have h1:x / b=t:=Nat.div_eq_of_lt_le (by rw [Nat.mul_comm] at ht;rw [Nat.mul_comm];omega) (by rw [Nat.succ_mul];omega);exact h1.symm
     have hr:x-t*b=rd a b m:=by
      rw [← HST.out];have:=Nat.div_add_mod x b;rw [← hq,Nat.mul_comm] at this;omega
     have hc:cmpN (x-t*b) b = -1:=by unfold cmpN;rw [if_pos hlt]
     have hcm:=fun W=>HCM.out W (x-t*b);rw [hc] at hcm;have HC':=zqh hcm;have HRR:=zqh hr;have HTT:=zqh (hq.trans HDG.out);clear hq hr hc hcm
     go_wp2_with fail
     refine (HC'.out _).mono ?_;rintro e w5 ⟨rfl,rfl⟩
     go_wp2_with fail
     refine ⟨⟨m,by omega,rfl,by rw [HRR.out],hrow.congr fun j hj=>?_,hbel⟩,by simp [intOf] <;> omega⟩;unfold dvF;by_cases e:j=m
     ·subst e;rw [if_pos rfl,if_pos (zqn _),HTT.out];rfl
     ·rw [if_neg e];by_cases e2:m+1≤j
      ·rw [if_pos e2,if_pos (by omega)]
      ·rw [if_neg e2,if_neg (by omega)]
    ·have hc:0≤cmpN (x-t*b) b:=by unfold cmpN;rw [if_neg (by omega)];split <;> decide
     have hle:(t+1)*b≤x:=by rw [Nat.succ_mul];omega
     have hcm:=fun W=>HCM.out W (x-t*b);have hsu:=fun W=>HSU'.out W t hle
     have hse:x-t*b-b=x-(t+1)*b:=by rw [Nat.succ_mul];omega
     rw [hse] at hsu
     have hml:x-(t+1)*b<x-t*b:=by omega
     have hd:decide (0≤cmpN (x-t*b) b)=true:=decide_eq_true hc
     generalize cmpN (x-t*b) b=C at *
     have HC':=zqh hcm;have HS':=zqh hsu;have hcell:=hrow.cell (i:=m) (by omega);have hcell2:wr.cell? ⟨w.heap.size,m,none⟩=some (.int .i64 (t:Int)):=hcell.trans (by unfold dvF;rw [if_pos rfl]);have hfr:=hrow.frozen m;have hrl:=hrow.lt;clear hcell hcm hsu hc
     go_wp2_with fail
     refine (HC'.out _).mono ?_;rintro e w5 ⟨rfl,rfl⟩
     go_wp2_with fail
     refine (HS'.out _).mono ?_;rintro e w6 ⟨rfl,hb6⟩;have hrow6:=rowBelow hrow hb6;have hcell6:w6.cell? ⟨w.heap.size,m,none⟩=some (.int .i64 (t:Int)):=(hrow6.cell (i:=m) (by omega)).trans (by unfold dvF;rw [if_pos rfl]);have hfr6:=hrow6.frozen m;have hset:=hrow6.set m (.int .i64 ((t+1:Nat):Int))
     have hset2:(w6.setCell ⟨w.heap.size,m,none⟩ (.int .i64 ((t+1:Nat):Int))).rowIs w.heap.size 3 sa.size (dvF (a / b) m (t+1)):=hset.congr fun j hj=>by
      unfold dvF;by_cases e:j=m
      ·rw [if_pos e,if_pos e]
      ·rw [if_neg e,if_neg e,if_neg e]
     have hbel6:=(zqx hbel hb6 hbel.size).setCell (p:=⟨w.heap.size,m,none⟩) (zqn _) (.int .i64 ((t+1:Nat):Int));have HS2:=zqh hset2;have HB2:=zqh hbel6
     have hi1:(m:Int)<(sa.size:Int):=by omega
     have hi2:m<sa.size:=by omega
     have hi3:(0:Int)≤(m:Int):=by omega
     clear hcell2 hfr hset hset2 hbel6 hb6 hrow
     go_wp2_with fail
     exact ⟨⟨t+1,hle,rfl,HS2.out,HB2.out⟩,by rw [decV_dec,decV_dec];exact hml⟩
theorem rgcd_any (w:World) (a b:Nat) (ha:decN a≤1000000) (hb:decN b≤1000000) :
  Calls Tryz.prog 146 #[.string (dec a),.string (dec b)] w fun e w'=>e = .returned (.string (dec (Nat.gcd a b)))∧Below w.heap.size w w':=by
 have hdv:=fun W x y h1 h2 h3=>rdiv_any W x y h1 h2 h3;have HDV:=zqh hdv;clear hdv
 have HG:Hid (∀ x y,0<y→Nat.gcd y (x%y)=Nat.gcd x y):=zqh fun x y h=>by rw [Nat.gcd_comm y,← Nat.gcd_rec,Nat.gcd_comm]
 go_enter Tryz.func146, Tryz.ntmps146
 go_wp2_with fail
 go_loopw [0,1] (fun s t wr=>∃ x y:Nat,s = .string (dec x)∧t = .string (dec y)∧decN x≤1000000∧decN y≤1000000∧Nat.gcd x y=Nat.gcd a b∧Below w.heap.size w wr) (fun _ t _=>decV t)
 case atStart=>exact ⟨a,b,rfl,rfl,ha,hb,rfl,zqr _ _⟩
 case round =>
  clear ha hb;obtain ⟨x,y,rfl,rfl,hx,hy,hg,hbel⟩:=hrel;rcases Nat.eq_zero_or_pos y with h0 | h0
  ·have hbe:((dec y).toList==[48])=true:=by rw [beq_iff_eq];exact (dec_is0 y).2 h0
   have hxg:x=Nat.gcd a b:=by rw [← hg,h0,Nat.gcd_zero_right]
   have HXG:=zqh hxg
   have hb3:((dec y).toList != [48])=false:=by simp [bne,hbe]
   clear hg hxg h0
   go_wp2_with fail
   go_ret
   exact ⟨by rw [HXG.out];rfl,hbel⟩
  ·have hbe:((dec y).toList==[48])=false:=beq_eq_false_iff_ne.2 fun e=>by have:=(dec_is0 y).1 e;omega
   have hml:x%y<y:=Nat.mod_lt _ h0;have hgg:=HG.out x y h0;rw [hg] at hgg;have HGG:=zqh hgg
   have hdy:decN (x%y)≤1000000:=by have:=decN_mono (Nat.le_of_lt hml);omega
   have hdv:=fun W=>HDV.out W x y hx hy h0;have HD':=zqh hdv
   generalize x / y=Q at *
   have hb3:((dec y).toList != [48])=true:=by simp [bne,hbe]
   clear hdv hg hgg
   go_wp2_with fail
   refine (HD'.out _).mono ?_;rintro e w1 ⟨rfl,hb1⟩
   go_wp2_with fail
   exact ⟨⟨y,x%y,rfl,rfl,hy,hdy,HGG.out,zqx hbel hb1 hbel.size⟩,by rw [decV_dec,decV_dec];exact hml⟩
end Go.Proofs.YtmhllppjcilllaaGreatDoor
end
