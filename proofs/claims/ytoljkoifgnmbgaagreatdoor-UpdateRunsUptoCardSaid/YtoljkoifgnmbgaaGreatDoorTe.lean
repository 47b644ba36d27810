import Derived.Test.YtoljkoifgnmbgaaGreatDoorN1
import Derived.Test.YtoljkoifgnmbgaaGreatDoorM1
import Derived.Laws.OwnMore
import Derived.BigGuardPart
import Derived.Laws.ResultCell
import Derived.Test.YtoljkoifgnmbgaaGreatDoorDl
import Derived.Test.YtoljkoifgnmbgaaGreatDoorN3
import Derived.Lib.Bytealg
import Derived.Lib.Strings
import Derived.Laws.Externs
import Derived.Laws.Strings3
import Derived.BigRegion
set_option linter.unusedSimpArgs false
set_option linter.unusedVariables false
set_option maxRecDepth 100000
set_option maxHeartbeats 2000000
section
section
open Go Go.RowKit Cs
namespace Cs
def yP (V r k:Nat):Nat:=(V%2^(32*k)*10+r) / 2^(32*k)
theorem gcy_zero (V r:Nat):yP V r 0=r:=by simp [yP,Nat.mod_one]
theorem p32 (k:Nat):2^(32*(k+1))=2^(32*k)*4294967296:=by rw [Nat.mul_add,Nat.pow_add]
theorem gcy_le (V r k:Nat) (hr:r<10):yP V r k≤10:=by
 unfold yP;have hp:0<2^(32*k):=Nat.two_pow_pos _;have:=Nat.mod_lt V hp;generalize 2^(32*k)=p at *
 refine Nat.le_of_lt_succ ((Nat.div_lt_iff_lt_mul hp).2 ?_);generalize V%p=x at *
 omega
theorem oF (V r k:Nat):(V%2^(32*(k+1))*10+r) / 2^(32*k)=yP V r k+wd V k*10:=by
 have hp:0<2^(32*k):=Nat.two_pow_pos _;have e:V%2^(32*(k+1))=V%2^(32*k)+2^(32*k)*wd V k:=by
  rw [p32,Nat.mod_mul];rfl
 rw [e];unfold yP;generalize 2^(32*k)=p at *
 generalize V%p=x;generalize wd V k=y;have:(x+p*y)*10+r=x*10+r+p*(y*10):=by rw [Nat.add_mul,Nat.mul_assoc];omega
 rw [this,Nat.add_mul_div_left _ _ hp]
theorem gcy_succ (V r k:Nat):yP V r (k+1)=(yP V r k+wd V k*10) / 4294967296:=by
 rw [← oF,Nat.div_div_eq_div_mul,← p32];rfl
theorem gcy_wd (V r k:Nat):wd (V*10+r) k=(yP V r k+wd V k*10)%4294967296:=by
 rw [← oF];have hp:0<2^(32*k):=Nat.two_pow_pos _;unfold wd;rw [p32];generalize 2^(32*k)=p at *
 have hd:=Nat.div_add_mod V (p*4294967296);generalize V / (p*4294967296)=q at *
 generalize V%(p*4294967296)=x at *
 rw [← hd];have:(p*4294967296*q+x)*10+r=x*10+r+p*(4294967296*(q*10)):=by
  rw [Nat.add_mul,Nat.mul_assoc,Nat.mul_assoc];omega
 rw [this,Nat.add_mul_div_left _ _ hp,Nat.add_mul_mod_self_left]
theorem gcy_end (V r n:Nat) (h:nw V≤n):yP V r n=(V*10+r) / 2^(32*n):=by
 unfold yP;rw [Nat.mod_eq_of_lt ((qJ _ _).1 h)]
def yr (V W k n:Nat):List Value:=(List.range n).map fun j=>.int .u32 ((if j<k then wd W j else wd V j:Nat):Int)
theorem zhv (V W k n:Nat):(yr V W k n).length=n:=by simp [yr]
theorem zeZ (V W k n j:Nat) (h:j<n):(yr V W k n)[j]?=some (.int .u32 ((if j<k then wd W j else wd V j:Nat):Int)):=by simp [yr,h]
theorem mixL_set (V W k n:Nat) (h:k<n):(yr V W k n).set k (.int .u32 ((wd W k:Nat):Int))=yr V W (k+1) n:=by
 refine List.ext_getElem? fun j=>?_;rw [List.getElem?_set];rcases Nat.lt_or_ge j n with hj | hj
 ·by_cases e:k=j
  ·subst e;rw [zeZ V W (k+1) n k hj,if_pos (by omega:k<k+1)];simp [zhv,h]
  ·rw [if_neg e,zeZ _ _ _ _ _ hj,zeZ _ _ _ _ _ hj];by_cases e2:j<k
   ·rw [if_pos e2,if_pos (by omega)]
   ·rw [if_neg e2,if_neg (by omega)]
 ·rw [if_neg (by omega),List.getElem?_eq_none (by rw [zhv];exact hj),List.getElem?_eq_none (by rw [zhv];exact hj)]
def jb (V n:Nat):List Value:=(List.range n).map fun j=>.int .u32 ((wd V j:Nat):Int)
theorem wdL_get (V n j:Nat) (h:j<n):(jb V n)[j]?=some (.int .u32 ((wd V j:Nat):Int)):=by simp [jb,h]
theorem pw (V W n:Nat):yr V W 0 n=jb V n:=by unfold yr jb;simp
theorem mixL_all (V W n:Nat):yr V W n n=jb W n:=by
 unfold yr jb;refine List.map_congr_left fun j hj=>?_;rw [if_pos (List.mem_range.1 hj)]
theorem wdL_succ (V n:Nat):jb V (n+1)=jb V n++[.int .u32 ((wd V n:Nat):Int)]:=by simp [jb,List.range_succ]
def yL (s:List UInt8):Nat→Nat
 | 0=>0
 | k+1=>yL s k*10+((s.getD k 0).toNat-48)
theorem oK (s:List UInt8) (h:∀ i,(s.getD i 0).toNat≤57):∀ k,yL s k<10^k
 | 0=>Nat.one_pos
 | k+1=>by
   have h1:=oK s h k;have h2:=h k;show yL s k*10+_<10^(k+1);rw [Nat.pow_succ];omega
end Cs
namespace Go.Proofs.YtoljkoifgnmbgaaGreatDoor
theorem zi8 {a w w':World} {v:Value} (h:a.grownBy w v.ownBlock) (hg:w.grownBy w' v.ownBlock):a.grownBy w' v.ownBlock :=
 ⟨hg.os.trans h.os,hg.tape.trans h.tape,hg.output.trans h.output,Nat.le_trans h.size hg.size,fun k hk hne=>(hg.block k (Nat.lt_of_lt_of_le hk h.size) hne).trans (h.block k hk hne)⟩
theorem zkw (w:World) (B r:Nat) (hr:r<10) (hB:B≤w.heap.size) :
  Calls Tryz.prog 132 #[.slice none 0 0,.int .u32 10,.int .u32 (r:Int)] w fun e w'=>∃ v' n',e = .returned v'∧n'≤1∧nw r≤n'∧w'.ownsRow B 123 1 v' n' (jb r n')∧Below w.heap.size w w'∧(n'=0→v' = .slice none 0 0):=by
 obtain ⟨ti,hi,hz0,hz1,hz2⟩:=info_parts zfc;rcases Nat.eq_zero_or_pos r with h0 | h0
 ·subst h0;go_enter Tryz.func132, Tryz.ntmps132;go_wp2_with fail
  go_loopw [7,13] (fun c t wr=>t = .int .i64 0∧c = .int .u64 0∧wr=w) (fun _ _ _=>0)
  case atStart=>exact ⟨rfl,rfl,rfl⟩
  case round =>
   obtain ⟨rfl,rfl,rfl⟩:=hrel;go_wp2_with fail
   go_ret;exact ⟨.slice none 0 0,0,rfl,by omega,by rw [qJ];decide,World.ownsRow_nil _ _ _ _,zA _ _,fun _=>rfl⟩
 ·have hd:decide ((0:Int)<(r:Int))=true:=decide_eq_true (by omega);have hw0:wd r 0=r:=by unfold wd;simp;omega
  have hnw:nw r≤1:=by rw [qJ];omega
  have HW0:=za hw0;have HNW:=za hnw;have hm:(r:Int)%4294967296=(r:Int):=by omega
  clear hw0 hnw;go_enter Tryz.func132, Tryz.ntmps132;go_wp2_with fail
  go_loopw [7,13] (fun c t wr=>t = .int .i64 0∧c = .int .u64 (r:Int)∧wr=w) (fun _ _ _=>0)
  case atStart=>exact ⟨rfl,rfl,rfl⟩
  case round =>
   obtain ⟨rfl,rfl,rfl⟩:=hrel;go_wp2_with (at_builtin;refine wpList_append_own _ rfl _ _ 121 rfl B 123 ti (.int .u32 0) 1 4 Tryz.underlying121 hi hz0 hz1 hz2 rfl (by decide) _ _ _ rfl (World.ownsRow_nil _ _ _ _) ⟨wr.heap.size,0,none⟩ 1 1 [.int .u32 (r:Int)] rfl rfl qR zcL (by unfold maxLen;omega) (by omega) (by simp;omega) ?_;intro v1 w1 ho1 hg1 _)
   go_ret;rw [Nat.zero_add,List.nil_append] at ho1;refine ⟨v1,1,rfl,by omega,HNW.out,?_,?_,fun h=>by omega⟩
   ·have e:jb r 1=[.int .u32 (r:Int)]:=by simp [jb,HW0.out]
    rw [e];exact ho1
   ·have hg2:(wr.alloc (.cells #[.int .u32 (r:Int)] 123)).grownBy w1 none:=hg1;exact ((zA _ _).alloc (zi _) _).trans ⟨hg2.os,hg2.tape,hg2.output,hg2.size,fun k hk=>hg2.block k (by simp;omega) (by simp)⟩
theorem zkv (w:World) (B n V r g cap:Nat) (hn:n≤100000) (hn0:0<n) (hr:r<10) (hV:nw V≤n) (hB:B≤w.heap.size) (ho:w.ownsRow B 123 1 (.slice (some ⟨g,0,none⟩) n cap) n (jb V n)) :
  Calls Tryz.prog 132 #[.slice (some ⟨g,0,none⟩) n cap,.int .u32 10,.int .u32 (r:Int)] w fun e w'=>∃ v' n',e = .returned v'∧n≤n'∧n'≤n+1∧nw (V*10+r)≤n'∧w'.ownsRow B 123 1 v' n' (jb (V*10+r) n')∧w.grownBy w' (some g):=by
 obtain ⟨ti,hi,hz0,hz1,hz2⟩:=info_parts zfc;have hgB:=(ho.lt g rfl).1;rw [← pw V (V*10+r) n] at ho;go_enter Tryz.func132, Tryz.ntmps132;go_wp2_with fail
 go_loopw [7,13] (fun c t wr=>∃ k:Nat,k≤n∧t = .int .i64 (k:Int)∧c = .int .u64 ((yP V r k:Nat):Int)∧wr.ownsRow B 123 1 (.slice (some ⟨g,0,none⟩) n cap) n (yr V (V*10+r) k n)∧w.grownBy wr (some g)∧wr.heap.size=w.heap.size) (fun _ t _=>n-(intOf t).toNat)
 case atStart=>exact ⟨0,by omega,rfl,by rw [gcy_zero],ho,World.grownBy.refl w _,rfl⟩
 case round =>
  clear ho;obtain ⟨k,hk,rfl,rfl,ho,hgr,hsz⟩:=hrel;have HSZ:=za hsz;clear hsz;have hcl:=gcy_le V r k hr;rcases Nat.lt_or_ge k n with hlt | hge
  ·have hc:=zdv ho (zeZ V (V*10+r) k n k hlt);rw [if_neg (Nat.lt_irrefl _)] at hc;have hf:=ho.frozenAt k;have hx:=qM V k;have h1:=gcy_wd V r k;have h2:=gcy_succ V r k;have hst:=ho.stored k (.int .u32 ((wd (V*10+r) k:Nat):Int));rw [mixL_set V (V*10+r) k n hlt] at hst;have HST:=za hst;obtain ⟨c,hc'⟩:∃ c,yP V r k=c:=⟨_,rfl⟩;obtain ⟨c',hc''⟩:∃ c,yP V r (k+1)=c:=⟨_,rfl⟩;obtain ⟨x,hx'⟩:∃ c,wd V k=c:=⟨_,rfl⟩;obtain ⟨y,hy'⟩:∃ c,wd (V*10+r) k=c:=⟨_,rfl⟩;rw [hc',hx',hy'] at h1;rw [hc',hx',hc''] at h2;rw [hx'] at hc hx;rw [hc'] at hcl ⊢;rw [hy'] at HST;have E1:((c:Int)+(x:Int)*10)%4294967296=(y:Int):=by omega
   have E2:((c:Int)+(x:Int)*10) / 4294967296=(c':Int):=by omega
   have i1:(k:Int)<(n:Int):=by omega
   have HC2:=za hc'';clear h1 h2 hst hc' hc'' hx' hy' hi hz0 hz1 hz2;go_wp2_with fail
   go_roundw
   case rel=>exact ⟨k+1,by omega,by go_num,by rw [HC2.out],HST.out.1,zi8 (v:=.slice (some ⟨g,0,none⟩) n cap) hgr HST.out.2,by rw [zf];exact HSZ.out⟩
   case measure=>simp [intOf];omega
  ·obtain rfl:k=n:=by omega
   rw [mixL_all] at ho;have he:=gcy_end V r k hV;rcases Nat.eq_zero_or_pos (yP V r k) with h0 | h0
   ·have hnw:nw (V*10+r)≤k:=by
     rw [qJ];rw [h0] at he;have hp:0<2^(32*k):=Nat.two_pow_pos _;exact (Nat.div_eq_zero_iff_lt hp).1 he.symm
    have HNW:=za hnw;rw [h0];clear he hnw h0 hcl;go_wp2_with fail
    go_ret;exact ⟨_,k,rfl,zi _,by omega,HNW.out,ho,hgr⟩
   ·have hnw:nw (V*10+r)≤k+1:=by
     rw [qJ,p32];have hp:0<2^(32*k):=Nat.two_pow_pos _;have h3:(V*10+r) / 2^(32*k)<4294967296:=by omega
     rw [Nat.mul_comm (2^(32*k))];exact (Nat.div_lt_iff_lt_mul hp).1 h3
    have hwk:wd (V*10+r) k=yP V r k:=by
     unfold wd;rw [← he];exact Nat.mod_eq_of_lt (by omega)
    have HNW:=za hnw;have HWK:=za hwk;have hd:decide ((0:Int)<((yP V r k:Nat):Int))=true:=decide_eq_true (by omega);have hm:((yP V r k:Nat):Int)%4294967296=((yP V r k:Nat):Int):=by omega
    have hszz:=hgr.size;clear he hnw hwk;generalize yP V r k=c at *
    go_wp2_with (at_builtin;refine wpList_append_own _ rfl _ _ 121 rfl B 123 ti (.int .u32 0) 1 4 Tryz.underlying121 hi hz0 hz1 hz2 rfl (by decide) _ _ _ rfl (ho.alloc _) ⟨wr.heap.size,0,none⟩ 1 1 [.int .u32 (c:Int)] rfl rfl qR zcL (by unfold maxLen;omega) (by omega) (by simp;omega) ?_;intro v1 w1 ho1 hg1 _)
    go_ret;refine ⟨v1,k+1,rfl,by omega,by omega,HNW.out,?_,?_⟩
    ·rw [wdL_succ,HWK.out];exact ho1
    ·exact zi8 (v:=.slice (some ⟨g,0,none⟩) k cap) (zg6 hgr _) hg1
end Go.Proofs.YtoljkoifgnmbgaaGreatDoor
end
section
open Go Go.RowKit Cs
namespace Cs
theorem ziC (s:ByteArray) (k r:Nat) (h:k<s.size) (hr:s[k].toNat=48+r):yL s.data.toList (k+1)=yL s.data.toList k*10+r:=by
 show yL s.data.toList k*10+((s.data.toList.getD k 0).toNat-48)=_;have e:s.data.toList.getD k 0=s[k]:=by
  rw [List.getD_eq_getElem?_getD,List.getElem?_eq_getElem (by simpa using h)];rfl
 rw [e,hr];omega
def allDig (s:ByteArray):Prop:=∀ k (h:k<s.size),48≤s[k].toNat∧s[k].toNat≤57
structure qh (s:ByteArray):Prop where
 pos:0<s.size
 few:s.size≤2000
 dig:allDig s
 led:∀ h:1<s.size,s[0].toNat≠48
end Cs
namespace Go.Proofs.YtoljkoifgnmbgaaGreatDoor
theorem from_nil (w:World):Calls Tryz.prog 78 #[.slice none 0 0] w fun e w'=>e = .returned (zD 0)∧Below w.heap.size w w':=by
 have hmk:=mk_u8 0 (by omega);simp only [Int.natCast_zero] at hmk;go_enter Tryz.func78, Tryz.ntmps78;go_wp2_with fail
 go_loopw [12] (fun t wr=>t = .int .i64 0∧wr.rowIs w.heap.size 54 1 (fun _=>.string ⟨#[]⟩)∧wr.rowIs (w.heap.size+1) 5 0 (fun j=>.int .u8 0)∧Below w.heap.size w wr) (fun t _=>0)
 case atStart =>
  exact ⟨rfl,(qu _ _ _ _ rfl).alloc _,jz _ _ _ _ _ (by simp) (fun i _=>by simp),((zA _ _).alloc (zi _) _).alloc (by simp) _⟩
 case round =>
  obtain ⟨rfl,hbox,hrow,hbel⟩:=hrel;have hb1:=zN hbox;have hb2:=hbox.frozen 0;have hcv:=zkA wr (w.heap.size+1) 0 0 0 (by rw [ja]) (fun i hi=>by omega);go_wp2_with fail
  go_loop [5] (fun t=>t = .int .i64 0) (fun t=>0)
  case atStart=>rfl
  case round =>
   obtain rfl:=hrel;go_wp2;exact yN rfl _ rfl (qP hbox _) rfl ⟨rfl,hbel.setCell (zi _) _⟩
theorem zc7 {fn:Func} {R:Ending→World→Prop} {a:Act} {w:World} {p u:Tmp} (h:fn.results=#[.cell p 54,.tmp u]) {g:Nat} {t:TypeId} (V:Nat)
  (hp:a.tmps.getD p undef = .pointer (some ⟨g,0,none⟩)) (hrow:w.rowIs g t 1 fun _=>.string (zb V)) (hdf:a.defers=[]) (hR:R (.returned (.tuple #[zD V,a.tmps.getD u undef])) w):bodyPost Tryz.prog fn R .ret a w:=by
 refine bodyPost_ret ?_ hdf hR;rw [results_cell_tmp h,hp];have hl:=run_loadVar_row (P:=Tryz.prog) w g t 54 _ (0,0) _ (gp hrow) Tryz.underlying54 rfl (by simpa using zc4);simp [asAddr,Result.andThen,hl]
theorem zlr (w:World) (s:ByteArray) (h:qh s) :
  Calls Tryz.prog 84 #[.string s] w fun e w'=>e = .returned (.tuple #[zD (yL s.data.toList s.size),.bool true])∧Below w.heap.size w w':=by
 obtain ⟨h0,h2,hd,hl⟩:=h;have c0:((s.size:Int)==0)=false:=beq_eq_false_iff_ne.2 (by omega);have c1:decide ((2000:Int)<(s.size:Int))=false:=decide_eq_false (by omega);have c2:(decide ((1:Int)<(s.size:Int))=true∧1<s.size∧((s[0].toNat:Int)==48)=false)∨(decide ((1:Int)<(s.size:Int))=false∧s.size≤1):=by
  rcases Nat.lt_or_ge 1 s.size with h3 | h3
  ·exact .inl ⟨decide_eq_true (by omega),h3,beq_eq_false_iff_ne.2 (by have:=hl h3;omega)⟩
  ·exact .inr ⟨decide_eq_false (by omega),by omega⟩
 have HD:=za hd;clear hl hd;have hfr:=fun W b n cap hb hc hbl hV=>zbM W b n cap (yL s.data.toList s.size) hb hc hbl hV;have HFR:=za hfr;have HS:=za (fun k r (h:k<s.size) (hr:s[k].toNat=48+r)=>ziC s k r h hr);have hD0:yL s.data.toList 0=0:=rfl;obtain ⟨D,hD⟩:∃ D,yL s.data.toList=D:=⟨_,rfl⟩;simp only [hD] at HFR HS hD0;rw [hD];clear hD hfr;have HD0:=za hD0;clear hD0;have q0:=qu w (.string ⟨#[]⟩) 54 _ rfl;have b0:Below w.heap.size w (w.alloc (.cells #[.string ⟨#[]⟩] 54)):=(zA _ _).alloc (zi _) _;have hsz0:w.heap.size<(w.alloc (.cells #[.string ⟨#[]⟩] 54)).heap.size:=by simp
 rcases c2 with ⟨c4,c2,c3⟩ | ⟨c4,c2⟩
 all_goals
  go_enter Tryz.func84, Tryz.ntmps84;go_wp2_with fail
  go_loopw [4,27] (fun l t wr=>∃ (k n:Nat),k≤s.size∧n≤k∧t = .int .i64 (k:Int)∧wr.ownsRow (w.heap.size+1) 123 1 l n (jb (D k) n)∧Hid (nw (D k)≤n)∧(n=0→l = .slice none 0 0)∧wr.rowIs w.heap.size 54 1 (fun _=>.string ⟨#[]⟩)∧Below w.heap.size w wr∧w.heap.size+1≤wr.heap.size) (fun _ t _=>s.size-(intOf t).toNat)
  case atStart=>exact ⟨0,0,by omega,by omega,rfl,World.ownsRow_nil _ _ _ _,za (by rw [HD0.out,qJ];decide),fun _=>rfl,q0,b0,hsz0⟩
  case round =>
   clear q0 b0 hsz0;obtain ⟨k,n,hk,hn,rfl,ho,HNW,hnil,q1,b1,hs1⟩:=hrel;rcases Nat.lt_or_ge k s.size with hlt | hge
   ·obtain ⟨e1,e2⟩:=HD.out k hlt;obtain ⟨r,hr⟩:∃ r,s[k].toNat=48+r:=⟨s[k].toNat-48,by omega⟩;have hr10:r<10:=by omega
    have hst:=HS.out k r hlt hr;have HST:=za hst;have g1:decide ((48:Int)+(r:Int)<48)=false:=decide_eq_false (by omega);have g2:decide ((57:Int)<48+(r:Int))=false:=decide_eq_false (by omega);have g3:(48:Int)+(r:Int)-48=(r:Int):=by omega
    clear hst e1 e2;rcases Nat.eq_zero_or_pos n with hn0 | hn0
    ·subst hn0;obtain rfl:=hnil rfl;have hD0k:D k=0:=by have:=(qJ 0 (D k)).1 HNW.out;simpa using this
     have HDK:=za hD0k;clear hD0k;go_wp2_with fail
     refine (zkw _ (w.heap.size+1) r hr10 hs1).mono ?_;rintro e w2 ⟨v',n',rfl,hn1,hnw,ho2,hb2,hnl⟩;have HNL:=za hnl;have hnw2:nw (D (k+1))≤n':=by rw [HST.out,HDK.out];simpa using hnw
     have ho3:w2.ownsRow (w.heap.size+1) 123 1 v' n' (jb (D (k+1)) n'):=by rw [HST.out,HDK.out];simpa using ho2
     have HNW2:=za hnw2;have q2:=zh q1 hb2;have b2:=zu b1 hb2 b1.size;have hs2:=hb2.size;clear hnl hnw hnw2 hnil hr ho2 hb2;go_wp2_with fail
     go_roundw
     case rel=>exact ⟨k+1,n',by omega,by omega,by go_num,ho3,HNW2,HNL.out,q2,b2,by omega⟩
     case measure=>simp [intOf];omega
    ·obtain ⟨g,cap,rfl,hgb,hgl⟩:=yO ho hn0;go_wp2_with fail
     refine (zkv _ (w.heap.size+1) n (D k) r g cap (by omega) hn0 hr10 HNW.out hs1 ho).mono ?_;rintro e w2 ⟨v',n',rfl,hn1,hn2,hnw,ho2,hg2⟩;have hnw2:nw (D (k+1))≤n':=by rw [HST.out];exact hnw
     rw [← HST.out] at ho2;have HNW2:=za hnw2;have q2:=yy q1 hg2 (by simp;omega);have b2:=zbP b1 hg2 b1.size (by omega);have hs2:=hg2.size;clear hnw hnw2 hnil hr hg2;go_wp2_with fail
     go_roundw
     case rel=>exact ⟨k+1,n',by omega,by omega,by go_num,ho2,HNW2,fun h=>by omega,q2,b2,by omega⟩
     case measure=>simp [intOf];omega
   ·obtain rfl:k=s.size:=by omega
    have hz:zb 0=⟨#[]⟩:=by simp [zb,ja]
    have HZ:=za hz;clear hz;rcases Nat.eq_zero_or_pos n with hn0 | hn0
    ·subst hn0;obtain rfl:=hnil rfl;have hD0k:D s.size=0:=by have:=(qJ 0 (D s.size)).1 HNW.out;simpa using this
     have HDK:=za hD0k;clear hD0k hnil;go_wp2_with fail
     refine (from_nil _).mono ?_;rintro e w2 ⟨rfl,hb2⟩;have q2:=zh q1 hb2;have z1:=zN q2;have z2:=q2.frozen 0;have b2:=zu b1 hb2 b1.size;clear hb2;go_wp2_with fail
     exact zc7 rfl 0 rfl (qP q2 _) rfl ⟨by rw [HDK.out];rfl,b2.setCell (zi _) _⟩
    ·obtain ⟨g,cap,rfl,hgb,hgl⟩:=yO ho hn0;clear hnil;go_wp2_with fail
     refine (HFR.out _ g n cap (by omega) (fun i hi=>zdv ho (wdL_get _ _ _ hi)) hgl HNW.out).mono ?_;rintro e w2 ⟨rfl,hb2⟩;have q2:=zh q1 hb2;have z1:=zN q2;have z2:=q2.frozen 0;have b2:=zu b1 hb2 b1.size;clear hb2;go_wp2_with fail
     exact zc7 rfl _ rfl (qP q2 _) rfl ⟨rfl,b2.setCell (zi _) _⟩
theorem zls (w:World) (s:ByteArray) (j:Nat) (h0:0<s.size) (h2:s.size≤2000) (hl:∀ h:1<s.size,s[0].toNat≠48) (hj:j<s.size) (hd:∀ k,k<j→∀ h:k<s.size,48≤s[k].toNat∧s[k].toNat≤57) (hb:s[j].toNat<48∨57<s[j].toNat) :
  Calls Tryz.prog 84 #[.string s] w fun e w'=>e = .returned (.tuple #[zD 0,.bool false])∧Below w.heap.size w w':=by
 have c0:((s.size:Int)==0)=false:=beq_eq_false_iff_ne.2 (by omega);have c1:decide ((2000:Int)<(s.size:Int))=false:=decide_eq_false (by omega);have c2:(decide ((1:Int)<(s.size:Int))=true∧1<s.size∧((s[0].toNat:Int)==48)=false)∨(decide ((1:Int)<(s.size:Int))=false∧s.size≤1):=by
  rcases Nat.lt_or_ge 1 s.size with h3 | h3
  ·exact .inl ⟨decide_eq_true (by omega),h3,beq_eq_false_iff_ne.2 (by have:=hl h3;omega)⟩
  ·exact .inr ⟨decide_eq_false (by omega),by omega⟩
 have HD:=za hd;have HBB:=za hb;clear hl hd hb;have HS:=za (fun k r (h:k<s.size) (hr:s[k].toNat=48+r)=>ziC s k r h hr);have hD0:yL s.data.toList 0=0:=rfl;obtain ⟨D,hD⟩:∃ D,yL s.data.toList=D:=⟨_,rfl⟩;simp only [hD] at HS hD0;clear hD;have HD0:=za hD0;clear hD0;have q0:=qu w (.string ⟨#[]⟩) 54 _ rfl;have b0:Below w.heap.size w (w.alloc (.cells #[.string ⟨#[]⟩] 54)):=(zA _ _).alloc (zi _) _;have hsz0:w.heap.size<(w.alloc (.cells #[.string ⟨#[]⟩] 54)).heap.size:=by simp
 have HZ:=za (show zb 0=⟨#[]⟩ by simp [zb,ja]);rcases c2 with ⟨c4,c2,c3⟩ | ⟨c4,c2⟩
 all_goals
  go_enter Tryz.func84, Tryz.ntmps84;go_wp2_with fail
  go_loopw [4,27] (fun l t wr=>∃ (k n:Nat),k≤j∧n≤k∧t = .int .i64 (k:Int)∧wr.ownsRow (w.heap.size+1) 123 1 l n (jb (D k) n)∧Hid (nw (D k)≤n)∧(n=0→l = .slice none 0 0)∧wr.rowIs w.heap.size 54 1 (fun _=>.string ⟨#[]⟩)∧Below w.heap.size w wr∧w.heap.size+1≤wr.heap.size) (fun _ t _=>s.size-(intOf t).toNat)
  case atStart=>exact ⟨0,0,by omega,by omega,rfl,World.ownsRow_nil _ _ _ _,za (by rw [HD0.out,qJ];decide),fun _=>rfl,q0,b0,hsz0⟩
  case round =>
   clear q0 b0 hsz0;obtain ⟨k,n,hk,hn,rfl,ho,HNW,hnil,q1,b1,hs1⟩:=hrel;have hlt:k<s.size:=by omega
   rcases Nat.lt_or_ge k j with hkj | hkj
   ·obtain ⟨e1,e2⟩:=HD.out k hkj hlt;obtain ⟨r,hr⟩:∃ r,s[k].toNat=48+r:=⟨s[k].toNat-48,by omega⟩;have hr10:r<10:=by omega
    have hst:=HS.out k r hlt hr;have HST:=za hst;have g1:decide ((48:Int)+(r:Int)<48)=false:=decide_eq_false (by omega);have g2:decide ((57:Int)<48+(r:Int))=false:=decide_eq_false (by omega);have g3:(48:Int)+(r:Int)-48=(r:Int):=by omega
    clear hst e1 e2;rcases Nat.eq_zero_or_pos n with hn0 | hn0
    ·subst hn0;obtain rfl:=hnil rfl;have hD0k:D k=0:=by have:=(qJ 0 (D k)).1 HNW.out;simpa using this
     have HDK:=za hD0k;clear hD0k;go_wp2_with fail
     refine (zkw _ (w.heap.size+1) r hr10 hs1).mono ?_;rintro e w2 ⟨v',n',rfl,hn1,hnw,ho2,hb2,hnl⟩;have HNL:=za hnl;have hnw2:nw (D (k+1))≤n':=by rw [HST.out,HDK.out];simpa using hnw
     have ho3:w2.ownsRow (w.heap.size+1) 123 1 v' n' (jb (D (k+1)) n'):=by rw [HST.out,HDK.out];simpa using ho2
     have HNW2:=za hnw2;have q2:=zh q1 hb2;have b2:=zu b1 hb2 b1.size;have hs2:=hb2.size;clear hnl hnw hnw2 hnil hr ho2 hb2;go_wp2_with fail
     go_roundw
     case rel=>exact ⟨k+1,n',by omega,by omega,by go_num,ho3,HNW2,HNL.out,q2,b2,by omega⟩
     case measure=>simp [intOf];omega
    ·obtain ⟨g,cap,rfl,hgb,hgl⟩:=yO ho hn0;go_wp2_with fail
     refine (zkv _ (w.heap.size+1) n (D k) r g cap (by omega) hn0 hr10 HNW.out hs1 ho).mono ?_;rintro e w2 ⟨v',n',rfl,hn1,hn2,hnw,ho2,hg2⟩;have hnw2:nw (D (k+1))≤n':=by rw [HST.out];exact hnw
     rw [← HST.out] at ho2;have HNW2:=za hnw2;have q2:=yy q1 hg2 (by simp;omega);have b2:=zbP b1 hg2 b1.size (by omega);have hs2:=hg2.size;clear hnw hnw2 hnil hr hg2;go_wp2_with fail
     go_roundw
     case rel=>exact ⟨k+1,n',by omega,by omega,by go_num,ho2,HNW2,fun h=>by omega,q2,b2,by omega⟩
     case measure=>simp [intOf];omega
   ·obtain rfl:k=j:=by omega
    have hbb:=HBB.out;obtain ⟨c,hc⟩:∃ c,s[k].toNat=c:=⟨_,rfl⟩;rw [hc] at hbb;have z1:=zN q1;have z2:=q1.frozen 0;rcases hbb with h5 | h5
    ·have g1:decide ((c:Int)<48)=true:=decide_eq_true (by omega);clear hnil;go_wp2_with fail
     exact zc7 rfl 0 rfl (by rw [HZ.out];exact qP q1 _) rfl ⟨rfl,b1.setCell (zi _) _⟩
    ·have g1:decide ((c:Int)<48)=false:=decide_eq_false (by omega);have g2:decide ((57:Int)<(c:Int))=true:=decide_eq_true (by omega);clear hnil;go_wp2_with fail
     exact zc7 rfl 0 rfl (by rw [HZ.out];exact qP q1 _) rfl ⟨rfl,b1.setCell (zi _) _⟩
theorem zfH (w:World) (s:ByteArray) (h:s.size=0∨2000<s.size∨(s.size≤2000∧∃ h:1<s.size,s[0].toNat=48)) :
  Calls Tryz.prog 84 #[.string s] w fun e w'=>e = .returned (.tuple #[zD 0,.bool false])∧Below w.heap.size w w':=by
 have q0:=qu w (.string ⟨#[]⟩) 54 _ rfl;have b0:Below w.heap.size w (w.alloc (.cells #[.string ⟨#[]⟩] 54)):=(zA _ _).alloc (zi _) _;have HZ:=za (show zb 0=⟨#[]⟩ by simp [zb,ja]);rcases h with h | h | ⟨h,h1,h3⟩
 ·have c0:((s.size:Int)==0)=true:=by simp [h]
  clear h;go_enter Tryz.func84, Tryz.ntmps84;go_wp2_with fail
  exact zc7 rfl 0 rfl (by rw [HZ.out];exact q0) rfl ⟨rfl,b0⟩
 ·have c0:((s.size:Int)==0)=false:=beq_eq_false_iff_ne.2 (by omega);have c1:decide ((2000:Int)<(s.size:Int))=true:=decide_eq_true (by omega);go_enter Tryz.func84, Tryz.ntmps84;go_wp2_with fail
  exact zc7 rfl 0 rfl (by rw [HZ.out];exact q0) rfl ⟨rfl,b0⟩
 ·have c0:((s.size:Int)==0)=false:=beq_eq_false_iff_ne.2 (by omega);have c1:decide ((2000:Int)<(s.size:Int))=false:=decide_eq_false (by omega);have c4:decide ((1:Int)<(s.size:Int))=true:=decide_eq_true (by omega);have c3:((s[0].toNat:Int)==48)=true:=by simp [h3]
  clear h3;go_enter Tryz.func84, Tryz.ntmps84;go_wp2_with fail
  exact zc7 rfl 0 rfl (by rw [HZ.out];exact q0) rfl ⟨rfl,b0⟩
theorem pp (w:World) (s:ByteArray) (h:¬ qh s) :
  Calls Tryz.prog 84 #[.string s] w fun e w'=>e = .returned (.tuple #[zD 0,.bool false])∧Below w.heap.size w w':=by
 by_cases h0:s.size=0
 ·exact zfH w s (.inl h0)
 ·by_cases h1:2000<s.size
  ·exact zfH w s (.inr (.inl h1))
  ·by_cases h2:∃ h:1<s.size,s[0].toNat=48
   ·exact zfH w s (.inr (.inr ⟨by omega,h2⟩))
   ·have hl:∀ h:1<s.size,s[0].toNat≠48:=fun h3 h4=>h2 ⟨h3,h4⟩;have hex:∃ j,∃ h:j<s.size,¬ (48≤s[j].toNat∧s[j].toNat≤57):=by
     refine Classical.byContradiction fun hno=>h ⟨by omega,by omega,fun k hk=>?_,hl⟩;exact Classical.byContradiction fun h3=>hno ⟨k,hk,h3⟩
    have hmin:∀ m,(∃ j,j<m∧∃ h:j<s.size,¬ (48≤s[j].toNat∧s[j].toNat≤57))→∃ j,∃ h:j<s.size,¬ (48≤s[j].toNat∧s[j].toNat≤57)∧∀ k,k<j→∀ h:k<s.size,48≤s[k].toNat∧s[k].toNat≤57:=fun m=>by
     induction m with
     | zero=>rintro ⟨j,hj,_⟩;omega
     | succ m ih =>
       rintro ⟨j,hj,hjs,hbad⟩;by_cases hlow:∃ j,j<m∧∃ h:j<s.size,¬ (48≤s[j].toNat∧s[j].toNat≤57)
       ·exact ih hlow
       ·refine ⟨j,hjs,hbad,fun k hk hks=>Classical.byContradiction fun h3=>hlow ⟨k,by omega,hks,h3⟩⟩
    obtain ⟨j0,hj0,hb0⟩:=hex;obtain ⟨j,hj,hb,hd⟩:=hmin (j0+1) ⟨j0,by omega,hj0,hb0⟩;exact zls w s j (by omega) (by omega) hl hj hd (by omega)
end Go.Proofs.YtoljkoifgnmbgaaGreatDoor
end
end
section
section
open Go Go.RowKit Cs
namespace Go.Proofs.YtoljkoifgnmbgaaGreatDoor
def ptext (n d:Nat):ByteArray:=if qd d=1 then zj n else zj n++⟨#[47]⟩++zj d
theorem zin (w:World) (n d:Nat) (hn:n8 n≤100000) (hd:n8 d≤100000):Calls Tryz.prog 69 #[zZ n d] w fun e w'=>e = .returned (.string (ptext n d))∧Below w.heap.size w w':=by
 have hde:=fun W=>zdG W n d (by omega);have h1:=zhs d hd;have hcm:=fun W=>zj4 W (qd d) 1 (by omega) (by have:=n8_64 (n:=1) (by decide);omega);have htn:=fun W=>zha W n (by omega);have htd:=fun W=>zha W d (by omega);have hq:=zcK w n d 60 _ rfl;have hbel:=(Below.refl w.heap.size w).alloc (zi _) (.cells #[.string (zb n),.string (zb d)] 60);have hcz:(qH (qd d) 1==0)=decide (qd d=1):=by
  have:(qH (qd d) 1=0)↔qd d=1:=by
   unfold qH;split
   ·constructor <;> intro h <;> omega
   ·split
    ·simp [*]
    ·simp [*]
  by_cases h:qd d=1
  ·rw [decide_eq_true h];simpa using this.2 h
  ·rw [decide_eq_false h];simpa using fun h2=>h (this.1 h2)
 have hpt:ptext n d=if qd d=1 then zj n else zj n++⟨#[47]⟩++zj d:=rfl
 rw [hpt];clear hpt;have hsn:(zj n).size≤300000:=by rw [qO];have:=zjo n _ hn;unfold zB;omega
 have hsd:(zj d).size≤300000:=by rw [qO];have:=zjo d _ hd;unfold zB;omega
 have hs1:∀ W:World,(Op.stringOp .add (zj n) ⟨#[47]⟩).run Tryz.prog W = .ok (.string (zj n++⟨#[47]⟩)) W:=fun W=>run_string_add_sum W _ _ (by have:(ByteArray.mk #[47]).size=1:=rfl;omega);have hs2:∀ W:World,(Op.stringOp .add (zj n++⟨#[47]⟩) (zj d)).run Tryz.prog W = .ok (.string (zj n++⟨#[47]⟩++zj d)) W:=fun W=>run_string_add_sum W _ _ (by
  rw [ByteArray.size_append];have:(ByteArray.mk #[47]).size=1:=rfl;omega)
 clear hsn hsd;generalize qH (qd d) 1=M at *
 generalize qd d=Q at *
 generalize zj n=DN at *
 generalize zj d=DD at *
 have HDE:=za hde;have HCM:=za hcm;have HTN:=za htn;have HTD:=za htd;clear hde hcm htn htd h1 hn hd;have HIF:Hid ((if Q=1 then DN else DN++⟨#[47]⟩++DD)=(if (M==0)=true then DN else DN++⟨#[47]⟩++DD)):=za (by rw [hcz];by_cases h:Q=1 <;> simp [h]);rw [HIF.out];clear hcz HIF;rcases Bool.eq_false_or_eq_true (M==0) with hM | hM
 ·rw [if_pos hM];go_enter Tryz.func69, Tryz.ntmps69;go_wp2_with (first
   | (go_at_call 89
      (with_reducible refine (HDE.out _).mono ?_);rintro e w1 ⟨rfl,hb1⟩;replace hq:=zh hq hb1;have hz1:=hb1.size;simp at hz1;replace hbel:=hbel.trans (hb1.mono (by simp));clear hb1)
   | (go_at_call 47
      (with_reducible refine (zfG _).mono ?_);rintro e w2 ⟨rfl,hb2⟩;replace hq:=zh hq hb2;have hz2:=hb2.size;replace hbel:=hbel.trans (hb2.mono (by omega));clear hb2)
   | (go_at_call 35
      (with_reducible refine (HCM.out _).mono ?_);rintro e w3 ⟨rfl,hb3⟩;replace hq:=zh hq hb3;have hz3:=hb3.size;replace hbel:=hbel.trans (hb3.mono (by omega));obtain ⟨c0,c1⟩:=qB hq;clear hb3)
   | (go_at_call 68
      (with_reducible refine (HTN.out _).mono ?_);rintro e w4 ⟨rfl,hb4⟩;replace hbel:=hbel.trans (hb4.mono (by omega))))
  go_ret;exact ⟨rfl,hbel⟩
 ·rw [if_neg (by rw [hM];decide)];go_enter Tryz.func69, Tryz.ntmps69;go_wp2_with (first
   | (go_at_call 89
      (with_reducible refine (HDE.out _).mono ?_);rintro e w1 ⟨rfl,hb1⟩;replace hq:=zh hq hb1;have hz1:=hb1.size;simp at hz1;replace hbel:=hbel.trans (hb1.mono (by simp));clear hb1)
   | (go_at_call 47
      (with_reducible refine (zfG _).mono ?_);rintro e w2 ⟨rfl,hb2⟩;replace hq:=zh hq hb2;have hz2:=hb2.size;replace hbel:=hbel.trans (hb2.mono (by omega));clear hb2)
   | (go_at_call 35
      (with_reducible refine (HCM.out _).mono ?_);rintro e w3 ⟨rfl,hb3⟩;replace hq:=zh hq hb3;have hz3:=hb3.size;replace hbel:=hbel.trans (hb3.mono (by omega));obtain ⟨c0,c1⟩:=qB hq;clear hb3)
   | (go_at_call 68
      (with_reducible refine (HTN.out _).mono ?_);rintro e w4 ⟨rfl,hb4⟩;replace hbel:=hbel.trans (hb4.mono (by omega))))
  replace hq:=hq.drew;have hbd:Below w.heap.size w w3.drew:=hbel.drew;obtain ⟨c0,c1⟩:=qB hq;go_region_held3 (fun w'=>w'.cell? ⟨w.heap.size,0,none⟩=some (.string (zb n))∧w'.cell? ⟨w.heap.size,1,none⟩=some (.string (zb d)))
   (first | exact ⟨c0,c1⟩ | go_keep)
   (first
     | (go_simp
        go_at_call 68;(with_reducible first | refine (HTN.out _).mono ?_ | refine (HTD.out _).mono ?_);rintro e w9 ⟨rfl,hb9⟩;replace hbd:=hbd.trans (hb9.mono (by have:=hbd.size;omega));replace hq:=zh hq hb9;obtain ⟨c0,c1⟩:=qB hq))
  all_goals
   try go_wp2
   go_ret;exact ⟨rfl,hbd⟩
end Go.Proofs.YtoljkoifgnmbgaaGreatDoor
end
section
open Go Go.RowKit Cs
namespace Cs
def yx (s:ByteArray):Int:=Lib.indexByte s.data.toList 47
theorem zi7:∀ (l:List UInt8),Lib.indexByte l 47 = -1∨∃ i:Nat,Lib.indexByte l 47=(i:Int)∧i<l.length∧l[i]?=some 47
 | []=>.inl rfl
 | b::l=>by
   unfold Lib.indexByte;by_cases h:b=47
   ·subst h;rw [if_pos (by rfl)];exact .inr ⟨0,rfl,by simp,rfl⟩
   ·rw [if_neg (by simpa using h)];rcases zi7 l with h1 | ⟨i,h1,h2,h3⟩
    ·rw [h1];exact .inl rfl
    ·rw [h1,if_neg (by simp <;> omega)];exact .inr ⟨i+1,by simp,by simp <;> omega,by simpa using h3⟩
theorem zfs (s:ByteArray):yx s = -1∨∃ i:Nat,yx s=(i:Int)∧i<s.size:=by
 rcases zi7 s.data.toList with h | ⟨i,h1,h2,_⟩
 ·exact .inl h
 ·exact .inr ⟨i,h1,by simpa using h2⟩
end Cs
namespace Go.Proofs.YtoljkoifgnmbgaaGreatDoor
theorem zju (w:World) (s:ByteArray):Calls Tryz.prog 167 #[.string s,.int .u8 47] w fun e w'=>e = .returned (.int .i64 (yx s))∧w=w':=by
 go_enter Tryz.func167, Tryz.ntmps167;go_wp2;rw [run_callFunc_extern Tryz.func179 (by kernel_rfl) (by kernel_rfl) (by kernel_rfl) (e:=Extern.BytealgIndexByte.indexByte) (by kernel_rfl),Lib.run_indexByteString];simp only [Result.andThen];rw [Oper.upon_value];go_wp2;go_ret;exact ⟨rfl,rfl⟩
theorem idx_any (w:World) (s:ByteArray):Calls Tryz.prog 155 #[.string s,.string ⟨#[47]⟩] w fun e w'=>e = .returned (.int .i64 (yx s))∧w=w':=by
 have hix:=fun W=>zju W s;by_cases h:s.toList=[47]
 ·have hs:yx s=0:=by
   unfold yx;rw [show s.data.toList=[47] by rw [← h,ByteArray.toList_eq]];rfl
  rw [hs];have h1:([47]==s.toList)=true:=by rw [h];rfl
  clear hs h;go_enter Tryz.func155, Tryz.ntmps155;go_wp2_with fail
  go_ret;exact ⟨rfl,rfl⟩
 ·have h1:([47]==s.toList)=false:=beq_eq_false_iff_ne.2 (fun e=>h e.symm);have HIX:=za hix;clear hix h;generalize yx s=x at *
  go_enter Tryz.func155, Tryz.ntmps155;go_wp2_with fail
  refine (HIX.out _).mono ?_;rintro e w' ⟨rfl,rfl⟩;go_wp2_with fail
  go_ret;exact ⟨rfl,rfl⟩
def yl (s:ByteArray):ByteArray:=if yx s = -1 then s else s.extract 0 (yx s).toNat
def yv (s:ByteArray):ByteArray:=if yx s = -1 then ⟨#[]⟩ else s.extract ((yx s).toNat+1) s.size
theorem cut2_any (w:World) (s:ByteArray) (hs:s.size≤maxLen):Calls Tryz.prog 131 #[.string s,.string ⟨#[47]⟩] w fun e w'=>e = .returned (.tuple #[.string (yl s),.string (yv s),.bool (decide (yx s≠-1))])∧Below w.heap.size w w':=by
 unfold maxLen at hs;have hix:=fun W=>idx_any W s;unfold yl yv;rcases zfs s with h | ⟨i,h,hi⟩
 ·rw [if_pos h,if_pos h,decide_eq_false (by simp [h])];rw [h] at hix;have HIX:=za hix;clear hix h;go_enter Tryz.func131, Tryz.ntmps131;go_wp2_with (go_at_call 155;(with_reducible refine (HIX.out _).mono ?_);rintro e w' ⟨rfl,rfl⟩)
  go_ret3;exact ⟨rfl,zA _ _⟩
 ·rw [if_neg (by omega),if_neg (by omega),decide_eq_true (by omega)];rw [h] at hix ⊢;rw [Int.toNat_natCast];have HIX:=za hix;clear hix h;have c1:(0:Int)≤(i:Int):=by omega
  have c2:(i:Int)≤(s.size:Int):=by omega
  have c3:(0:Int)≤(i:Int)+1:=by omega
  have c4:(i:Int)+1≤(s.size:Int):=by omega
  have c5:decide ((0:Int)≤(i:Int))=true:=decide_eq_true c1;go_enter Tryz.func131, Tryz.ntmps131;go_wp2_with (go_at_call 155;(with_reducible refine (HIX.out _).mono ?_);rintro e w' ⟨rfl,rfl⟩)
  go_region
  all_goals
   go_wp2_with fail
   go_ret3;exact ⟨rfl,(zA _ _).drew⟩
theorem scut_any (w:World) (s:ByteArray) (hs:s.size≤maxLen):Calls Tryz.prog 83 #[.string s,.string ⟨#[47]⟩] w fun e w'=>e = .returned (.tuple #[.string (yl s),.string (yv s),.bool (decide (yx s≠-1))])∧Below w.heap.size w w':=by
 have hct:=fun W=>cut2_any W s hs;generalize yl s=a at *
 generalize yv s=b at *
 generalize decide (yx s≠-1)=c at *
 have HCT:=za hct;clear hct;go_enter Tryz.func83, Tryz.ntmps83;go_wp2_with (go_at_call 131;(with_reducible refine (HCT.out _).mono ?_);rintro e w' ⟨rfl,hb⟩)
 go_ret3;exact ⟨rfl,hb⟩
end Go.Proofs.YtoljkoifgnmbgaaGreatDoor
end
section
open Go Go.RowKit Cs
namespace Cs
theorem dg_snoc0 (x d:Nat) (h:d<10):dg 10 (x*10+d) 0=d:=by unfold dg;simp;omega
theorem dg_snoc1 (x d j:Nat) (h:d<10):dg 10 (x*10+d) (j+1)=dg 10 x j:=by
 unfold dg;rw [Nat.pow_succ,Nat.mul_comm (10^j),← Nat.div_div_eq_div_mul];congr 2;omega
def sdg (l:List UInt8) (i:Nat):Nat:=(l.getD i 0).toNat-48
theorem oP (l:List UInt8) (h:∀ i,(l.getD i 0).toNat≤57):∀ k j,j<k→dg 10 (yL l k) j=sdg l (k-1-j)
 | 0,j,hj=>by omega
 | k+1,j,hj=>by
   have hd:sdg l k<10:=by unfold sdg;have:=h k;omega
   show dg 10 (yL l k*10+sdg l k) j=_;cases j with
   | zero=>rw [dg_snoc0 _ _ hd];simp
   | succ j =>
     rw [dg_snoc1 _ _ _ hd,oP l h k j (by omega)];congr 1;omega
theorem oM (l:List UInt8) (h0:1≤sdg l 0):∀ k,10^k≤yL l (k+1)
 | 0=>by show 1≤yL l 0*10+sdg l 0;omega
 | k+1=>by
   have:=oM l h0 k;show 10^(k+1)≤yL l (k+1)*10+_;rw [Nat.pow_succ];omega
theorem zc3 (s:ByteArray) (i:Nat) (h:i<s.size):s.data.toList.getD i 0=s[i]:=by
 rw [List.getD_eq_getElem?_getD,List.getElem?_eq_getElem (by simpa using h)];rfl
theorem zgD (s:ByteArray) (h:allDig s) (i:Nat):(s.data.toList.getD i 0).toNat≤57:=by
 rcases Nat.lt_or_ge i s.size with hi | hi
 ·rw [zc3 s i hi];exact (h i hi).2
 ·rw [List.getD_eq_getElem?_getD,List.getElem?_eq_none (by simpa using hi)];decide
def qA (s:ByteArray):Nat:=yL s.data.toList s.size
theorem zjm {s:ByteArray} (h:qh s):qA s<10^s.size:=oK _ (zgD s h.dig) _
theorem ze0 {s:ByteArray} (h:qh s):n8 (qA s)≤2000:=by
 refine Nat.le_trans ((jv s.size _).2 (Nat.lt_of_lt_of_le (zjm h) (Nat.pow_le_pow_left (by decide) _))) h.few
theorem ziw {s:ByteArray} (h:qh s):zB (qA s)=s.size:=by
 have hp:=h.pos;by_cases h1:s.size=1
 ·have:=zjm h;rw [h1] at this ⊢;unfold zB;have:nd 10 (qA s)≤1:=(yh 10 (by decide) 1 _).2 this;omega
 ·have hl:=h.led (by omega);have hd:=h.dig 0 hp;have h0:1≤sdg s.data.toList 0:=by
   unfold sdg;rw [zc3 s 0 hp];omega
  obtain ⟨m,hm⟩:∃ m,s.size=m+1:=⟨s.size-1,by omega⟩;have h2:=oM _ h0 m;have h3:=zjm h;have h4:nd 10 (qA s)=s.size:=nd_eq 10 (by decide) _ _ h3 (.inr (by
   unfold qA;rw [hm];exact h2))
  unfold zB;omega
theorem gW {s:ByteArray} (h:qh s):s=zj (qA s):=by
 have hs:(zj (qA s)).size=s.size:=by rw [qO,ziw h]
 refine ByteArray.ext_getElem hs.symm fun i h1 h2=>?_;have e:=zcC (qA s) i h2;rw [ziw h] at e;have hd:dg 10 (qA s) (s.size-1-i)=sdg s.data.toList (s.size-1-(s.size-1-i)):=oP s.data.toList (zgD s h.dig) s.size (s.size-1-i) (by omega);have hi:=h.dig i h1;rw [hd] at e;unfold sdg at e;rw [show s.size-1-(s.size-1-i)=i by omega,zc3 s i h1] at e;refine UInt8.toNat_inj.1 ?_;omega
theorem zk3 (V:Nat):∀ k,k≤zB V→yL (zj V).data.toList k=V / 10^(zB V-k)
 | 0,_=>by
   show 0=_;rw [Nat.sub_zero,Nat.div_eq_of_lt];exact Nat.lt_of_lt_of_le (jE 10 V (by decide)) (Nat.pow_le_pow_right (by decide) (gu V))
 | k+1,hk=>by
   have hk2:k<(zj V).size:=by rw [qO];omega
   have hg:=zcC V k hk2;show yL (zj V).data.toList k*10+(((zj V).data.toList.getD k 0).toNat-48)=_;rw [zk3 V k (by omega),zc3 _ _ hk2,hg,show zB V-k=(zB V-(k+1))+1 by omega,show zB V-1-k=zB V-(k+1) by omega];unfold dg;rw [Nat.pow_succ,← Nat.div_div_eq_div_mul];omega
theorem oQ (V:Nat) (h:zB V≤2000):qh (zj V)∧qA (zj V)=V:=by
 have hs:=qO V;have h1:=zce V;refine ⟨⟨by omega,by omega,fun k hk=>?_,fun hk=>?_⟩,?_⟩
 ·have:=zcC V k hk;have:=y9 V (zB V-1-k);omega
 ·have e:=zcC V 0 (by omega);have h5:1<zB V:=by rw [← hs];exact hk
  have hn:nd 10 V=zB V:=by unfold zB at h5 ⊢;omega
  have hV:0<V:=by
   rcases Nat.eq_zero_or_pos V with h0 | h0
   ·rw [h0,zbT] at hn;have:=zce 0;omega
   ·exact h0
  have ht:=zk0 10 V (by decide) hV;rw [hn] at ht;have e2:(zj V)[0].toNat=48+dg 10 V (zB V-1):=e;omega
 ·unfold qA;rw [hs,zk3 V _ (zi _),Nat.sub_self,Nat.pow_zero,Nat.div_one]
theorem zku:∀ l:List UInt8,(∀ b∈l,b≠47)→Lib.indexByte l 47 = -1
 | [],_=>rfl
 | b::l,h=>by
   unfold Lib.indexByte;rw [if_neg (by simpa using h b (by simp)),zku l (fun c hc=>h c (by simp [hc]))];rfl
theorem idx_at:∀ (a l:List UInt8),(∀ b∈a,b≠47)→Lib.indexByte (a++47::l) 47=(a.length:Int)
 | [],l,_=>by
   show Lib.indexByte (47::l) 47=0;unfold Lib.indexByte;rw [if_pos (by rfl)]
 | b::a,l,h=>by
   show Lib.indexByte (b::(a++47::l)) 47=_;unfold Lib.indexByte;rw [if_neg (by simpa using h b (by simp)),idx_at a l (fun c hc=>h c (by simp [hc])),if_neg (by simp <;> omega)];simp
theorem zfR (V:Nat):∀ b∈(zj V).data.toList,b≠47:=fun b hb=>by
 obtain ⟨i,hi,rfl⟩:=List.getElem_of_mem hb;have hi2:i<(zj V).size:=by simpa using hi
 have:=zcC V i hi2;intro e;have e2:(zj V)[i]=47:=e;rw [e2] at this;have h47:(47:UInt8).toNat=47:=rfl;omega
theorem xQ (V:Nat):yx (zj V) = -1:=zku _ (zfR V)
theorem zeq (V D:Nat):yx (zj V++⟨#[47]⟩++zj D)=((zj V).size:Int):=by
 unfold yx;have e:(zj V++⟨#[47]⟩++zj D).data.toList=(zj V).data.toList++47::(zj D).data.toList:=by simp
 rw [e,idx_at _ _ (zfR V)];simp
end Cs
end
end
section
section
open Go Go.RowKit Cs
namespace Cs
theorem gR {q:Rat}:Go.Proofs.YtoljkoifgnmbgaaGreatDoor.ptext (qn q) q.den=jd q:=by
 unfold Go.Proofs.YtoljkoifgnmbgaaGreatDoor.ptext jd;rw [yE (Rat.den_pos q)]
end Cs
namespace Go.Proofs.YtoljkoifgnmbgaaGreatDoor
def rdV (N D:Nat):Value:=.tuple #[zZ N D,.bool true]
def yX:Value:=.tuple #[zZ 0 0,.bool false]
def NR (s:ByteArray) (V:Nat) (ok:Bool):Prop:=∀ W,Calls Tryz.prog 84 #[.string s] W fun e w'=>e = .returned (.tuple #[zD V,.bool ok])∧Below W.heap.size W w'
theorem zeb {s:ByteArray} (h:qh s):NR s (qA s) true:=fun W=>zlr W s h
theorem jj {s:ByteArray} (h:¬ qh s):NR s 0 false:=fun W=>pp W s h
def CT (s n d:ByteArray) (b:Bool):Prop:=∀ W,Calls Tryz.prog 83 #[.string s,.string ⟨#[47]⟩] W fun e w'=>e = .returned (.tuple #[.string n,.string d,.bool b])∧Below W.heap.size W w'
def NW (V D N M:Nat) (ok:Bool):Prop:=∀ W,Calls Tryz.prog 85 #[zD V,zD D] W fun e w'=>e = .returned (.tuple #[zZ N M,.bool ok])∧Below W.heap.size W w'
def TX (N M:Nat) (t:ByteArray):Prop:=∀ W,Calls Tryz.prog 69 #[zZ N M] W fun e w'=>e = .returned (.string t)∧Below W.heap.size W w'
theorem n8_one:n8 1≤1:=(jv _ _).2 (by decide)
theorem toList_inj {a b:ByteArray} (h:a.toList=b.toList):a=b:=by
 have h2:a.data.toList=b.data.toList:=by rwa [ByteArray.toList_eq,ByteArray.toList_eq] at h
 exact ByteArray.ext (Array.toList_inj.1 h2)
theorem qread_w1 (w:World) (s d:ByteArray) (b:Bool) (V:Nat) (hct:CT s s d b) (hrc:NR s V false) :
  Calls Tryz.prog 39 #[.string s] w fun e w'=>e = .returned yX∧Below w.heap.size w w':=by
 have hone:=fun W=>zdc W 1 (by decide);have HCT:=za hct;have HRC:=za hrc;have HON:=za hone;clear hct hrc hone;have r0:=zcl w 60 w.heap.size rfl;have hb0:=(Below.refl w.heap.size w).alloc (zi _) (.cells #[.string ⟨#[]⟩,.string ⟨#[]⟩] 60);go_enter Tryz.func39, Tryz.ntmps39;go_wp2_with fail
 refine (HCT.out _).mono ?_;rintro e w1 ⟨rfl,hb1⟩;have z1:=hb1.size;simp at z1;replace r0:=zh r0 hb1;replace hb0:=hb0.trans (hb1.mono (by simp));go_wp2_with fail
 refine (HRC.out _).mono ?_;rintro e w2 ⟨rfl,hb2⟩;have z2:=hb2.size;replace r0:=(zh r0 hb2).alloc (.cells #[.string (zb V)] 54);replace hb0:=(hb0.trans (hb2.mono (by omega))).alloc (by omega) (.cells #[.string (zb V)] 54);have r1:=qu w2 (.string (zb V)) 54 w2.heap.size rfl;go_wp2_with fail
 refine (HON.out _).mono ?_;rintro e w3 ⟨rfl,hb3⟩;have z3:=hb3.size;simp at z3;replace r0:=(zh r0 hb3).alloc (.cells #[.string (zb 1)] 54);replace hb0:=(hb0.trans (hb3.mono (by simp;omega))).alloc (by omega) (.cells #[.string (zb 1)] 54);replace r1:=(zh r1 hb3).alloc (.cells #[.string (zb 1)] 54);have r2:=qu w3 (.string (zb 1)) 54 w3.heap.size rfl;have z4:(w3.alloc (.cells #[.string (zb 1)] 54)).heap.size=w3.heap.size+1:=by simp
 have n02:w.heap.size≠w2.heap.size:=by omega
 have n03:w.heap.size≠w3.heap.size:=by omega
 have n23:w2.heap.size≠w3.heap.size:=by omega
 have l0:w.heap.size≤w2.heap.size:=by omega
 have l1:w.heap.size≤w3.heap.size:=by omega
 have l4:w.heap.size≤(w3.alloc (.cells #[.string (zb 1)] 54)).heap.size:=by omega
 clear hb1 hb2 hb3 z1 z2 z3;generalize w2.heap.size=B2 at *
 obtain ⟨c0,c1⟩:=qB r0;have f0:=r0.frozen 0;have f1:=r0.frozen 1;go_wp2_with fail
 have hs:=zcJ r0 0 0;rw [yI] at hs;exact xy rfl 0 0 rfl rfl hs rfl ⟨rfl,(hb0.setCell (zi _) _).setCell (zi _) _⟩
theorem qread_w2 (w:World) (s d:ByteArray) (b:Bool) (V N M:Nat) (hct:CT s s d b) (hrc:NR s V true) (hnw:NW V 1 N M true) (htx:TX N M s) :
  Calls Tryz.prog 39 #[.string s] w fun e w'=>e = .returned (rdV N M)∧Below w.heap.size w w':=by
 have hone:=fun W=>zdc W 1 (by decide);have HCT:=za hct;have HRC:=za hrc;have HON:=za hone;have HNW:=za hnw;have HTX:=za htx;clear hct hrc hone hnw htx;have r0:=zcl w 60 w.heap.size rfl;have hb0:=(Below.refl w.heap.size w).alloc (zi _) (.cells #[.string ⟨#[]⟩,.string ⟨#[]⟩] 60);go_enter Tryz.func39, Tryz.ntmps39;go_wp2_with fail
 refine (HCT.out _).mono ?_;rintro e w1 ⟨rfl,hb1⟩;have z1:=hb1.size;simp at z1;replace r0:=zh r0 hb1;replace hb0:=hb0.trans (hb1.mono (by simp));go_wp2_with fail
 refine (HRC.out _).mono ?_;rintro e w2 ⟨rfl,hb2⟩;have z2:=hb2.size;replace r0:=(zh r0 hb2).alloc (.cells #[.string (zb V)] 54);replace hb0:=(hb0.trans (hb2.mono (by omega))).alloc (by omega) (.cells #[.string (zb V)] 54);have r1:=qu w2 (.string (zb V)) 54 w2.heap.size rfl;go_wp2_with fail
 refine (HON.out _).mono ?_;rintro e w3 ⟨rfl,hb3⟩;have z3:=hb3.size;simp at z3;replace r0:=(zh r0 hb3).alloc (.cells #[.string (zb 1)] 54);replace hb0:=(hb0.trans (hb3.mono (by simp;omega))).alloc (by omega) (.cells #[.string (zb 1)] 54);replace r1:=(zh r1 hb3).alloc (.cells #[.string (zb 1)] 54);have r2:=qu w3 (.string (zb 1)) 54 w3.heap.size rfl;have z4:(w3.alloc (.cells #[.string (zb 1)] 54)).heap.size=w3.heap.size+1:=by simp
 have n02:w.heap.size≠w2.heap.size:=by omega
 have n03:w.heap.size≠w3.heap.size:=by omega
 have n23:w2.heap.size≠w3.heap.size:=by omega
 have l0:w.heap.size≤w2.heap.size:=by omega
 have l1:w.heap.size≤w3.heap.size:=by omega
 have l4:w.heap.size≤(w3.alloc (.cells #[.string (zb 1)] 54)).heap.size:=by omega
 clear hb1 hb2 hb3 z1 z2 z3;generalize w2.heap.size=B2 at *
 have c1:=zN r1;have c2:=zN r2;go_wp2_with fail
 refine (HNW.out _).mono ?_;rintro e w7 ⟨rfl,hb7⟩;have z7:=hb7.size;replace r0:=(zh r0 hb7).alloc (.cells #[.string (zb N),.string (zb M)] 60);replace hb0:=(hb0.trans (hb7.mono l4)).alloc (by omega) (.cells #[.string (zb N),.string (zb M)] 60);have r4:=zcK w7 N M 60 w7.heap.size rfl;clear c1 c2 r1 r2;obtain ⟨e0,e1⟩:=qB r4;go_wp2_with fail
 refine (HTX.out _).mono ?_;rintro e w8 ⟨rfl,hb8⟩;have z8:=hb8.size;simp at z8;replace r0:=zh r0 hb8;replace r4:=zh r4 hb8;replace hb0:=hb0.trans (hb8.mono (by simp;omega));clear e0 e1;obtain ⟨e0,e1⟩:=qB r4;obtain ⟨d0,d1⟩:=qB r0;have f0:=r0.frozen 0;have f1:=r0.frozen 1;go_wp2_with fail
 exact xy rfl N M rfl rfl (zcJ r0 N M) rfl ⟨rfl,(hb0.setCell (zi _) _).setCell (zi _) _⟩
theorem zhj (w:World) (s n d:ByteArray) (b:Bool) (V D:Nat) (ok okd:Bool) (hne:n≠s) (hct:CT s n d b) (hrc:NR n V ok) (hrd:NR d D okd) (hok:(ok&&okd)=false) :
  Calls Tryz.prog 39 #[.string s] w fun e w'=>e = .returned yX∧Below w.heap.size w w':=by
 have hneB:(n.toList==s.toList)=false:=beq_eq_false_iff_ne.2 fun e=>hne (toList_inj e);have hone:=fun W=>zdc W 1 (by decide);have HCT:=za hct;have HRC:=za hrc;have HON:=za hone;have HRD:=za hrd;clear hct hrc hone hrd;have r0:=zcl w 60 w.heap.size rfl;have hb0:=(Below.refl w.heap.size w).alloc (zi _) (.cells #[.string ⟨#[]⟩,.string ⟨#[]⟩] 60);go_enter Tryz.func39, Tryz.ntmps39;go_wp2_with fail
 refine (HCT.out _).mono ?_;rintro e w1 ⟨rfl,hb1⟩;have z1:=hb1.size;simp at z1;replace r0:=zh r0 hb1;replace hb0:=hb0.trans (hb1.mono (by simp));go_wp2_with fail
 refine (HRC.out _).mono ?_;rintro e w2 ⟨rfl,hb2⟩;have z2:=hb2.size;replace r0:=(zh r0 hb2).alloc (.cells #[.string (zb V)] 54);replace hb0:=(hb0.trans (hb2.mono (by omega))).alloc (by omega) (.cells #[.string (zb V)] 54);have r1:=qu w2 (.string (zb V)) 54 w2.heap.size rfl;go_wp2_with fail
 refine (HON.out _).mono ?_;rintro e w3 ⟨rfl,hb3⟩;have z3:=hb3.size;simp at z3;replace r0:=(zh r0 hb3).alloc (.cells #[.string (zb 1)] 54);replace hb0:=(hb0.trans (hb3.mono (by simp;omega))).alloc (by omega) (.cells #[.string (zb 1)] 54);replace r1:=(zh r1 hb3).alloc (.cells #[.string (zb 1)] 54);have r2:=qu w3 (.string (zb 1)) 54 w3.heap.size rfl;have z4:(w3.alloc (.cells #[.string (zb 1)] 54)).heap.size=w3.heap.size+1:=by simp
 have n02:w.heap.size≠w2.heap.size:=by omega
 have n03:w.heap.size≠w3.heap.size:=by omega
 have n23:w2.heap.size≠w3.heap.size:=by omega
 have l0:w.heap.size≤w2.heap.size:=by omega
 have l1:w.heap.size≤w3.heap.size:=by omega
 have l4:w.heap.size≤(w3.alloc (.cells #[.string (zb 1)] 54)).heap.size:=by omega
 clear hb1 hb2 hb3 z1 z2 z3;generalize w2.heap.size=B2 at *
 go_wp2_with fail
 refine (HRD.out _).mono ?_;rintro e w5 ⟨rfl,hb5⟩;have z5:=hb5.size;replace r0:=(zh r0 hb5).setOther (a:=⟨w3.heap.size,0,none⟩) n03 (.string (zb D));replace r1:=(zh r1 hb5).setOther (a:=⟨w3.heap.size,0,none⟩) n23 (.string (zb D));replace hb0:=(hb0.trans (hb5.mono l4)).setCell (p:=⟨w3.heap.size,0,none⟩) l1 (.string (zb D));replace r2:=zh r2 hb5;have c2:=zN r2;have f2:=r2.frozen 0;replace r2:=qP r2 (.string (zb D));have z6:(w5.setCell ⟨w3.heap.size,0,none⟩ (.string (zb D))).heap.size=w5.heap.size:=zf _ _ _;replace l4:w.heap.size≤w5.heap.size:=by omega
 obtain ⟨c0,c1⟩:=qB r0;have f0:=r0.frozen 0;have f1:=r0.frozen 1;cases ok <;> cases okd
 ·clear hok;go_wp2_with fail
  have hs:=zcJ r0 0 0;rw [yI] at hs;exact xy rfl 0 0 rfl rfl hs rfl ⟨rfl,(hb0.setCell (zi _) _).setCell (zi _) _⟩
 ·clear hok;go_wp2_with fail
  have hs:=zcJ r0 0 0;rw [yI] at hs;exact xy rfl 0 0 rfl rfl hs rfl ⟨rfl,(hb0.setCell (zi _) _).setCell (zi _) _⟩
 ·clear hok;go_wp2_with fail
  have hs:=zcJ r0 0 0;rw [yI] at hs;exact xy rfl 0 0 rfl rfl hs rfl ⟨rfl,(hb0.setCell (zi _) _).setCell (zi _) _⟩
 ·cases hok
theorem qread_w4 (w:World) (s n d:ByteArray) (b:Bool) (V D:Nat) (hne:n≠s) (hct:CT s n d b) (hrc:NR n V true) (hrd:NR d D true) (hnw:NW V D 0 0 false) :
  Calls Tryz.prog 39 #[.string s] w fun e w'=>e = .returned yX∧Below w.heap.size w w':=by
 have hneB:(n.toList==s.toList)=false:=beq_eq_false_iff_ne.2 fun e=>hne (toList_inj e);have hone:=fun W=>zdc W 1 (by decide);have HCT:=za hct;have HRC:=za hrc;have HON:=za hone;have HRD:=za hrd;have HNW:=za hnw;clear hct hrc hone hrd hnw;have r0:=zcl w 60 w.heap.size rfl;have hb0:=(Below.refl w.heap.size w).alloc (zi _) (.cells #[.string ⟨#[]⟩,.string ⟨#[]⟩] 60);go_enter Tryz.func39, Tryz.ntmps39;go_wp2_with fail
 refine (HCT.out _).mono ?_;rintro e w1 ⟨rfl,hb1⟩;have z1:=hb1.size;simp at z1;replace r0:=zh r0 hb1;replace hb0:=hb0.trans (hb1.mono (by simp));go_wp2_with fail
 refine (HRC.out _).mono ?_;rintro e w2 ⟨rfl,hb2⟩;have z2:=hb2.size;replace r0:=(zh r0 hb2).alloc (.cells #[.string (zb V)] 54);replace hb0:=(hb0.trans (hb2.mono (by omega))).alloc (by omega) (.cells #[.string (zb V)] 54);have r1:=qu w2 (.string (zb V)) 54 w2.heap.size rfl;go_wp2_with fail
 refine (HON.out _).mono ?_;rintro e w3 ⟨rfl,hb3⟩;have z3:=hb3.size;simp at z3;replace r0:=(zh r0 hb3).alloc (.cells #[.string (zb 1)] 54);replace hb0:=(hb0.trans (hb3.mono (by simp;omega))).alloc (by omega) (.cells #[.string (zb 1)] 54);replace r1:=(zh r1 hb3).alloc (.cells #[.string (zb 1)] 54);have r2:=qu w3 (.string (zb 1)) 54 w3.heap.size rfl;have z4:(w3.alloc (.cells #[.string (zb 1)] 54)).heap.size=w3.heap.size+1:=by simp
 have n02:w.heap.size≠w2.heap.size:=by omega
 have n03:w.heap.size≠w3.heap.size:=by omega
 have n23:w2.heap.size≠w3.heap.size:=by omega
 have l0:w.heap.size≤w2.heap.size:=by omega
 have l1:w.heap.size≤w3.heap.size:=by omega
 have l4:w.heap.size≤(w3.alloc (.cells #[.string (zb 1)] 54)).heap.size:=by omega
 clear hb1 hb2 hb3 z1 z2 z3;generalize w2.heap.size=B2 at *
 go_wp2_with fail
 refine (HRD.out _).mono ?_;rintro e w5 ⟨rfl,hb5⟩;have z5:=hb5.size;replace r0:=(zh r0 hb5).setOther (a:=⟨w3.heap.size,0,none⟩) n03 (.string (zb D));replace r1:=(zh r1 hb5).setOther (a:=⟨w3.heap.size,0,none⟩) n23 (.string (zb D));replace hb0:=(hb0.trans (hb5.mono l4)).setCell (p:=⟨w3.heap.size,0,none⟩) l1 (.string (zb D));replace r2:=zh r2 hb5;have c2:=zN r2;have f2:=r2.frozen 0;replace r2:=qP r2 (.string (zb D));have z6:(w5.setCell ⟨w3.heap.size,0,none⟩ (.string (zb D))).heap.size=w5.heap.size:=zf _ _ _;replace l4:w.heap.size≤w5.heap.size:=by omega
 have c1:=zN r1;have c2:=zN r2;go_wp2_with fail
 refine (HNW.out _).mono ?_;rintro e w7 ⟨rfl,hb7⟩;have z7:=hb7.size;replace r0:=(zh r0 hb7).alloc (.cells #[.string (zb 0),.string (zb 0)] 60);replace hb0:=(hb0.trans (hb7.mono (by omega))).alloc (by omega) (.cells #[.string (zb 0),.string (zb 0)] 60);have r4:=zcK w7 0 0 60 w7.heap.size rfl;clear c1 c2 r1 r2;obtain ⟨d0,d1⟩:=qB r0;have f0:=r0.frozen 0;have f1:=r0.frozen 1;go_wp2_with fail
 have hs:=zcJ r0 0 0;rw [yI] at hs hb0 ⊢;exact xy rfl 0 0 rfl rfl hs rfl ⟨rfl,(hb0.setCell (zi _) _).setCell (zi _) _⟩
theorem qread_w5 (w:World) (s n d:ByteArray) (b:Bool) (V D N M:Nat) (hne:n≠s) (hct:CT s n d b) (hrc:NR n V true) (hrd:NR d D true) (hnw:NW V D N M true) (t:ByteArray) (htx:TX N M t) (hts:t≠s) :
  Calls Tryz.prog 39 #[.string s] w fun e w'=>e = .returned yX∧Below w.heap.size w w':=by
 have hneB:(n.toList==s.toList)=false:=beq_eq_false_iff_ne.2 fun e=>hne (toList_inj e);have htB:(t.toList==s.toList)=false:=beq_eq_false_iff_ne.2 fun e=>hts (toList_inj e);have hone:=fun W=>zdc W 1 (by decide);have HCT:=za hct;have HRC:=za hrc;have HON:=za hone;have HRD:=za hrd;have HNW:=za hnw;have HTX:=za htx;clear hct hrc hone hrd hnw htx;have r0:=zcl w 60 w.heap.size rfl;have hb0:=(Below.refl w.heap.size w).alloc (zi _) (.cells #[.string ⟨#[]⟩,.string ⟨#[]⟩] 60);go_enter Tryz.func39, Tryz.ntmps39;go_wp2_with fail
 refine (HCT.out _).mono ?_;rintro e w1 ⟨rfl,hb1⟩;have z1:=hb1.size;simp at z1;replace r0:=zh r0 hb1;replace hb0:=hb0.trans (hb1.mono (by simp));go_wp2_with fail
 refine (HRC.out _).mono ?_;rintro e w2 ⟨rfl,hb2⟩;have z2:=hb2.size;replace r0:=(zh r0 hb2).alloc (.cells #[.string (zb V)] 54);replace hb0:=(hb0.trans (hb2.mono (by omega))).alloc (by omega) (.cells #[.string (zb V)] 54);have r1:=qu w2 (.string (zb V)) 54 w2.heap.size rfl;go_wp2_with fail
 refine (HON.out _).mono ?_;rintro e w3 ⟨rfl,hb3⟩;have z3:=hb3.size;simp at z3;replace r0:=(zh r0 hb3).alloc (.cells #[.string (zb 1)] 54);replace hb0:=(hb0.trans (hb3.mono (by simp;omega))).alloc (by omega) (.cells #[.string (zb 1)] 54);replace r1:=(zh r1 hb3).alloc (.cells #[.string (zb 1)] 54);have r2:=qu w3 (.string (zb 1)) 54 w3.heap.size rfl;have z4:(w3.alloc (.cells #[.string (zb 1)] 54)).heap.size=w3.heap.size+1:=by simp
 have n02:w.heap.size≠w2.heap.size:=by omega
 have n03:w.heap.size≠w3.heap.size:=by omega
 have n23:w2.heap.size≠w3.heap.size:=by omega
 have l0:w.heap.size≤w2.heap.size:=by omega
 have l1:w.heap.size≤w3.heap.size:=by omega
 have l4:w.heap.size≤(w3.alloc (.cells #[.string (zb 1)] 54)).heap.size:=by omega
 clear hb1 hb2 hb3 z1 z2 z3;generalize w2.heap.size=B2 at *
 go_wp2_with fail
 refine (HRD.out _).mono ?_;rintro e w5 ⟨rfl,hb5⟩;have z5:=hb5.size;replace r0:=(zh r0 hb5).setOther (a:=⟨w3.heap.size,0,none⟩) n03 (.string (zb D));replace r1:=(zh r1 hb5).setOther (a:=⟨w3.heap.size,0,none⟩) n23 (.string (zb D));replace hb0:=(hb0.trans (hb5.mono l4)).setCell (p:=⟨w3.heap.size,0,none⟩) l1 (.string (zb D));replace r2:=zh r2 hb5;have c2:=zN r2;have f2:=r2.frozen 0;replace r2:=qP r2 (.string (zb D));have z6:(w5.setCell ⟨w3.heap.size,0,none⟩ (.string (zb D))).heap.size=w5.heap.size:=zf _ _ _;replace l4:w.heap.size≤w5.heap.size:=by omega
 have c1:=zN r1;have c2:=zN r2;go_wp2_with fail
 refine (HNW.out _).mono ?_;rintro e w7 ⟨rfl,hb7⟩;have z7:=hb7.size;replace r0:=(zh r0 hb7).alloc (.cells #[.string (zb N),.string (zb M)] 60);replace hb0:=(hb0.trans (hb7.mono (by omega))).alloc (by omega) (.cells #[.string (zb N),.string (zb M)] 60);have r4:=zcK w7 N M 60 w7.heap.size rfl;clear c1 c2 r1 r2;obtain ⟨e0,e1⟩:=qB r4;go_wp2_with fail
 refine (HTX.out _).mono ?_;rintro e w8 ⟨rfl,hb8⟩;have z8:=hb8.size;simp at z8;replace r0:=zh r0 hb8;replace r4:=zh r4 hb8;replace hb0:=hb0.trans (hb8.mono (by simp;omega));clear e0 e1;obtain ⟨e0,e1⟩:=qB r4;obtain ⟨d0,d1⟩:=qB r0;have f0:=r0.frozen 0;have f1:=r0.frozen 1;go_wp2_with fail
 have hs:=zcJ r0 0 0;rw [yI] at hs;exact xy rfl 0 0 rfl rfl hs rfl ⟨rfl,(hb0.setCell (zi _) _).setCell (zi _) _⟩
theorem qread_w6 (w:World) (s n d:ByteArray) (b:Bool) (V D N M:Nat) (hne:n≠s) (hct:CT s n d b) (hrc:NR n V true) (hrd:NR d D true) (hnw:NW V D N M true) (htx:TX N M s) :
  Calls Tryz.prog 39 #[.string s] w fun e w'=>e = .returned (rdV N M)∧Below w.heap.size w w':=by
 have hneB:(n.toList==s.toList)=false:=beq_eq_false_iff_ne.2 fun e=>hne (toList_inj e);have hone:=fun W=>zdc W 1 (by decide);have HCT:=za hct;have HRC:=za hrc;have HON:=za hone;have HRD:=za hrd;have HNW:=za hnw;have HTX:=za htx;clear hct hrc hone hrd hnw htx;have r0:=zcl w 60 w.heap.size rfl;have hb0:=(Below.refl w.heap.size w).alloc (zi _) (.cells #[.string ⟨#[]⟩,.string ⟨#[]⟩] 60);go_enter Tryz.func39, Tryz.ntmps39;go_wp2_with fail
 refine (HCT.out _).mono ?_;rintro e w1 ⟨rfl,hb1⟩;have z1:=hb1.size;simp at z1;replace r0:=zh r0 hb1;replace hb0:=hb0.trans (hb1.mono (by simp));go_wp2_with fail
 refine (HRC.out _).mono ?_;rintro e w2 ⟨rfl,hb2⟩;have z2:=hb2.size;replace r0:=(zh r0 hb2).alloc (.cells #[.string (zb V)] 54);replace hb0:=(hb0.trans (hb2.mono (by omega))).alloc (by omega) (.cells #[.string (zb V)] 54);have r1:=qu w2 (.string (zb V)) 54 w2.heap.size rfl;go_wp2_with fail
 refine (HON.out _).mono ?_;rintro e w3 ⟨rfl,hb3⟩;have z3:=hb3.size;simp at z3;replace r0:=(zh r0 hb3).alloc (.cells #[.string (zb 1)] 54);replace hb0:=(hb0.trans (hb3.mono (by simp;omega))).alloc (by omega) (.cells #[.string (zb 1)] 54);replace r1:=(zh r1 hb3).alloc (.cells #[.string (zb 1)] 54);have r2:=qu w3 (.string (zb 1)) 54 w3.heap.size rfl;have z4:(w3.alloc (.cells #[.string (zb 1)] 54)).heap.size=w3.heap.size+1:=by simp
 have n02:w.heap.size≠w2.heap.size:=by omega
 have n03:w.heap.size≠w3.heap.size:=by omega
 have n23:w2.heap.size≠w3.heap.size:=by omega
 have l0:w.heap.size≤w2.heap.size:=by omega
 have l1:w.heap.size≤w3.heap.size:=by omega
 have l4:w.heap.size≤(w3.alloc (.cells #[.string (zb 1)] 54)).heap.size:=by omega
 clear hb1 hb2 hb3 z1 z2 z3;generalize w2.heap.size=B2 at *
 go_wp2_with fail
 refine (HRD.out _).mono ?_;rintro e w5 ⟨rfl,hb5⟩;have z5:=hb5.size;replace r0:=(zh r0 hb5).setOther (a:=⟨w3.heap.size,0,none⟩) n03 (.string (zb D));replace r1:=(zh r1 hb5).setOther (a:=⟨w3.heap.size,0,none⟩) n23 (.string (zb D));replace hb0:=(hb0.trans (hb5.mono l4)).setCell (p:=⟨w3.heap.size,0,none⟩) l1 (.string (zb D));replace r2:=zh r2 hb5;have c2:=zN r2;have f2:=r2.frozen 0;replace r2:=qP r2 (.string (zb D));have z6:(w5.setCell ⟨w3.heap.size,0,none⟩ (.string (zb D))).heap.size=w5.heap.size:=zf _ _ _;replace l4:w.heap.size≤w5.heap.size:=by omega
 have c1:=zN r1;have c2:=zN r2;go_wp2_with fail
 refine (HNW.out _).mono ?_;rintro e w7 ⟨rfl,hb7⟩;have z7:=hb7.size;replace r0:=(zh r0 hb7).alloc (.cells #[.string (zb N),.string (zb M)] 60);replace hb0:=(hb0.trans (hb7.mono (by omega))).alloc (by omega) (.cells #[.string (zb N),.string (zb M)] 60);have r4:=zcK w7 N M 60 w7.heap.size rfl;clear c1 c2 r1 r2;obtain ⟨e0,e1⟩:=qB r4;go_wp2_with fail
 refine (HTX.out _).mono ?_;rintro e w8 ⟨rfl,hb8⟩;have z8:=hb8.size;simp at z8;replace r0:=zh r0 hb8;replace r4:=zh r4 hb8;replace hb0:=hb0.trans (hb8.mono (by simp;omega));clear e0 e1;obtain ⟨e0,e1⟩:=qB r4;obtain ⟨d0,d1⟩:=qB r0;have f0:=r0.frozen 0;have f1:=r0.frozen 1;go_wp2_with fail
 exact xy rfl N M rfl rfl (zcJ r0 N M) rfl ⟨rfl,(hb0.setCell (zi _) _).setCell (zi _) _⟩
end Go.Proofs.YtoljkoifgnmbgaaGreatDoor
end
section
open Go Go.RowKit Cs
namespace Go.Proofs.YtoljkoifgnmbgaaGreatDoor
open Classical in
noncomputable def rdO (s:ByteArray):Option Rat :=
 if yx s = -1 then (if qh s then some ((qA s:Nat):Rat) else none)
 else if qh (yl s)∧qh (yv s)∧0<qA (yv s)∧jd (qq (qA (yl s)) (qA (yv s)))=s then some (qq (qA (yl s)) (qA (yv s))) else none
theorem zjY (n d:Nat):qn (qq n d)≤n:=by rw [gP];exact Nat.div_le_self _ _
theorem ziD (n d:Nat) (h:0<d):(qq n d).den≤d:=by rw [zk1,yE h];exact Nat.div_le_self _ _
theorem zim (V:Nat):jd (V:Rat)=zj V:=by unfold jd;rw [if_pos (show ((V:Nat):Rat).den=1 from rfl),ziq]
theorem oe:n8 1≤1:=(jv _ _).2 (by decide)
theorem zhi {s:ByteArray} {q:Rat} (h:rdO s=some q):0≤q∧s=jd q∧n8 (qn q)≤2000∧n8 q.den≤2000:=by
 unfold rdO at h;split at h
 ·split at h
  ·rename_i hn;injection h with h;subst h;refine ⟨Rat.natCast_nonneg,?_,?_,?_⟩
   ·rw [zim];exact gW hn
   ·exact ze0 hn
   ·have:=oe;show n8 1≤2000;omega
  ·cases h
 ·split at h
  ·rename_i hn;injection h with h;subst h;exact ⟨zf3 _ _,hn.2.2.2.symm,Nat.le_trans (zdf (zjY _ _)) (ze0 hn.1),Nat.le_trans (zdf (ziD _ _ hn.2.2.1)) (ze0 hn.2.1)⟩
  ·cases h
theorem zkx (V D:Nat):yl (zj V++⟨#[47]⟩++zj D)=zj V∧yv (zj V++⟨#[47]⟩++zj D)=zj D:=by
 have h:=zeq V D;have h1:=zce V;have hz:=qO V;constructor
 ·unfold yl;rw [h,if_neg (by omega),Int.toNat_natCast];refine ByteArray.ext ?_;refine Array.toList_inj.1 ?_;simp [ByteArray.data_extract,← ByteArray.size_data]
 ·unfold yv;rw [h,if_neg (by omega),Int.toNat_natCast];refine ByteArray.ext ?_;refine Array.toList_inj.1 ?_;simp [ByteArray.data_extract,← ByteArray.size_data]
theorem rdO_text {q:Rat} (h:0≤q) (h1:zB (qn q)≤2000) (h2:zB q.den≤2000):rdO (jd q)=some q:=by
 have a1:=oQ _ h1;have a2:=oQ _ h2;unfold jd;by_cases hd:q.den=1
 ·rw [if_pos hd];unfold rdO;rw [if_pos (xQ _),if_pos a1.1,a1.2];congr 1;have:=zf5 h;rw [hd,zg3] at this;exact this
 ·rw [if_neg hd];unfold rdO;obtain ⟨c1,c2⟩:=zkx (qn q) q.den;have hs:yx (zj (qn q)++⟨#[47]⟩++zj q.den)≠-1:=by rw [zeq];omega
  rw [if_neg hs,c1,c2,a1.2,a2.2,zf5 h,if_pos];refine ⟨a1.1,a2.1,q.den_pos,?_⟩;unfold jd;rw [if_neg hd]
theorem cutN_ne {s:ByteArray} (h:yx s≠-1):yl s≠s:=by
 intro e;have e2:=congrArg ByteArray.size e;unfold yl at e2;rw [if_neg h] at e2;rcases zfs s with h1 | ⟨i,h1,h2⟩
 ·exact h h1
 ·rw [h1,Int.toNat_natCast,ByteArray.size_extract] at e2;omega
def roV:Option Rat→Value
 | none=>yX
 | some q=>rdV (qn q) q.den
theorem tx_of (q:Rat) (h1:n8 (qn q)≤2000) (h2:n8 q.den≤2000):TX (qn q) q.den (jd q):=by
 intro W;have:=zin W (qn q) q.den (by omega) (by omega);rw [gR] at this;exact this
theorem zio (w:World) (s:ByteArray) (hs:s.size≤maxLen):Calls Tryz.prog 39 #[.string s] w fun e w'=>e = .returned (roV (rdO s))∧Below w.heap.size w w':=by
 have hct:CT s (yl s) (yv s) (decide (yx s≠-1)):=fun W=>scut_any W s hs;by_cases h1:yx s = -1
 ·have hc:yl s=s:=by unfold yl;rw [if_pos h1]
  rw [hc] at hct;by_cases h2:qh s
  ·have e:rdO s=some ((qA s:Nat):Rat):=by unfold rdO;rw [if_pos h1,if_pos h2]
   have hn:=ze0 h2;have ho:=oe;rw [e];have hnw:NW (qA s) 1 (qn ((qA s:Nat):Rat)) ((qA s:Nat):Rat).den true:=by
    intro W;have:=zdW W (qA s) 1 (by omega) (by omega) (by omega);rw [zg3] at this;exact this
   have htx:=tx_of ((qA s:Nat):Rat) (by rw [ziq];exact hn) (by show n8 1≤2000;omega);rw [zim,← gW h2] at htx;exact qread_w2 w s _ _ _ _ _ hct (zeb h2) hnw htx
  ·have e:rdO s=none:=by unfold rdO;rw [if_pos h1,if_neg h2]
   rw [e];exact qread_w1 w s _ _ _ hct (jj h2)
 ·have hne:=cutN_ne h1;by_cases hn:qh (yl s)
  ·by_cases hd:qh (yv s)
   ·have n1:=ze0 hn;have n2:=ze0 hd;rcases Nat.eq_zero_or_pos (qA (yv s)) with h0 | h0
    ·have e:rdO s=none:=by unfold rdO;rw [if_neg h1,if_neg (fun h=>by have:=h.2.2.1;omega)]
     rw [e];have hrd:=zeb hd;rw [h0] at hrd;exact qread_w4 w s _ _ _ _ _ hne hct (zeb hn) hrd (fun W=>pc W _)
    ·have hnw:NW (qA (yl s)) (qA (yv s)) (qn (qq (qA (yl s)) (qA (yv s)))) (qq (qA (yl s)) (qA (yv s))).den true:=fun W=>zdW W (qA (yl s)) (qA (yv s)) (by omega) (by omega) h0;have htx:=tx_of (qq (qA (yl s)) (qA (yv s))) (Nat.le_trans (zdf (zjY _ _)) n1) (Nat.le_trans (zdf (ziD _ _ h0)) n2);by_cases ht:jd (qq (qA (yl s)) (qA (yv s)))=s
     ·have e:rdO s=some (qq (qA (yl s)) (qA (yv s))):=by unfold rdO;rw [if_neg h1,if_pos ⟨hn,hd,h0,ht⟩]
      rw [e];rw [ht] at htx;exact qread_w6 w s _ _ _ _ _ _ _ hne hct (zeb hn) (zeb hd) hnw htx
     ·have e:rdO s=none:=by unfold rdO;rw [if_neg h1,if_neg (fun h=>ht h.2.2.2)]
      rw [e];exact qread_w5 w s _ _ _ _ _ _ _ hne hct (zeb hn) (zeb hd) hnw _ htx ht
   ·have e:rdO s=none:=by unfold rdO;rw [if_neg h1,if_neg (fun h=>hd h.2.1)]
    rw [e];exact zhj w s _ _ _ _ _ true false hne hct (zeb hn) (jj hd) rfl
  ·have e:rdO s=none:=by unfold rdO;rw [if_neg h1,if_neg (fun h=>hn h.1)]
   rw [e];by_cases hd:qh (yv s)
   ·exact zhj w s _ _ _ _ _ false true hne hct (jj hn) (zeb hd) rfl
   ·exact zhj w s _ _ _ _ _ false false hne hct (jj hn) (jj hd) rfl
end Go.Proofs.YtoljkoifgnmbgaaGreatDoor
end
end
