import Derived.Test.YtoljkoifgnmbgaaGreatDoorRB
import Derived.Test.YtoljkoifgnmbgaaGreatDoorRP
import Derived.Test.YtoljkoifgnmbgaaGreatDoorQ1
set_option linter.unusedSimpArgs false
set_option linter.unusedVariables false
set_option maxRecDepth 100000
set_option maxHeartbeats 4000000
section
section
open Go Go.RowKit Cs
namespace Cs
theorem zlo (U:List (List Nat)) (s:List Nat) (j:Nat):(U++[s]).getD j []=if j=U.length then s else U.getD j []:=by
 rw [List.getD_eq_getElem?_getD,List.getElem?_append];by_cases h:j<U.length
 ·rw [if_pos h,if_neg (by omega),← List.getD_eq_getElem?_getD]
 ·rw [if_neg h];by_cases h2:j=U.length
  ·subst h2;simp
  ·rw [if_neg h2,List.getD_eq_getElem?_getD,List.getElem?_eq_none (by simp;omega),List.getElem?_eq_none (by omega)]
end Cs
end
section
open Go Go.RowKit Cs
namespace Cs
def RF (lw hw:List (List Nat)):Rg (List Nat):=⟨[],[1],fun a b=>trimP (yb a b),fun a b=>trimP (yQ a b),fun l=>if 0<l then hw.getD l.toNat [] else lw.getD (-l).toNat [],fun v=>trimP (yb (lw.getD v.toNat []) (hw.getD v.toNat []))⟩
def WOB (b:Nat) (lw hw:List (List Nat)):Prop:=∀ i,(lw.getD i []).length≤1∧ev (lw.getD i [])≤2^b∧(hw.getD i []).length≤2∧ev (hw.getD i [])≤2^b
def BGe:Nat:=2000000
def BG:Nat:=2^BGe
theorem BG_eq:BG=2^BGe:=rfl
theorem BGe_eq:BGe=2000000:=rfl
def xh:Nat:=200000
theorem gk:xh=200000:=rfl
attribute [irreducible] BGe BG xh
theorem zbE (p:List Nat):ev (trimP p)=ev p:=oG _ _ (zhV p)
theorem zh3 (a b:List Nat):ev (yQ a b)=ev a*ev b:=by
 rw [← ev_mulP];exact oG _ _ fun i=>by rw [zeY,mulP_get]
theorem zgo (p:List Nat) (m:Nat) (h:∀ i,m≤i→p.getD i 0=0):tn p≤m:=by
 rcases Nat.lt_or_ge m (tn p) with h1 | h1
 ·exact absurd (h (tn p-1) (by omega)) (ziX p (by omega))
 ·exact h1
theorem om (a b c d:List Nat) (h1:a.length≤c.length) (h2:b.length≤d.length):tn (yQ a b)≤(jt c d).length:=by
 by_cases h:a.length=0∨b.length=0
 ·refine Nat.le_trans (zgo _ 0 fun i _=>?_) (Nat.zero_le _);rw [zeY];rcases h with h | h
  ·rw [h];rfl
  ·exact zj1 a b h i a.length
 ·rw [zht c d (by omega) (by omega)];refine Nat.le_trans (zgo _ (a.length+b.length-1) fun i hi=>?_) (by omega);rw [zeY];exact zk5 a b i a.length (by omega)
theorem jr {b:Nat} {lw hw:List (List Nat)} (h:WOB b lw hw):Rl (RF lw hw) RC (fun p q=>p.length≤q.length) where
 zero:=zi _
 one:=zi _
 add:=fun a b c d h1 h2=>by
  show (trimP (yb a c)).length≤(yb b d).length;rw [zbf,zcF];refine Nat.le_trans (zgg _) ?_;rw [zcF];omega
 mul:=fun a b c d h1 h2=>by
  show (trimP (yQ a c)).length≤(jt b d).length;rw [zbf];exact om a c b d h1 h2
 lit:=fun l=>by
  show (if 0<l then hw.getD l.toNat [] else lw.getD (-l).toNat []).length≤(if l<0 then [1] else [0,1]:List Nat).length;split
  ·rw [if_neg (by omega)];exact (h _).2.2.1
  ·refine Nat.le_trans (h _).1 ?_;split <;> simp
 both:=fun v=>by
  show (trimP (yb _ _)).length≤2;rw [zbf];refine Nat.le_trans (zgg _) ?_;rw [zcF];have h1:=(h v.toNat).1;have h2:=(h v.toNat).2.2.1;omega
def yV (s k:Nat):List Int:=((List.range k).filter fun i=>s.testBit i).map fun i:Nat=>(i:Int)+1
theorem zjH (s k:Nat):yV s (k+1)=if s.testBit k then yV s k++[(k:Int)+1] else yV s k:=by
 unfold yV;rw [List.range_succ,List.filter_append,List.map_append];split
 ·rename_i h;simp [h]
 ·rename_i h;simp [h]
theorem zgX (s k:Nat):(yV s k).length≤k:=by
 unfold yV;rw [List.length_map];have:=List.length_filter_le (fun i=>s.testBit i) (List.range k);simpa using this
theorem jS (s:Nat):yV s 128=vl s:=by
 rw [zkT];unfold yV zhS;rw [List.map_map];rfl
theorem ziL (lw hw:List (List Nat)) (p:List Nat) (vs:List Int) (v:Int):(RF lw hw).wide p (vs++[v])=trimP (yQ ((RF lw hw).wide p vs) ((RF lw hw).both v)):=by
 unfold Rg.wide;rw [List.foldl_append];rfl
theorem zgb {b:Nat} {lw hw:List (List Nat)} (h:WOB b lw hw):∀ (vs:List Int) (p:List Nat),ev ((RF lw hw).wide p vs)≤ev p*2^((b+1)*vs.length)
 | [],p=>by show ev p≤_;simp
 | v::vs,p=>by
   have ih:=zgb h vs (trimP (yQ p ((RF lw hw).both v)));have e:(RF lw hw).wide p (v::vs)=(RF lw hw).wide (trimP (yQ p ((RF lw hw).both v))) vs:=rfl;have hb:ev ((RF lw hw).both v)≤2^(b+1):=by
    show ev (trimP (yb (lw.getD v.toNat []) (hw.getD v.toNat [])))≤_;rw [zbE,ze8,Nat.pow_succ];have h1:=(h v.toNat).2.1;have h2:=(h v.toNat).2.2.2;omega
   rw [e];refine Nat.le_trans ih ?_;have e3:(b+1)*(v::vs).length=(b+1)+(b+1)*vs.length:=by rw [List.length_cons,Nat.mul_succ,Nat.add_comm]
   rw [zbE,zh3,e3,Nat.pow_add 2 (b+1),← Nat.mul_assoc];exact Nat.mul_le_mul_right _ (Nat.mul_le_mul_left _ hb)
theorem zga {b:Nat} {lw hw:List (List Nat)} (h:WOB b lw hw) (vs:List Int) (p:List Nat):((RF lw hw).wide p vs).length≤p.length+vs.length :=
 Nat.le_trans ((jr h).wide vs p p (zi _)) (zdJ vs p)
theorem zfi (x e n:Nat) (h:x<2^e) (he:e≤n) (hn:1≤n):zB x≤n :=
 zbW _ _ (Nat.lt_of_lt_of_le h (Nat.le_trans (Nat.pow_le_pow_right (by decide) he) (Nat.pow_le_pow_left (by decide) _))) hn
theorem zcD (x:Nat) (h:x<BG*2^xh):zB x≤10000000 :=
 zfi x (BGe+xh) 10000000 (by rw [Nat.pow_add,← BG_eq];exact h) (by rw [BGe_eq,gk];decide) (by decide)
theorem pos_bg:0<BG:=by rw [BG_eq];exact Nat.two_pow_pos _
theorem pow_bg (e:Nat) (he:e<200000):2^e<BG*2^xh:=by
 have h1:2^e<2^xh:=Nat.pow_lt_pow_right (by decide) (by rw [gk];exact he);have h2:2^xh≤BG*2^xh:=Nat.le_mul_of_pos_left _ pos_bg;exact Nat.lt_of_lt_of_le h1 h2
theorem zfT (x:Nat) (h:x<zM*2^200):zB x≤10000000 :=
 zfi x (jL+200) 10000000 (by rw [Nat.pow_add,← zem];exact h) (by rw [zcr];decide) (by decide)
end Cs
namespace Go.Proofs.YtoljkoifgnmbgaaGreatDoor
theorem setsPut1 {w:World} {g:Nat} {t:TypeId} {s s':Nat} (h:w.rowIs g t 2 (zK [s])) (e:hi s'=hi s):(w.setCell ⟨g,0,none⟩ (.int .u64 (lo s':Int))).rowIs g t 2 (zK [s']) :=
 (h.set 0 _).congr fun i hi=>by
  have:i=0∨i=1:=by omega
  rcases this with rfl | rfl
  ·rfl
  ·rw [if_neg (by omega)];show Value.int .u64 (Cs.hi s:Int)=Value.int .u64 (Cs.hi s':Int);rw [e]
theorem setsPut2 {w:World} {g:Nat} {t:TypeId} {s s':Nat} (h:w.rowIs g t 2 (zK [s])) (e:lo s'=lo s):(w.setCell ⟨g,1,none⟩ (.int .u64 (hi s':Int))).rowIs g t 2 (zK [s']) :=
 (h.set 1 _).congr fun i hi=>by
  have:i=0∨i=1:=by omega
  rcases this with rfl | rfl
  ·rw [if_neg (by omega)];show Value.int .u64 (lo s:Int)=Value.int .u64 (lo s':Int);rw [e]
  ·rfl
theorem xY (w:World) (n:Nat) (hn:n≤128):Calls Tryz.prog 178 #[.int .i64 n] w fun e w'=>e = .returned (zY (qs n))∧Below w.heap.size w w':=by
 have h0:(w.alloc (.cells #[.int .u64 0,.int .u64 0] 138)).rowIs w.heap.size 138 2 (zK [0]):=(je w _ _ _ _ rfl).congr fun i hi=>by
  have:i=0∨i=1:=by omega
  rcases this with rfl | rfl <;> rfl
 have h1:((w.alloc (.cells #[.int .u64 0,.int .u64 0] 138)).alloc (.cells #[.int .u64 0,.int .u64 0] 138)).rowIs (w.heap.size+1) 138 2 (zK [0]):=(je _ _ _ _ _ (by simp)).congr fun i hi=>by
  have:i=0∨i=1:=by omega
  rcases this with rfl | rfl <;> rfl
 have hbl:Below w.heap.size w ((w.alloc (.cells #[.int .u64 0,.int .u64 0] 138)).alloc (.cells #[.int .u64 0,.int .u64 0] 138)):=((zA _ _).alloc (zi _) _).alloc (by simp) _;have hz:qs ((0:Nat):Int)=0:=by decide
 go_enter Tryz.func178, Tryz.ntmps178;go_wp2;go_loopw [4] (fun t wr=>∃ k:Nat,k≤n∧t = .int .i64 ((k:Int)+1)∧wr.rowIs (w.heap.size+1) 138 2 (zK [qs (k:Int)])∧wr.rowIs w.heap.size 138 2 (zK [0])∧Below w.heap.size w wr) (fun t _=>n+1-(intOf t).toNat)
 case atStart=>exact ⟨0,by omega,rfl,by rw [hz];exact h1,h0.alloc _,hbl⟩
 case round =>
  clear h0 h1 hbl hz;obtain ⟨k,hk,rfl,hs,hr,hbl⟩:=hrel;have hss:=zcX hs;obtain ⟨hs1,hs2,hs3,hs4⟩:=hss;by_cases hlt:k<n
  ·have hts:=zgO k (by omega);unfold qj at hts;rw [if_pos (by omega),show ((k:Int)+1).toNat-1=k by omega] at hts;obtain ⟨s,hs0⟩:∃ s,qs (k:Int)=s:=⟨_,rfl⟩;rw [hs0] at hts hs hs1 hs2;have HTS:=za hts;clear hts hs0;have e0:IntKind.i64.wrap ((k:Int)+1)=(k:Int)+1:=by rw [IntKind.wrap_i64];omega
   have e1:(k:Int)+1-1=(k:Int):=by omega
   rcases Nat.lt_or_ge k 64 with h64 | h64
   ·have e2:(k:Int) / 64=0:=by omega
    have e3:(k:Int)%64=(k:Int):=by omega
    have e4:=zdn k h64;have e5:=u64_or_nat (lo s) (2^k) (y8 s) (Nat.pow_lt_pow_right (by decide) h64);simp only [Int.natCast_pow,Int.cast_ofNat_Int] at e5;have e6:lo (s ||| 2^k)=lo s ||| 2^k:=by rw [zlw,zfM,if_pos h64]
    have e7:hi (s ||| 2^k)=hi s:=by rw [zlz,zfO k (by omega),if_pos h64];simp
    have hp:=setsPut1 hs e7;rw [e6,HTS.out] at hp;have HPP:=za hp;clear e6 e7 hp;go_wp2;go_roundw
    case rel=>exact ⟨k+1,by omega,by go_num,HPP.out,hr.setOther (by simp) _,hbl.setCell (by simp) _⟩
    case measure=>simp [intOf];omega
   ·have e2:(k:Int) / 64=1:=by omega
    have e3:(k:Int)%64=(k:Int)-64:=by omega
    have e4:=zdn (k-64) (by omega);have e5:=u64_or_nat (hi s) (2^(k-64)) (y7 s) (Nat.pow_lt_pow_right (by decide) (show k-64<64 by omega));simp only [Int.natCast_pow,Int.cast_ofNat_Int] at e5;have e6:hi (s ||| 2^k)=hi s ||| 2^(k-64):=by rw [zlz,zfO k (by omega),if_neg (by omega)]
    have e7:lo (s ||| 2^k)=lo s:=by rw [zlw,zfM,if_neg (by omega)];simp
    have i0:(0:Int)≤(k:Int)-64:=by omega
    have i1:((k:Int)-64).toNat=k-64:=by omega
    have hp:=setsPut2 hs e7;rw [e6,HTS.out] at hp;have HPP:=za hp;clear e6 e7 hp;go_wp2;go_roundw
    case rel=>exact ⟨k+1,by omega,by go_num,HPP.out,hr.setOther (by simp) _,hbl.setCell (by simp) _⟩
    case measure=>simp [intOf];omega
  ·obtain rfl:k=n:=by omega
   have hrs:=zcX hr;obtain ⟨hr1,hr2,hr3,hr4⟩:=hrs;have hfin:=((hr.set 0 (.int .u64 (lo (qs (k:Int)):Int))).set 1 (.int .u64 (hi (qs (k:Int)):Int)));have HFN:=za hfin;clear hfin hlt;go_wp2;refine zc6 rfl (qs (k:Int)) rfl HFN.out rfl rfl rfl ⟨rfl,(hbl.setCell (by simp) _).setCell (by simp) _⟩
end Go.Proofs.YtoljkoifgnmbgaaGreatDoor
end
section
open Go Go.RowKit Cs
namespace Go.Proofs.YtoljkoifgnmbgaaGreatDoor
def RPs (w:World) (B:Nat) (A:Option Addr) (L:List (List Nat)):Prop :=
 0<L.length→∃ b o,A=some ⟨b,o,none⟩∧b<B∧∀ i,i<L.length→∃ Ai ci,w.cell? ⟨b,o+i,none⟩=some (.slice Ai (L.getD i []).length ci)∧(L.getD i []).length≤ci∧RdS w B Ai (L.getD i [])
section
variable {w w':World} {B B':Nat} {A:Option Addr} {L:List (List Nat)}
theorem RPs.below (h:RPs w B A L) (hb:Below B w w'):RPs w' B A L:=fun hn=>by
 obtain ⟨b,o,e,hB,hc⟩:=h hn;exact ⟨b,o,e,hB,fun i hi=>let ⟨Ai,ci,h1,h2,h3⟩:=hc i hi;⟨Ai,ci,zF hb hB h1,h2,h3.below hb⟩⟩
theorem RPs.more (h:RPs w B A L) (hB:B≤B'):RPs w B' A L:=fun hn=>by
 obtain ⟨b,o,e,hb,hc⟩:=h hn;exact ⟨b,o,e,by omega,fun i hi=>let ⟨Ai,ci,h1,h2,h3⟩:=hc i hi;⟨Ai,ci,h1,h2,h3.more hB⟩⟩
end
theorem rgap_any (w:World) (A Al Ah:Option Addr) (c cl ch:Nat) (p:List Nat) (al ow n:Nat) (lw hw:List (List Nat)) (b:Nat) (hb1000:b≤1000) (hW:WOB b lw hw) (hll:lw.length=n+1) (hlh:hw.length=n+1) (hn:n≤128)
  (hsub:∀ i,al.testBit i=true→i<n) (hpl:p.length≤50000) (hpc:p.length≤c) (hpe:ev p<BG)
  (hA:RdS w w.heap.size A p) (hL:RPs w w.heap.size Al lw) (hH:RPs w w.heap.size Ah hw) :
  Calls Tryz.prog 177 #[.slice A p.length c,zY al,zY ow,.slice Al (n+1) cl,.slice Ah (n+1) ch] w (zl6 w ((RF lw hw).wide p (vl (zI al ow)))):=by
 have h0:(w.alloc (.cells #[.int .u64 (lo al:Int),.int .u64 (hi al:Int)] 138)).rowIs w.heap.size 138 2 (zK [al]):=(je w _ _ _ _ rfl).congr fun i hi=>by
  have:i=0∨i=1:=by omega
  rcases this with rfl | rfl <;> rfl
 have h1:((w.alloc (.cells #[.int .u64 (lo al:Int),.int .u64 (hi al:Int)] 138)).alloc (.cells #[.int .u64 (lo ow:Int),.int .u64 (hi ow:Int)] 138)).rowIs (w.heap.size+1) 138 2 (zK [ow]):=(je _ _ _ _ _ (by simp)).congr fun i hi=>by
  have:i=0∨i=1:=by omega
  rcases this with rfl | rfl <;> rfl
 have hbl:Below w.heap.size w ((w.alloc (.cells #[.int .u64 (lo al:Int),.int .u64 (hi al:Int)] 138)).alloc (.cells #[.int .u64 (lo ow:Int),.int .u64 (hi ow:Int)] 138)):=((zA _ _).alloc (zi _) _).alloc (by simp) _;have hA0:=(hA.below hbl).more hbl.size;have hst:(RF lw hw).wide p (yV (zI al ow) 0)=p:=rfl;have HW:=za hW;have HSUB:=za hsub;have HEV:=za hpe;have HL:=za hL;have HH:=za hH;have HLL:=za hll;have HLH:=za hlh;rw [← jS];obtain ⟨X,hX⟩:∃ X,X=fun k=>(RF lw hw).wide p (yV (zI al ow) k):=⟨_,rfl⟩;have HX:=za hX;have hx0:X 0=p:=by rw [hX];exact hst
 have HX0:=za hx0;rw [show (RF lw hw).wide p (yV (zI al ow) 128)=X 128 by rw [hX]];clear hW hsub hpe hL hH hll hlh hX hx0 hst hA;go_enter Tryz.func177, Tryz.ntmps177;go_wp2;go_loopw [0,11] (fun q t wr=>∃ (k:Nat) (Ak:Option Addr) (ck:Nat),k≤128∧t = .int .i64 ((k:Int)+1)∧q = .slice Ak (X k).length ck∧(X k).length≤ck∧RdS wr wr.heap.size Ak (X k)∧wr.rowIs w.heap.size 138 2 (zK [al])∧wr.rowIs (w.heap.size+1) 138 2 (zK [ow])∧Below w.heap.size w wr) (fun _ t _=>129-(intOf t).toNat)
 case atStart=>exact ⟨0,A,c,by omega,rfl,by rw [HX0.out],by rw [HX0.out];exact hpc,by rw [HX0.out];exact hA0,h0.alloc _,h1,hbl⟩
 case round =>
  clear h0 h1 hbl hA0;obtain ⟨k,Ak,ck,hk,rfl,rfl,hck,hAk,hsa,hso,hbl⟩:=hrel;obtain ⟨ha1,ha2,_,_⟩:=zcX hsa;obtain ⟨ho1,ho2,_,_⟩:=zcX hso;have hsz:=hbl.size;by_cases hlt:k<128
  ·have hia:=fun W=>zf0 W al (k+1) (by omega) (by omega);have hio:=fun W=>zf0 W ow (k+1) (by omega) (by omega);simp only [Nat.add_sub_cancel,Int.natCast_succ] at hia hio;have hmb:=jQ al ow k;have hvs:=zjH (zI al ow) k;have HAK:=za hAk;clear hAk;cases hba:al.testBit k
   ·rw [hba] at hmb;simp only [hba] at hia;rw [hmb] at hvs;have hxs:X (k+1)=X k:=by rw [HX.out];simp only [hvs];rfl
    have HIA:=za hia;have HXS:=za hxs;clear hia hio hmb hvs hba hxs;go_wp2_with (go_at_call 108;(with_reducible refine (HIA.out _).mono ?_);rintro e w5 ⟨rfl,hb5⟩)
    go_roundw
    case rel=>exact ⟨k+1,Ak,ck,by omega,by go_num,by rw [HXS.out],by rw [HXS.out];exact hck,by rw [HXS.out];exact (HAK.out.below hb5).more hb5.size,zh hsa hb5,zh hso hb5,zu hbl hb5 hsz⟩
    case measure=>simp [intOf];omega
   ·cases hbo:ow.testBit k
    ·rw [hba,hbo] at hmb;simp only [hba] at hia;simp only [hbo] at hio;rw [hmb] at hvs;have hkn:=HSUB.out k hba;have hvs2:=hvs.trans (if_pos (by rfl));obtain ⟨lo1,hlo1⟩:∃ q,lw.getD (k+1) []=q:=⟨_,rfl⟩;obtain ⟨hi1,hhi1⟩:∃ q,hw.getD (k+1) []=q:=⟨_,rfl⟩;have hwk:=HW.out (k+1);rw [hlo1,hhi1] at hwk;obtain ⟨w1,w2,w3,w4⟩:=hwk;have hone:∀ x:Nat,x≤2^b→zB x≤10000000:=fun x hx=>zcD x (Nat.lt_of_le_of_lt hx (pow_bg b (by omega)));obtain ⟨bt,hbt⟩:∃ q,trimP (yb lo1 hi1)=q:=⟨_,rfl⟩;have hbl2:bt.length≤2:=by
      rw [← hbt,zbf];refine Nat.le_trans (zgg _) ?_;rw [zcF];omega
     have hbe:ev bt≤2^(b+1):=by rw [← hbt,zbE,ze8,Nat.pow_succ];omega
     have hxs:X (k+1)=trimP (yQ (X k) bt):=by
      rw [HX.out];simp only [hvs2];rw [ziL];show trimP (yQ _ (trimP (yb (lw.getD ((k:Int)+1).toNat []) (hw.getD ((k:Int)+1).toNat []))))=_;rw [show ((k:Int)+1).toNat=k+1 by omega,hlo1,hhi1,hbt]
     have hxe:ev (X k)*2^(b+1)<BG*2^xh:=by
      have h1:ev (X k)≤ev p*2^((b+1)*(yV (zI al ow) k).length):=by rw [HX.out];exact zgb HW.out _ _
      have h2:=zgX (zI al ow) k;have h4:(b+1)*(yV (zI al ow) k).length≤1001*128:=Nat.mul_le_mul (by omega) (by omega);have h3:2^((b+1)*(yV (zI al ow) k).length+(b+1))≤2^xh:=Nat.pow_le_pow_right (by decide) (by rw [gk];omega)
      calc ev (X k)*2^(b+1)≤ev p*2^((b+1)*(yV (zI al ow) k).length)*2^(b+1):=Nat.mul_le_mul_right _ h1
       _=ev p*2^((b+1)*(yV (zI al ow) k).length+(b+1)):=by rw [Nat.pow_add 2 ((b+1)*_) (b+1),Nat.mul_assoc]
       _≤ev p*2^xh:=Nat.mul_le_mul_left _ h3
       _<BG*2^xh:=Nat.mul_lt_mul_of_pos_right HEV.out (Nat.two_pow_pos _)
     have hxl:(X k).length≤100000:=by
      have h1:(X k).length≤p.length+(yV (zI al ow) k).length:=by rw [HX.out];exact zga HW.out _ _
      have h2:=zgX (zI al ow) k;omega
     have hxb:ev (X k)*ev bt<BG*2^xh:=Nat.lt_of_le_of_lt (Nat.mul_le_mul_left _ hbe) hxe;have hpa:=fun W A B ca cb h1 h2=>zii W A B ca cb lo1 hi1 (by omega) (by omega) h1 h2 (fun i=>hone _ (Nat.le_trans (zeM _ i) w2)) (fun i=>hone _ (Nat.le_trans (zeM _ i) w4));have hpm:=fun W A B ca cb h1 h2=>zih W A B ca cb (X k) bt hxl (by omega) h1 h2 (fun i=>zcD _ (Nat.lt_of_le_of_lt (Nat.le_trans (zeM (X k) i) (Nat.le_mul_of_pos_right _ (Nat.two_pow_pos (b+1)))) hxe)) (fun i=>zcD _ (Nat.lt_of_le_of_lt (Nat.le_trans (zeM _ i) hbe) (pow_bg _ (by omega))))
      (fun i j=>zcD _ (Nat.lt_of_le_of_lt (Nat.mul_le_mul (zeM _ i) (zeM _ j)) hxb)) (fun i j t h1 h2=>zcD _ (Nat.lt_of_le_of_lt (cvI_le _ _ i j t h1 h2) hxb))
     rw [hbt] at hpa;rw [← hxs] at hpm;have HPA:=za hpa;have HPM:=za hpm;have HIA:=za hia;have HIO:=za hio;obtain ⟨bl,ol,rfl,hblB,hcl⟩:=HL.out (by have:=HLL.out;omega);obtain ⟨bh,oh,rfl,hbhB,hch⟩:=HH.out (by have:=HLH.out;omega);obtain ⟨Ai,ci,hl1,hl2,hl3⟩:=hcl (k+1) (by have:=HLL.out;omega);obtain ⟨Aj,cj,hh1,hh2,hh3⟩:=hch (k+1) (by have:=HLH.out;omega);rw [hlo1] at hl1 hl2 hl3;rw [hhi1] at hh1 hh2 hh3;have HL1:=za hl1;have HL3:=za hl3;have HH1:=za hh1;have HH3:=za hh3;obtain ⟨XS,hXS⟩:∃ q,X (k+1)=q:=⟨_,rfl⟩;rw [hXS] at HPM;have HXS:=za hXS;clear hcl hch hl1 hl3 hh1 hh3 hia hio hmb hvs hvs2 hba hbo hxs hpa hpm hxe hxb hxl hone hlo1 hhi1 hbt w1 w2 w3 w4 hbl2 hbe hXS;go_wp2_with fail
     refine (HIA.out _).mono ?_;rintro e w5 ⟨rfl,hb5⟩;replace hsa:=zh hsa hb5;replace hso:=zh hso hb5;replace hbl:=zu hbl hb5 hsz;have hrk:=(HAK.out.below hb5).more hb5.size;obtain ⟨ho1,ho2,_,_⟩:=zcX hso;clear hb5;go_wp2_with fail
     refine (HIO.out _).mono ?_;rintro e w6 ⟨rfl,hb6⟩;replace hsa:=zh hsa hb6;replace hso:=zh hso hb6;have hrk6:=(hrk.below hb6).more hb6.size;replace hbl:=zu hbl hb6 hbl.size;have hsz6:=hbl.size;have hbl':=qw hbl 1
     change Below _ _ (World.drew _) at hbl'
     have hsz':=hbl'.size;have hc1:w6.drew.cell? ⟨bl,ol+(k+1),none⟩=some (.slice Ai lo1.length ci):=zF hbl' hblB HL1.out;have hc2:w6.drew.cell? ⟨bh,oh+(k+1),none⟩=some (.slice Aj hi1.length cj):=zF hbl' hbhB HH1.out;have hsa':=hsa.drew;have hso':=hso.drew;have hrk':RdS w6.drew w6.drew.heap.size Ak (X k):=hrk6;have HRK:=za hrk';clear hrk hrk6 hb6 hrk';have k0:(0:Int)≤(k:Int)+1:=by omega
     have k1:(k:Int)+1<(n:Int)+1:=by omega
     have k2:((k:Int)+1).toNat=k+1:=by omega
     go_wp2_with fail
     go_region_held3 (fun w'=>w'.cell? ⟨bl,ol+(k+1),none⟩=some (.slice Ai lo1.length ci)∧w'.cell? ⟨bh,oh+(k+1),none⟩=some (.slice Aj hi1.length cj)) (first | exact ⟨hc1,hc2⟩ | go_keep)
      (first
        | (go_simp
           go_at_call 176;(with_reducible refine (HPA.out _ Ai Aj ci cj ((HL3.out.below hbl').more hsz').rd ((HH3.out.below hbl').more hsz').rd).mono ?_);rintro e' w9 ⟨B9,d9,rfl,hd9,hr9,hb9⟩;have hc1:=zF hb9 (Nat.lt_of_lt_of_le hblB hsz') hc1;have hc2:=zF hb9 (Nat.lt_of_lt_of_le hbhB hsz') hc2;have HR9:=za hr9;have HRK9:=za ((HRK.out.below hb9).more hb9.size);replace hsa':=zh hsa' hb9;replace hso':=zh hso' hb9;replace hbl':=zu hbl' hb9 hsz';have hsz':=hbl'.size;clear hr9)
        | (go_simp
           go_at_call 175;(with_reducible refine (HPM.out _ Ak B9 ck d9 HRK9.out.rd HR9.out.rd).mono ?_);rintro e' w10 ⟨B10,d10,rfl,hd10,hr10,hb10⟩;have hc1:=zF hb10 (Nat.lt_of_lt_of_le hblB hsz') hc1;have hc2:=zF hb10 (Nat.lt_of_lt_of_le hbhB hsz') hc2;replace hsa':=zh hsa' hb10;replace hso':=zh hso' hb10;replace hbl':=zu hbl' hb10 hsz';have HR10:=za hr10;clear hr10))
     all_goals
      try go_wp2
      go_roundw
      case rel=>exact ⟨k+1,B10,d10,by omega,by go_num,by rw [HXS.out],by rw [HXS.out];exact hd10,by rw [HXS.out];exact HR10.out,hsa',hso',hbl'⟩
      case measure=>simp [intOf];omega
    ·rw [hba,hbo] at hmb;simp only [hba] at hia;simp only [hbo] at hio;rw [hmb] at hvs;have hxs:X (k+1)=X k:=by rw [HX.out];simp only [hvs];rfl
     have HIA:=za hia;have HIO:=za hio;have HXS:=za hxs;clear hia hio hmb hvs hba hbo hxs;go_wp2_with fail
     refine (HIA.out _).mono ?_;rintro e w5 ⟨rfl,hb5⟩;replace hsa:=zh hsa hb5;replace hso:=zh hso hb5;replace hbl:=zu hbl hb5 hsz;have hrk:=(HAK.out.below hb5).more hb5.size;obtain ⟨ho1,ho2,_,_⟩:=zcX hso;clear hb5;go_wp2_with fail
     refine (HIO.out _).mono ?_;rintro e w6 ⟨rfl,hb6⟩;go_wp2;go_roundw
     case rel=>exact ⟨k+1,Ak,ck,by omega,by go_num,by rw [HXS.out],by rw [HXS.out];exact hck,by rw [HXS.out];exact (hrk.below hb6).more hb6.size,zh hsa hb6,zh hso hb6,zu hbl hb6 hbl.size⟩
     case measure=>simp [intOf];omega
  ·obtain rfl:k=128:=by omega
   go_wp2;go_ret;exact ⟨Ak,ck,rfl,hck,hAk,hbl⟩
end Go.Proofs.YtoljkoifgnmbgaaGreatDoor
end
section
open Go Go.RowKit Cs
namespace Cs
section
variable {lw hw:List (List Nat)} {N:Nt}
theorem zl7 {b:Nat} (W:WOB b lw hw) (hv:zC N=true) (hd:qv N=true) (k:Nat) (hk:k≤N.l.length) (j:Nat):((scan ((RF lw hw).step (own N.l)) [] (N.l.take k)).getD j []).length≤1000:=by
 have h1:=((jr W).all (own N.l) (N.l.take k)).2 j;unfold Rg.all at h1;refine Nat.le_trans h1 ?_;by_cases hj:j<k
 ·have h2:=zgR hv hd k hk j hj;have h3:=crd_le ((own N.l).getD j 0);rw [show RC.zero=[] from rfl];omega
 ·rw [show RC.zero=[] from rfl,List.getD_eq_getElem?_getD,List.getElem?_eq_none (by rw [q7 _ _ _ hk];omega)];simp
theorem zjD {b:Nat} (W:WOB b lw hw) (hv:zC N=true) (hd:qv N=true) (k:Nat) (hk:k<N.l.length) (m:Nat) :
  ((N.l[k].ins.take m).foldl ((RF lw hw).in1 (own N.l) (scan ((RF lw hw).step (own N.l)) [] (N.l.take k)) N.l[k]) ((RF lw hw).start N.l[k])).length≤1000:=by
 have h1:=(jr W).fold ((jr W).all (own N.l) (N.l.take k)) (own N.l) N.l[k] (N.l[k].ins.take m) _ _ ((jr W).start N.l[k]);unfold Rg.all at h1;have h2:=zgc hv hd k hk (scan (RC.step (own N.l)) [] (N.l.take k)) (q7 _ _ _ (by omega)) (zgR hv hd k (by omega)) m;have h3:=crd_le ((own N.l).getD k 0);omega
end
end Cs
namespace Go.Proofs.YtoljkoifgnmbgaaGreatDoor
def RPls (w:World) (U:List Value) (L:List (List Nat)):Prop:=U.length=L.length∧∀ j,j<U.length→∃ A c,U[j]?=some (Value.slice A (L.getD j []).length c)∧(L.getD j []).length≤c∧RdS w w.heap.size A (L.getD j [])
theorem RPls.below {w w':World} {U:List Value} {L:List (List Nat)} (h:RPls w U L) (hb:Below w.heap.size w w'):RPls w' U L :=
 ⟨h.1,fun j hj=>let ⟨A,c,h1,h2,h3⟩:=h.2 j hj;⟨A,c,h1,h2,(h3.below hb).more hb.size⟩⟩
theorem RPls.nil (w:World):RPls w [] []:=⟨rfl,fun j hj=>by simp at hj⟩
theorem RPls.snoc {w:World} {U:List Value} {L:List (List Nat)} {A:Option Addr} {c:Nat} {p:List Nat} (h:RPls w U L) (hc:p.length≤c) (hr:RdS w w.heap.size A p):RPls w (U++[.slice A p.length c]) (L++[p]):=by
 refine ⟨by simp [h.1],fun j hj=>?_⟩;have hLs:(L++[p]).getD j []=if j=L.length then p else L.getD j []:=zlo L p j
 rcases Nat.lt_or_ge j U.length with h1 | h1
 ·obtain ⟨A',c',g1,g2,g3⟩:=h.2 j h1;rw [hLs,if_neg (by have:=h.1;omega)];exact ⟨A',c',by rw [List.getElem?_append_left h1];exact g1,g2,g3⟩
 ·have hje:j=U.length:=by simp at hj;omega
  subst hje;rw [hLs,if_pos h.1];exact ⟨A,c,by simp,hc,hr⟩
theorem RdS.grown {w w':World} {A:Option Addr} {p:List Nat} {row:Option Nat} (h:RdS w w.heap.size A p) (hg:w.grownBy w' row) (hty:∀ b,row=some b→∃ cs T fr,w.heap[b]?=some (.cells cs T fr)∧T≠9):RdS w' w'.heap.size A p:=by
 have hne:0<p.length→∀ b o,A=some ⟨b,o,none⟩→b<w.heap.size∧some b≠row:=fun hn b o e=>by
  obtain ⟨cs,fr,hc⟩:=h.2 hn b o e;refine ⟨(Array.getElem?_eq_some_iff.1 hc).1,fun er=>?_⟩;obtain ⟨cs',T,fr',hc',hT⟩:=hty b er.symm;rw [hc] at hc';injection hc' with hc';injection hc' with _ h2 _;exact hT h2.symm
 refine ⟨fun hn=>?_,fun hn b o e=>?_⟩
 ·obtain ⟨b,o,e,hb,hcs⟩:=h.1 hn;exact ⟨b,o,e,Nat.lt_of_lt_of_le hb hg.size,fun i hi=>hg.cell (hcs i hi) (hne hn b o e).2⟩
 ·obtain ⟨cs,fr,hc⟩:=h.2 hn b o e;obtain ⟨h1,h2⟩:=hne hn b o e;exact ⟨cs,fr,by rw [hg.block b h1 h2];exact hc⟩
theorem RPls.grown {w w':World} {U:List Value} {L:List (List Nat)} {row:Option Nat} (h:RPls w U L) (hg:w.grownBy w' row) (hty:∀ b,row=some b→∃ cs T fr,w.heap[b]?=some (.cells cs T fr)∧T≠9):RPls w' U L :=
 ⟨h.1,fun j hj=>let ⟨A,c,h1,h2,h3⟩:=h.2 j hj;⟨A,c,h1,h2,h3.grown hg hty⟩⟩
theorem zca {A:Option Addr} {n c:Nat} (u:Value) (h:u∈[Value.slice A n c]):u.oneCell'=true:=by
 simp at h;subst h;rfl
theorem zbV:(Tryz.prog.info? 204).map (fun i=>(i.zero,i.size,i.bytes))=some (some (.slice none 0 0),1,24):=by kernel_rfl
end Go.Proofs.YtoljkoifgnmbgaaGreatDoor
end
section
open Go Go.RowKit Cs
namespace Go.Proofs.YtoljkoifgnmbgaaGreatDoor
theorem zf1 {w:World} {B g n:Nat} {O:List Nat} (h:Rd w B (some ⟨g,0,none⟩) (n*2) (zK O)) (k:Nat) (hk:k<n):w.cell? ⟨g,k*2,none⟩=some (.int .u64 (lo (O.getD k 0):Int))∧w.cell? ⟨g,k*2+1,none⟩=some (.int .u64 (hi (O.getD k 0):Int)):=by
 obtain ⟨b,o,e,_,hc⟩:=h (by omega);injection e with e;injection e with e1 e2 _;subst e1;subst e2;refine ⟨?_,?_⟩
 ·have h1:=hc (k*2) (by omega);rw [Nat.zero_add] at h1;rw [h1];unfold zK;rw [if_pos (by omega),show k*2 / 2=k by omega]
 ·have h1:=hc (k*2+1) (by omega);rw [Nat.zero_add] at h1;rw [h1];unfold zK;rw [if_neg (by omega),show (k*2+1) / 2=k by omega]
def jH (x:Nd) (A:Option Addr) (c:Nat) (i:Nat):Value:=if i=0 then .int .i64 x.kind else if i=1 then .int .i64 x.lit else .slice A x.ins.length c
theorem ndNew (w:World) (x:Nd) (A:Option Addr) (c:Nat) (t:TypeId) (g:Nat) (hg:w.heap.size=g):(w.alloc (.cells #[.int .i64 x.kind,.int .i64 x.lit,.slice A x.ins.length c] t)).rowIs g t 3 (jH x A c):=by
 subst hg;exact World.rowIs_alloc w _ t (jH x A c) fun i hi=>by
  have:i=0∨i=1∨i=2:=by simp at hi;omega
  rcases this with rfl | rfl | rfl <;> rfl
theorem zbU {w:World} {g:Nat} {t:TypeId} {x:Nd} {A:Option Addr} {c:Nat} (h:w.rowIs g t 3 (jH x A c)) :
  w.cell? ⟨g,0,none⟩=some (.int .i64 x.kind)∧w.cell? ⟨g,1,none⟩=some (.int .i64 x.lit)∧w.cell? ⟨g,2,none⟩=some (.slice A x.ins.length c):=⟨h.cell (i:=0) (by omega),h.cell (i:=1) (by omega),h.cell (i:=2) (by omega)⟩
theorem zde {W W':World} {x:Nd} {A:Option Addr} {c:Nat} {t:TypeId} {a1 a2:Int} (h:W'=W.alloc (.cells #[.int .i64 a1,.int .i64 a2,.slice A x.ins.length c] t)) (h1:a1=x.kind) (h2:a2=x.lit):W'.rowIs W.heap.size t 3 (jH x A c):=by
 subst h;subst h1;subst h2;exact ndNew W x A c t _ rfl
structure SR (w5:World) (out:Value) (k:Nat) (U:List Value) (L:List (List Nat)) (wr:World):Prop where
 own:wr.ownsRow w5.heap.size 204 1 out k U
 pls:RPls wr U L
 bl:Below w5.heap.size w5 wr
section
variable {w5:World} {out:Value} {k:Nat} {U:List Value} {L:List (List Nat)} {wr w':World}
theorem SR.below (h:SR w5 out k U L wr) (hb:Below wr.heap.size wr w'):SR w5 out k U L w' :=
 ⟨yp h.own hb,h.pls.below hb,zu h.bl hb h.bl.size⟩
theorem SR.alloc (h:SR w5 out k U L wr) (o:Obj):SR w5 out k U L (wr.alloc o):=h.below ((zA _ _).alloc (zi _) _)
theorem SR.drew (h:SR w5 out k U L wr):SR w5 out k U L wr.drew:=⟨h.own.drew,h.pls,qw h.bl 1⟩
theorem SR.at (h:SR w5 out k U L wr) (j:Nat) (hj:j<k):∃ gr cr Aj cj,out = .slice (some ⟨gr,0,none⟩) k cr∧wr.cell? ⟨gr,j,none⟩=some (.slice Aj (L.getD j []).length cj)∧(L.getD j []).length≤cj∧RdS wr wr.heap.size Aj (L.getD j []):=by
 have hU:U.length=k:=by have:=h.own.1;omega
 obtain ⟨Aj,cj,h1,h2,h3⟩:=h.pls.2 j (by omega);have hown:=h.own;obtain ⟨gr,cr,rfl,_,_⟩:=yO h.own (by omega);exact ⟨gr,cr,Aj,cj,rfl,by rw [hown.cellAt j (by omega)];exact h1,h2,h3⟩
theorem SR.next (h:SR w5 out k U L wr) {A:Option Addr} {c:Nat} {p:List Nat} (hc:p.length≤c) (hr:RdS wr wr.heap.size A p) {v':Value} (hown:w'.ownsRow w5.heap.size 204 1 v' (k+1) (U++[.slice A p.length c])) (hg:wr.grownBy w' out.ownBlock) :
  SR w5 v' (k+1) (U++[.slice A p.length c]) (L++[p]) w':=by
 have hty:∀ b,out.ownBlock=some b→∃ cs T fr,wr.heap[b]?=some (.cells cs T fr)∧T≠9:=fun b hb=>by
  rcases h.own.2 with ⟨rfl,_⟩ | ⟨g,cap,cur,rfl,_,hgb,_⟩
  ·cases hb
  ·have e2:g=b:=by injection hb
   subst e2;exact ⟨_,_,_,hgb,by decide⟩
 exact ⟨hown,(h.pls.snoc hc hr).grown hg hty,h.bl.grown hg h.bl.size (fun b e=>(h.own.lt b e).1)⟩
end
theorem oneStr (W:World) (g:Nat) (hg:W.heap.size=g):RdS (W.alloc (.cells #[.string ⟨#[49]⟩] 9)) (g+1) (some ⟨g,0,none⟩) [1]:=by
 subst hg;exact ⟨fun _=>⟨_,0,rfl,by omega,fun i hi=>by
  have hi0:i=0:=by simp at hi;omega
  subst hi0;exact (qR 0 (.string ⟨#[49]⟩) rfl).trans (congrArg (fun s=>some (Value.string s)) dec_one.symm)⟩,fun _ b o e=>by
   injection e with e;injection e with e1 e2;subst e1;exact ⟨_,_,Array.getElem?_push_size⟩⟩
theorem RdS.nil (w:World) (B:Nat) (A:Option Addr):RdS w B A []:=⟨fun h=>absurd h (by decide),fun h=>absurd h (by decide)⟩
theorem zla {x:Nd} {m k:Nat} (lw hw:List (List Nat)) (h:qK x m k=true):(x.kind=0∧(RF lw hw).start x=[]∧x.ins.length=0)∨(x.kind=1∧(RF lw hw).start x=[1]∧x.ins.length=0) ∨
  (∃ v:Nat,x.kind=2∧x.lit=(v:Int)∧1≤v∧v≤m∧(RF lw hw).start x=hw.getD v []∧x.ins.length=0)∨(∃ v:Nat,x.kind=2∧x.lit = -(v:Int)∧1≤v∧v≤m∧(RF lw hw).start x=lw.getD v []∧x.ins.length=0) ∨
  (x.kind=3∧(RF lw hw).start x=[1])∨(x.kind=4∧(RF lw hw).start x=[]):=by
 rcases zba h with ⟨h1,h2⟩ | h1 | h1
 ·rcases h1 with h1 | h1 | h1
  ·exact .inl ⟨h1,by unfold Rg.start;rw [if_neg (by omega),if_neg (by omega)];rfl,h2⟩
  ·exact .inr (.inl ⟨h1,by unfold Rg.start;rw [if_neg (by omega),if_pos (.inl h1)];rfl,h2⟩)
  ·have hlit:qi x.lit m=true:=by
    unfold qK at h;rw [List.length_eq_zero_iff.1 h2] at h;simp [h1] at h;exact h
   unfold qi at hlit;have hl:=of_decide_eq_true hlit;have hs:(RF lw hw).start x=if 0<x.lit then hw.getD x.lit.toNat [] else lw.getD (-x.lit).toNat []:=by unfold Rg.start;rw [if_pos h1];rfl
   unfold zQ at hl;by_cases h0:0<x.lit
   ·exact .inr (.inr (.inl ⟨x.lit.toNat,h1,by omega,by omega,by omega,by rw [hs,if_pos h0],h2⟩))
   ·exact .inr (.inr (.inr (.inl ⟨(-x.lit).toNat,h1,by omega,by omega,by omega,by rw [hs,if_neg h0],h2⟩)))
 ·exact .inr (.inr (.inr (.inr (.inl ⟨h1,by unfold Rg.start;rw [if_neg (by omega),if_pos (.inr h1)];rfl⟩))))
 ·exact .inr (.inr (.inr (.inr (.inr ⟨h1,by unfold Rg.start;rw [if_neg (by omega),if_neg (by omega)];rfl⟩))))
theorem rsum_gen (w:World) (N:Nt) (A Al Ah:Option Addr) (c cl ch m:Nat) (lw hw:List (List Nat)) (hm:N.n=(m:Int)) (hN:NtAt w w.heap.size A N.l) (hv:zC N=true) (hd:qv N=true)
  (b:Nat) (hb1000:b≤1000) (hW:WOB b lw hw) (hpe:∀ k,k≤N.l.length→∀ j,ev ((scan ((RF lw hw).step (own N.l)) [] (N.l.take k)).getD j [])<BG)
  (hpt:∀ k (hk:k<N.l.length) q,ev ((N.l[k].ins.take q).foldl ((RF lw hw).in1 (own N.l) (scan ((RF lw hw).step (own N.l)) [] (N.l.take k)) N.l[k]) ((RF lw hw).start N.l[k]))<BG) (hll:lw.length=m+1) (hlh:hw.length=m+1) (hL:RPs w w.heap.size Al lw) (hH:RPs w w.heap.size Ah hw) :
  Calls Tryz.prog 162 #[ql N A c,.slice Al (m+1) cl,.slice Ah (m+1) ch] w (zl6 w ((RF lw hw).sum N)):=by
 obtain ⟨hn0,hn1,hl0,hl1⟩:=qD hv;have hfm:=fun k hk=>yT hv k hk;have hpl:=fun k hk j=>zl7 (N:=N) hW hv hd k hk j;have hql:=fun k hk q=>zjD (N:=N) hW hv hd k hk q;have hsub:=fun k hk i h=>zcn hv N.l.length k hk hk i h;have hva:=fun W h=>zdR W N A c h hv;obtain ⟨n,l⟩:=N;obtain rfl:n=(m:Int):=hm;simp only at hN hn0 hn1 hl0 hl1 hfm hpe hpt hpl hql hsub hva;have hol:=zew l;have hsum:(RF lw hw).sum ⟨(m:Int),l⟩=(RF lw hw).wide ((scan ((RF lw hw).step (own l)) [] l).getD (l.length-1) []) (vl (zI (qs (m:Int)) ((own l).getD (l.length-1) 0))):=rfl;rw [hsum];have hsc:∀ k (hk:k<l.length),scan ((RF lw hw).step (own l)) [] (l.take (k+1))=scan ((RF lw hw).step (own l)) [] (l.take k)++[(RF lw hw).step (own l) (scan ((RF lw hw).step (own l)) [] (l.take k)) l[k]]:=fun k hk=>jf _ l k hk;have hscl:∀ k,k≤l.length→(scan ((RF lw hw).step (own l)) [] (l.take k)).length=k:=fun k hk=>q7 _ l k hk;obtain ⟨O,hO⟩:∃ O,own l=O:=⟨_,rfl⟩;rw [hO] at hol ⊢;simp only [hO] at hpe hpt hpl hql hsub hva hsc hscl;obtain ⟨V,hV⟩:∃ V,(RF lw hw).wide ((scan ((RF lw hw).step O) [] l).getD (l.length-1) []) (vl (zI (qs (m:Int)) (O.getD (l.length-1) 0)))=V:=⟨_,rfl⟩;rw [hV];have HV:=za hV;clear hV;have HW:=za hW;have HFM:=za hfm;have HPE:=za hpe;have HPT:=za hpt;have HPL:=za hpl;have HQL:=za hql;have HSUB:=za hsub;have HVA:=za hva;have HSC:=za hsc;have HSCL:=za hscl;have HL:=za hL;have HH:=za hH;have HLL:=za hll;have HLH:=za hlh;have HOL:=za hol;have hgp:=fun W Ak ck al ow p h1 h2 h3 h4 h5 h6 h7=>rgap_any W Ak Al Ah ck cl ch p al ow m lw hw b hb1000 hW hll hlh (by omega) h1 h2 h3 h4 h5 h6 h7;have HGP:=za hgp;clear hfm hpe hpt hpl hql hsub hva hsc hscl hL hH hll hlh hol hW hv hd hsum hO hgp;have hbox:=jx w ⟨(m:Int),l⟩ A c 24 _ rfl;have hbl:Below w.heap.size w (w.alloc (.cells #[.int .i64 (m:Int),.slice A l.length c] 24)):=(zA _ _).alloc (zi _) _;go_enter Tryz.func162, Tryz.ntmps162;go_wp2_with fail
 refine (HVA.out _ ((hN.below hbl).more hbl.size)).mono ?_;rintro e w5 ⟨g,cg,rfl,hgg,hvr,hb5⟩;have hE:SR w5 (.slice none 0 0) 0 [] (scan ((RF lw hw).step O) [] (l.take 0)) w5:=⟨World.ownsRow_nil _ _ _ _,RPls.nil _,zA _ _⟩;replace hbox:=zh hbox hb5;replace hb5:=zu hbl hb5 hbl.size;have hz5:w.heap.size<w5.heap.size:=hbox.lt;have HB5:=za hb5;have HBOX:=za hbox;have HVR:=za hvr;clear hb5 HVA hbl hvr hgg;go_wp2;go_loopw [8,9] (fun out t wr=>∃ (k:Nat) (U:List Value),k≤l.length∧t = .int .i64 k∧SR w5 out k U (scan ((RF lw hw).step O) [] (l.take k)) wr) (fun _ t _=>l.length-(intOf t).toNat)
 case atStart=>exact ⟨0,[],by omega,rfl,hE⟩
 case round =>
  clear hE hbox;obtain ⟨k,U,hk,rfl,hE⟩:=hrel;obtain ⟨hn1',hn2'⟩:=yg (zh HBOX.out hE.bl);have hz6:=hE.bl.size;by_cases hlt:k<l.length
  ·obtain ⟨b,o,rfl,hbB,hcs⟩:=hN (by omega);have hnd:=hcs k hlt;clear hcs;have hfk:=HFM.out k hlt;have hpt:=HPT.out k hlt;have hql:=HQL.out k hlt;have hsc:=HSC.out k hlt;have hLl:=HSCL.out k hk;have hpe:=HPE.out k hk;have hpl:=HPL.out k hk;have hsb:=HSUB.out k hlt;obtain ⟨x,hx⟩:∃ x,l[k]=x:=⟨_,rfl⟩;rw [hx] at hnd hfk hsc;simp only [hx] at hpt hql;obtain ⟨L,hL⟩:∃ L,scan ((RF lw hw).step O) [] (l.take k)=L:=⟨_,rfl⟩;rw [hL] at hE hsc hLl;simp only [hL] at hpt hql hpe hpl;obtain ⟨P,hP⟩:∃ P:Nat→List Nat,P=fun q=>(x.ins.take q).foldl ((RF lw hw).in1 O L x) ((RF lw hw).start x):=⟨_,rfl⟩;have hpq:∀ q,(x.ins.take q).foldl ((RF lw hw).in1 O L x) ((RF lw hw).start x)=P q:=fun q=>by rw [hP]
   simp only [hpq] at hpt hql;have hp0:P 0=(RF lw hw).start x:=by rw [hP];rfl
   have hps:∀ (q j:Nat),q<x.ins.length→x.ins.getD q 0=(j:Int)→P (q+1)=(RF lw hw).in1 O L x (P q) (j:Int):=fun q j h1 h2=>by
    rw [← hpq (q+1),List.take_succ_eq_append_getElem h1,List.foldl_append,hpq q];rw [← h2];simp [List.getD,h1]
   have hpl2:P x.ins.length=(RF lw hw).step O L x:=by rw [hP];simp only [List.take_length];rfl
   have hsk:=zla lw hw hfk;rw [← hp0] at hsk;have HSC1:=za hsc;have HPT1:=za hpt;have HQL1:=za hql;have HPE1:=za hpe;have HPL1:=za hpl;have HPS:=za hps;have HPL2:=za hpl2;have HSB:=za hsb;have HLl:=za hLl;have HIN:=za (formed_ins hfk);have hke:HFM=HFM:=rfl;clear hke;clear hx hL hsc hpt hql hpe hpl hLl hfk hpq hP hp0 hps hpl2 hsb;obtain ⟨hk1,hk2,⟨A',c',hk3,hrd⟩,hr1,hr2,hr3,hr4⟩:=hnd;have hb0:Below w.heap.size w wr:=HB5.out.trans (hE.bl.mono (Nat.le_of_lt hz5));replace hk1:=zF hb0 hbB hk1;replace hk2:=zF hb0 hbB hk2;replace hk3:=zF hb0 hbB hk3;have HRD:=za hrd;clear hrd;have HE:=za hE;have hi0:(0:Int)≤(k:Int):=by omega
   have hi1:(k:Int)<(l.length:Int):=by omega
   have hfin:True:=trivial;obtain ⟨W0,rfl⟩:∃ W0,W0=wr:=⟨wr,rfl⟩;rcases hsk with ⟨h1,h2,h3⟩ | ⟨h1,h2,h3⟩ | ⟨v,h1,hv,hv1,hv2,h2,h3⟩ | ⟨v,h1,hv,hv1,hv2,h2,h3⟩ | ⟨h1,h2⟩ | ⟨h1,h2⟩
   ·have hxA:=zde (W:=W0) (x:=x) (A:=A') (c:=c') (t:=76) (a1:=0) (a2:=x.lit) rfl h1.symm rfl;rw [h1] at hk1;have H3:=za h3;clear h3;have hs0:=RdS.nil (W0.alloc (.cells #[.int .i64 0,.int .i64 x.lit,.slice A' x.ins.length c'] 76)) (W0.alloc (.cells #[.int .i64 0,.int .i64 x.lit,.slice A' x.ins.length c'] 76)).heap.size none;have hs1:=hE.alloc (.cells #[.int .i64 0,.int .i64 x.lit,.slice A' x.ins.length c'] 76);have hs3:Below W0.heap.size W0 (W0.alloc (.cells #[.int .i64 0,.int .i64 x.lit,.slice A' x.ins.length c'] 76)):=(zA _ _).alloc (zi _) _;clear hE;go_wp2_with fail
    go_loopw [11,12] (fun sv t wq=>∃ (q:Nat) (Aq:Option Addr) (cq:Nat),q≤x.ins.length∧t = .int .i64 q∧sv = .slice Aq (P q).length cq∧(P q).length≤cq∧RdS wq wq.heap.size Aq (P q)∧SR w5 u8 k U L wq∧wq.rowIs W0.heap.size 76 3 (jH x A' c')∧Below W0.heap.size W0 wq) (fun _ t _=>x.ins.length-(intOf t).toNat)
    case atStart=>exact ⟨0,none,0,by omega,rfl,by rw [h2];rfl,by rw [h2];exact zi _,by rw [h2];exact hs0,hs1,hxA,hs3⟩
    case round =>
     clear hs0;obtain ⟨q,Aq,cq,hq,rfl,rfl,hcq,hAq,hE,hxN,hbq⟩:=hrel;obtain ⟨hx0,hx1,hx2⟩:=zbU hxN;rw [h1] at hx0;have hzq:=hbq.size;by_cases hqlt:q<x.ins.length
     ·exact absurd hqlt (by have:=H3.out;omega)
     ·obtain rfl:q=x.ins.length:=by omega
      have hst:=HPL2.out;have hnx:=HSC1.out;rw [← hst] at hnx;have HNX:=za hnx;have HEA:=za hE;have HQA:=za hAq;have hown:=hE.own.alloc (.cells #[.slice Aq (P x.ins.length).length cq] 204);have hz7:=hE.bl.size;obtain ⟨ti,hti,ht0,ht1,ht2⟩:=info_parts zbV;clear hst hnx hE hAq;go_wp2_with (at_builtin;refine wpList_append_own _ rfl _ _ 203 rfl w5.heap.size 204 ti (.slice none 0 0) 1 24 Tryz.underlying203 hti ht0 ht1 ht2 rfl (by decide) _ _ _ rfl hown ⟨wr.heap.size,0,none⟩ 1 1 [.slice Aq (P x.ins.length).length cq] rfl rfl qR zca (by unfold maxLen;omega) (by omega) (by simp;omega) ?_;intro v' w3 hown3 hgr3 _)
      have hE3:=(HEA.out.alloc (.cells #[.slice Aq (P x.ins.length).length cq] 204)).next hcq ((HQA.out.below ((zA _ _).alloc (zi _) _)).more (by simp)) hown3 hgr3
      rw [← HNX.out] at hE3;go_wp2;go_roundw
      case rel=>exact ⟨k+1,_,by omega,by go_num,hE3⟩
      case measure=>simp [intOf];omega
   ·have hxA:=zde (W:=W0) (x:=x) (A:=A') (c:=c') (t:=76) (a1:=1) (a2:=x.lit) rfl h1.symm rfl;rw [h1] at hk1;have H3:=za h3;clear h3;have hs0:=(oneStr (W0.alloc (.cells #[.int .i64 1,.int .i64 x.lit,.slice A' x.ins.length c'] 76)) (W0.heap.size+1) (by simp)).more (B':=((W0.alloc (.cells #[.int .i64 1,.int .i64 x.lit,.slice A' x.ins.length c'] 76)).alloc (.cells #[.string ⟨#[49]⟩] 9)).heap.size) (by simp);have hs1:=(hE.alloc (.cells #[.int .i64 1,.int .i64 x.lit,.slice A' x.ins.length c'] 76)).alloc (.cells #[.string ⟨#[49]⟩] 9);have hs2:=hxA.alloc (.cells #[.string ⟨#[49]⟩] 9);have hs3:Below W0.heap.size W0 ((W0.alloc (.cells #[.int .i64 1,.int .i64 x.lit,.slice A' x.ins.length c'] 76)).alloc (.cells #[.string ⟨#[49]⟩] 9)):=((zA _ _).alloc (zi _) _).alloc (by simp) _;clear hE hxA;go_wp2_with fail
    go_loopw [11,12] (fun sv t wq=>∃ (q:Nat) (Aq:Option Addr) (cq:Nat),q≤x.ins.length∧t = .int .i64 q∧sv = .slice Aq (P q).length cq∧(P q).length≤cq∧RdS wq wq.heap.size Aq (P q)∧SR w5 u8 k U L wq∧wq.rowIs W0.heap.size 76 3 (jH x A' c')∧Below W0.heap.size W0 wq) (fun _ t _=>x.ins.length-(intOf t).toNat)
    case atStart=>exact ⟨0,_,_,by omega,rfl,by rw [h2];rfl,by rw [h2];exact zi _,by rw [h2];exact hs0,hs1,hs2,hs3⟩
    case round =>
     clear hs0;obtain ⟨q,Aq,cq,hq,rfl,rfl,hcq,hAq,hE,hxN,hbq⟩:=hrel;obtain ⟨hx0,hx1,hx2⟩:=zbU hxN;rw [h1] at hx0;have hzq:=hbq.size;by_cases hqlt:q<x.ins.length
     ·exact absurd hqlt (by have:=H3.out;omega)
     ·obtain rfl:q=x.ins.length:=by omega
      have hst:=HPL2.out;have hnx:=HSC1.out;rw [← hst] at hnx;have HNX:=za hnx;have HEA:=za hE;have HQA:=za hAq;have hown:=hE.own.alloc (.cells #[.slice Aq (P x.ins.length).length cq] 204);have hz7:=hE.bl.size;obtain ⟨ti,hti,ht0,ht1,ht2⟩:=info_parts zbV;clear hst hnx hE hAq;go_wp2_with (at_builtin;refine wpList_append_own _ rfl _ _ 203 rfl w5.heap.size 204 ti (.slice none 0 0) 1 24 Tryz.underlying203 hti ht0 ht1 ht2 rfl (by decide) _ _ _ rfl hown ⟨wr.heap.size,0,none⟩ 1 1 [.slice Aq (P x.ins.length).length cq] rfl rfl qR zca (by unfold maxLen;omega) (by omega) (by simp;omega) ?_;intro v' w3 hown3 hgr3 _)
      have hE3:=(HEA.out.alloc (.cells #[.slice Aq (P x.ins.length).length cq] 204)).next hcq ((HQA.out.below ((zA _ _).alloc (zi _) _)).more (by simp)) hown3 hgr3
      rw [← HNX.out] at hE3;go_wp2;go_roundw
      case rel=>exact ⟨k+1,_,by omega,by go_num,hE3⟩
      case measure=>simp [intOf];omega
   ·have hxA:=zde (W:=W0) (x:=x) (A:=A') (c:=c') (t:=76) (a1:=2) (a2:=(v:Int)) rfl h1.symm hv.symm;rw [h1] at hk1;rw [hv] at hk2;have H3:=za h3;clear h3;obtain ⟨bp,op,rfl,hbpB,hcp⟩:=HH.out (by have:=HLH.out;omega);obtain ⟨Ap,cp,hp1,hp2,hp3⟩:=hcp v (by have:=HLH.out;omega);have hs3:Below W0.heap.size W0 (W0.alloc (.cells #[.int .i64 2,.int .i64 (v:Int),.slice A' x.ins.length c'] 76)):=(zA _ _).alloc (zi _) _;have hb7:=zu hb0 hs3 hb0.size;have hp4:=zF hb0 hbpB hp1;have hp5:=zF hb7 hbpB hp1;have hs0:=(hp3.below hb7).more hb7.size;rw [← h2] at hp4 hp5 hs0 hp2;have hs1:=hE.alloc (.cells #[.int .i64 2,.int .i64 (v:Int),.slice A' x.ins.length c'] 76);have v0:(0:Int)≤(v:Int):=by omega
    have v1:(v:Int)<(m:Int)+1:=by omega
    have v2:(0:Int)<(v:Int):=by omega
    have v3:¬ (v:Int)<0:=by omega
    have v4:True:=trivial;have HP1:=za hp1;have HP3:=za hp3;have H2:=za h2;clear hE hcp hp1 hp3 h2;go_wp2_with fail
    go_loopw [11,12] (fun sv t wq=>∃ (q:Nat) (Aq:Option Addr) (cq:Nat),q≤x.ins.length∧t = .int .i64 q∧sv = .slice Aq (P q).length cq∧(P q).length≤cq∧RdS wq wq.heap.size Aq (P q)∧SR w5 u8 k U L wq∧wq.rowIs W0.heap.size 76 3 (jH x A' c')∧Below W0.heap.size W0 wq) (fun _ t _=>x.ins.length-(intOf t).toNat)
    case atStart=>exact ⟨0,Ap,cp,by omega,rfl,rfl,hp2,hs0,hs1,hxA,hs3⟩
    case round =>
     clear hs0;obtain ⟨q,Aq,cq,hq,rfl,rfl,hcq,hAq,hE,hxN,hbq⟩:=hrel;obtain ⟨hx0,hx1,hx2⟩:=zbU hxN;rw [h1] at hx0;rw [hv] at hx1;have hzq:=hbq.size;by_cases hqlt:q<x.ins.length
     ·exact absurd hqlt (by have:=H3.out;omega)
     ·obtain rfl:q=x.ins.length:=by omega
      have hst:=HPL2.out;have hnx:=HSC1.out;rw [← hst] at hnx;have HNX:=za hnx;have HEA:=za hE;have HQA:=za hAq;have hown:=hE.own.alloc (.cells #[.slice Aq (P x.ins.length).length cq] 204);have hz7:=hE.bl.size;obtain ⟨ti,hti,ht0,ht1,ht2⟩:=info_parts zbV;clear hst hnx hE hAq;go_wp2_with (at_builtin;refine wpList_append_own _ rfl _ _ 203 rfl w5.heap.size 204 ti (.slice none 0 0) 1 24 Tryz.underlying203 hti ht0 ht1 ht2 rfl (by decide) _ _ _ rfl hown ⟨wr.heap.size,0,none⟩ 1 1 [.slice Aq (P x.ins.length).length cq] rfl rfl qR zca (by unfold maxLen;omega) (by omega) (by simp;omega) ?_;intro v' w3 hown3 hgr3 _)
      have hE3:=(HEA.out.alloc (.cells #[.slice Aq (P x.ins.length).length cq] 204)).next hcq ((HQA.out.below ((zA _ _).alloc (zi _) _)).more (by simp)) hown3 hgr3
      rw [← HNX.out] at hE3;go_wp2;go_roundw
      case rel=>exact ⟨k+1,_,by omega,by go_num,hE3⟩
      case measure=>simp [intOf];omega
   ·have hxA:=zde (W:=W0) (x:=x) (A:=A') (c:=c') (t:=76) (a1:=2) (a2:=(-(v:Int))) rfl h1.symm hv.symm;rw [h1] at hk1;rw [hv] at hk2;have H3:=za h3;clear h3;obtain ⟨bp,op,rfl,hbpB,hcp⟩:=HL.out (by have:=HLL.out;omega);obtain ⟨Ap,cp,hp1,hp2,hp3⟩:=hcp v (by have:=HLL.out;omega);have hs3:Below W0.heap.size W0 (W0.alloc (.cells #[.int .i64 2,.int .i64 (-(v:Int)),.slice A' x.ins.length c'] 76)):=(zA _ _).alloc (zi _) _;have hb7:=zu hb0 hs3 hb0.size;have hp4:=zF hb0 hbpB hp1;have hp5:=zF hb7 hbpB hp1;have hs0:=(hp3.below hb7).more hb7.size;rw [← h2] at hp4 hp5 hs0 hp2;have hs1:=hE.alloc (.cells #[.int .i64 2,.int .i64 (-(v:Int)),.slice A' x.ins.length c'] 76);have v0:(0:Int)≤(v:Int):=by omega
    have v1:(v:Int)<(m:Int)+1:=by omega
    have v2:(0:Int)<(v:Int):=by omega
    have v3 : -(v:Int)<0:=by omega
    have v4:¬ 0 < -(v:Int):=by omega
    have HP1:=za hp1;have HP3:=za hp3;have H2:=za h2;clear hE hcp hp1 hp3 h2;go_wp2_with fail
    go_loopw [11,12] (fun sv t wq=>∃ (q:Nat) (Aq:Option Addr) (cq:Nat),q≤x.ins.length∧t = .int .i64 q∧sv = .slice Aq (P q).length cq∧(P q).length≤cq∧RdS wq wq.heap.size Aq (P q)∧SR w5 u8 k U L wq∧wq.rowIs W0.heap.size 76 3 (jH x A' c')∧Below W0.heap.size W0 wq) (fun _ t _=>x.ins.length-(intOf t).toNat)
    case atStart=>exact ⟨0,Ap,cp,by omega,rfl,rfl,hp2,hs0,hs1,hxA,hs3⟩
    case round =>
     clear hs0;obtain ⟨q,Aq,cq,hq,rfl,rfl,hcq,hAq,hE,hxN,hbq⟩:=hrel;obtain ⟨hx0,hx1,hx2⟩:=zbU hxN;rw [h1] at hx0;rw [hv] at hx1;have hzq:=hbq.size;by_cases hqlt:q<x.ins.length
     ·exact absurd hqlt (by have:=H3.out;omega)
     ·obtain rfl:q=x.ins.length:=by omega
      have hst:=HPL2.out;have hnx:=HSC1.out;rw [← hst] at hnx;have HNX:=za hnx;have HEA:=za hE;have HQA:=za hAq;have hown:=hE.own.alloc (.cells #[.slice Aq (P x.ins.length).length cq] 204);have hz7:=hE.bl.size;obtain ⟨ti,hti,ht0,ht1,ht2⟩:=info_parts zbV;clear hst hnx hE hAq;go_wp2_with (at_builtin;refine wpList_append_own _ rfl _ _ 203 rfl w5.heap.size 204 ti (.slice none 0 0) 1 24 Tryz.underlying203 hti ht0 ht1 ht2 rfl (by decide) _ _ _ rfl hown ⟨wr.heap.size,0,none⟩ 1 1 [.slice Aq (P x.ins.length).length cq] rfl rfl qR zca (by unfold maxLen;omega) (by omega) (by simp;omega) ?_;intro v' w3 hown3 hgr3 _)
      have hE3:=(HEA.out.alloc (.cells #[.slice Aq (P x.ins.length).length cq] 204)).next hcq ((HQA.out.below ((zA _ _).alloc (zi _) _)).more (by simp)) hown3 hgr3
      rw [← HNX.out] at hE3;go_wp2;go_roundw
      case rel=>exact ⟨k+1,_,by omega,by go_num,hE3⟩
      case measure=>simp [intOf];omega
   ·have hxA:=zde (W:=W0) (x:=x) (A:=A') (c:=c') (t:=76) (a1:=3) (a2:=x.lit) rfl h1.symm rfl;rw [h1] at hk1;have hs0:=(oneStr (W0.alloc (.cells #[.int .i64 3,.int .i64 x.lit,.slice A' x.ins.length c'] 76)) (W0.heap.size+1) (by simp)).more (B':=((W0.alloc (.cells #[.int .i64 3,.int .i64 x.lit,.slice A' x.ins.length c'] 76)).alloc (.cells #[.string ⟨#[49]⟩] 9)).heap.size) (by simp);have hs1:=(hE.alloc (.cells #[.int .i64 3,.int .i64 x.lit,.slice A' x.ins.length c'] 76)).alloc (.cells #[.string ⟨#[49]⟩] 9);have hs2:=hxA.alloc (.cells #[.string ⟨#[49]⟩] 9);have hs3:Below W0.heap.size W0 ((W0.alloc (.cells #[.int .i64 3,.int .i64 x.lit,.slice A' x.ins.length c'] 76)).alloc (.cells #[.string ⟨#[49]⟩] 9)):=((zA _ _).alloc (zi _) _).alloc (by simp) _;clear hE hxA;go_wp2_with fail
    go_loopw [11,12] (fun sv t wq=>∃ (q:Nat) (Aq:Option Addr) (cq:Nat),q≤x.ins.length∧t = .int .i64 q∧sv = .slice Aq (P q).length cq∧(P q).length≤cq∧RdS wq wq.heap.size Aq (P q)∧SR w5 u8 k U L wq∧wq.rowIs W0.heap.size 76 3 (jH x A' c')∧Below W0.heap.size W0 wq) (fun _ t _=>x.ins.length-(intOf t).toNat)
    case atStart=>exact ⟨0,_,_,by omega,rfl,by rw [h2];rfl,by rw [h2];exact zi _,by rw [h2];exact hs0,hs1,hs2,hs3⟩
    case round =>
     clear hs0;obtain ⟨q,Aq,cq,hq,rfl,rfl,hcq,hAq,hE,hxN,hbq⟩:=hrel;obtain ⟨hx0,hx1,hx2⟩:=zbU hxN;rw [h1] at hx0;have hzq:=hbq.size;by_cases hqlt:q<x.ins.length
     ·obtain ⟨b',o',rfl,hbB',hcs⟩:=HRD.out (by omega);have hb1:Below w.heap.size w wr:=HB5.out.trans (hE.bl.mono (Nat.le_of_lt hz5));have hc:=zF hb1 hbB' (hcs q hqlt);clear hcs;unfold zJ at hc;obtain ⟨j,hj1,hj2⟩:=HIN.out q hqlt;rw [hj1] at hc;have hpn:=HPS.out q j hqlt hj1;have hpe1:=HPT1.out q;have hpe2:=HPT1.out (q+1);have hpl1:=HQL1.out q;have hye:=HPE1.out j;have hyl:=HPL1.out j;obtain ⟨gr,cr,Aj,cj,rfl,ho1,hcj,hAj⟩:=hE.at j hj2;obtain ⟨y,hy⟩:∃ y,L.getD j []=y:=⟨_,rfl⟩;rw [hy] at ho1 hcj hAj hye hyl;have hsz1:wr.heap.size=wr.heap.size:=rfl;have j0:(0:Int)≤(j:Int):=by omega
      have j1:(j:Int)<(k:Int):=by omega
      have j2:(j:Int)<(l.length:Int):=by omega
      have q0:(0:Int)≤(q:Int):=by omega
      have q1:(q:Int)<(x.ins.length:Int):=by omega
      have hpn2:P (q+1)=trimP (yQ (P q) y):=by
       rw [hpn];unfold Rg.in1;rw [if_pos (.inr h1)];show trimP (yQ (P q) (L.getD (j:Int).toNat []))=_;rw [Int.toNat_natCast,hy]
      have hxb:ev (P q)*ev y<BG*2^xh:=by
       have h5:ev (P (q+1))=ev (P q)*ev y:=by rw [hpn2,zbE,zh3]
       rw [← h5];exact Nat.lt_of_lt_of_le hpe2 (Nat.le_mul_of_pos_right _ (Nat.two_pow_pos _))
      have hup:∀ v,v<BG→zB v≤10000000:=fun v hv=>zcD v (Nat.lt_of_lt_of_le hv (Nat.le_mul_of_pos_right _ (Nat.two_pow_pos _)));have hpm:=zih wr Aq Aj cq cj (P q) y (by omega) (by omega) hAq.rd hAj.rd (fun i=>hup _ (Nat.lt_of_le_of_lt (zeM _ i) hpe1)) (fun i=>hup _ (Nat.lt_of_le_of_lt (zeM _ i) hye))
       (fun i j=>zcD _ (Nat.lt_of_le_of_lt (Nat.mul_le_mul (zeM _ i) (zeM _ j)) hxb)) (fun i j t h1 h2=>zcD _ (Nat.lt_of_le_of_lt (cvI_le _ _ i j t h1 h2) hxb))
      rw [← hpn2] at hpm;have HPM:=za hpm;clear hpn hpn2 hxb hup hpm hpe1 hpe2 hye hj1;go_wp2_with fail
      refine HPM.out.mono ?_;rintro e w9 ⟨B9,d9,rfl,hd9,hr9,hb9⟩;go_wp2;go_roundw
      case rel=>exact ⟨q+1,B9,d9,by omega,by go_num,rfl,hd9,hr9,hE.below hb9,zh hxN hb9,zu hbq hb9 hzq⟩
      case measure=>simp [intOf];omega
     ·obtain rfl:q=x.ins.length:=by omega
      have hst:=HPL2.out;have hnx:=HSC1.out;rw [← hst] at hnx;have HNX:=za hnx;have HEA:=za hE;have HQA:=za hAq;have hown:=hE.own.alloc (.cells #[.slice Aq (P x.ins.length).length cq] 204);have hz7:=hE.bl.size;obtain ⟨ti,hti,ht0,ht1,ht2⟩:=info_parts zbV;clear hst hnx hE hAq;go_wp2_with (at_builtin;refine wpList_append_own _ rfl _ _ 203 rfl w5.heap.size 204 ti (.slice none 0 0) 1 24 Tryz.underlying203 hti ht0 ht1 ht2 rfl (by decide) _ _ _ rfl hown ⟨wr.heap.size,0,none⟩ 1 1 [.slice Aq (P x.ins.length).length cq] rfl rfl qR zca (by unfold maxLen;omega) (by omega) (by simp;omega) ?_;intro v' w3 hown3 hgr3 _)
      have hE3:=(HEA.out.alloc (.cells #[.slice Aq (P x.ins.length).length cq] 204)).next hcq ((HQA.out.below ((zA _ _).alloc (zi _) _)).more (by simp)) hown3 hgr3
      rw [← HNX.out] at hE3;go_wp2;go_roundw
      case rel=>exact ⟨k+1,_,by omega,by go_num,hE3⟩
      case measure=>simp [intOf];omega
   ·have hxA:=zde (W:=W0) (x:=x) (A:=A') (c:=c') (t:=76) (a1:=4) (a2:=x.lit) rfl h1.symm rfl;rw [h1] at hk1;have hs0:=RdS.nil (W0.alloc (.cells #[.int .i64 4,.int .i64 x.lit,.slice A' x.ins.length c'] 76)) (W0.alloc (.cells #[.int .i64 4,.int .i64 x.lit,.slice A' x.ins.length c'] 76)).heap.size none;have hs1:=hE.alloc (.cells #[.int .i64 4,.int .i64 x.lit,.slice A' x.ins.length c'] 76);have hs3:Below W0.heap.size W0 (W0.alloc (.cells #[.int .i64 4,.int .i64 x.lit,.slice A' x.ins.length c'] 76)):=(zA _ _).alloc (zi _) _;clear hE;go_wp2_with fail
    go_loopw [11,12] (fun sv t wq=>∃ (q:Nat) (Aq:Option Addr) (cq:Nat),q≤x.ins.length∧t = .int .i64 q∧sv = .slice Aq (P q).length cq∧(P q).length≤cq∧RdS wq wq.heap.size Aq (P q)∧SR w5 u8 k U L wq∧wq.rowIs W0.heap.size 76 3 (jH x A' c')∧Below W0.heap.size W0 wq) (fun _ t _=>x.ins.length-(intOf t).toNat)
    case atStart=>exact ⟨0,none,0,by omega,rfl,by rw [h2];rfl,by rw [h2];exact zi _,by rw [h2];exact hs0,hs1,hxA,hs3⟩
    case round =>
     clear hs0;obtain ⟨q,Aq,cq,hq,rfl,rfl,hcq,hAq,hE,hxN,hbq⟩:=hrel;obtain ⟨hx0,hx1,hx2⟩:=zbU hxN;rw [h1] at hx0;have hzq:=hbq.size;by_cases hqlt:q<x.ins.length
     ·obtain ⟨b',o',rfl,hbB',hcs⟩:=HRD.out (by omega);have hb1:Below w.heap.size w wr:=HB5.out.trans (hE.bl.mono (Nat.le_of_lt hz5));have hc:=zF hb1 hbB' (hcs q hqlt);clear hcs;unfold zJ at hc;obtain ⟨j,hj1,hj2⟩:=HIN.out q hqlt;rw [hj1] at hc;have hpn:=HPS.out q j hqlt hj1;have hpe1:=HPT1.out q;have hpe2:=HPT1.out (q+1);have hpl1:=HQL1.out q;have hye:=HPE1.out j;have hyl:=HPL1.out j;obtain ⟨gr,cr,Aj,cj,rfl,ho1,hcj,hAj⟩:=hE.at j hj2;obtain ⟨y,hy⟩:∃ y,L.getD j []=y:=⟨_,rfl⟩;rw [hy] at ho1 hcj hAj hye hyl;have hsz1:wr.heap.size=wr.heap.size:=rfl;have j0:(0:Int)≤(j:Int):=by omega
      have j1:(j:Int)<(k:Int):=by omega
      have j2:(j:Int)<(l.length:Int):=by omega
      have q0:(0:Int)≤(q:Int):=by omega
      have q1:(q:Int)<(x.ins.length:Int):=by omega
      obtain ⟨G,hG⟩:∃ G,(RF lw hw).wide y (vl (zI (O.getD k 0) (O.getD j 0)))=G:=⟨_,rfl⟩;have hpn2:P (q+1)=trimP (yb (P q) G):=by
       rw [hpn];unfold Rg.in1;rw [if_neg (by omega)];show trimP (yb (P q) ((RF lw hw).wide (L.getD (j:Int).toNat []) (vl (zI (O.getD L.length 0) (O.getD (j:Int).toNat 0)))))=_;rw [Int.toNat_natCast,hy,HLl.out,hG]
      have hge:ev G<BG:=by
       have h5:ev (P (q+1))=ev (P q)+ev G:=by rw [hpn2,zbE,ze8]
       omega
      have hgl:G.length≤100000:=by
       have h5:=zga HW.out (vl (zI (O.getD k 0) (O.getD j 0))) y;have h6:=zgX (zI (O.getD k 0) (O.getD j 0)) 128;rw [jS] at h6;rw [hG] at h5;omega
      have hup:∀ v,v<BG→zB v≤10000000:=fun v hv=>zcD v (Nat.lt_of_lt_of_le hv (Nat.le_mul_of_pos_right _ (Nat.two_pow_pos _)));have hpa:=fun W A B ca cb h1 h2=>zii W A B ca cb (P q) G (by omega) (by omega) h1 h2 (fun i=>hup _ (Nat.lt_of_le_of_lt (zeM _ i) hpe1)) (fun i=>hup _ (Nat.lt_of_le_of_lt (zeM _ i) hge));have hgp:=fun W h5 h6 h7=>HGP.out W Aj cj (O.getD k 0) (O.getD j 0) y (fun i hi=>Int.ofNat_lt.1 (HSB.out i hi)) (by omega) hcj hye h5 h6 h7;rw [← hpn2] at hpa;have hvr1:=HVR.out.below hE.bl;obtain ⟨s1,s2⟩:=zf1 hvr1 k hlt;obtain ⟨s3,s4⟩:=zf1 hvr1 j (by omega);obtain ⟨sk,hsk⟩:∃ z,O.getD k 0=z:=⟨_,rfl⟩;obtain ⟨sj,hsj⟩:∃ z,O.getD j 0=z:=⟨_,rfl⟩;rw [hsk] at s1 s2;rw [hsj] at s3 s4;rw [hsk,hsj] at hG;simp only [hsk,hsj] at hgp;rw [hG] at hgp;clear hsk hsj;have HPA:=za hpa;have HGP1:=za hgp;have HAQ:=za hAq;have HAJ:=za hAj;clear hpn hpn2 hge hgl hup hpa hgp hpe1 hpe2 hye hj1 hAq hAj hG hvr1;have hgr:=hE.own.lt gr rfl;have hgv:g<w5.heap.size:=by
       obtain ⟨bz,oz,ez,hz,_⟩:=HVR.out (by omega);injection ez with ez;injection ez with ez _;omega
      have hb2:Below w.heap.size w wr.drew:=qw hb1 1;have hsD:wr.drew.heap.size=wr.heap.size:=rfl;have hsb2:=hb2.size;have hajD:RdS wr.drew wr.drew.heap.size Aj y:=HAJ.out;have haqD:RdS wr.drew wr.drew.heap.size Aq (P q):=HAQ.out;have hlD:=(HL.out.below hb2).more hb2.size;have hhD:=(HH.out.below hb2).more hb2.size;have HG1:=za (HGP1.out _ hajD hlD hhD);have HAQD:=za haqD;have HED:=za hE.drew;have HXD:=za hxN.drew;have HBQD:=za (qw hbq 1);have c1:wr.drew.cell? ⟨W0.heap.size,2,none⟩=some (.slice (some ⟨b',o',none⟩) x.ins.length c'):=hx2;have c2:wr.drew.cell? ⟨b',o'+q,none⟩=some (.int .i64 (j:Int)):=hc;have c3:wr.drew.cell? ⟨gr,j,none⟩=some (.slice Aj y.length cj):=ho1;have c4:wr.drew.cell? ⟨g,k*2,none⟩=some (.int .u64 (lo sk:Int)):=s1;have c5:wr.drew.cell? ⟨g,k*2+1,none⟩=some (.int .u64 (hi sk:Int)):=s2;have c6:wr.drew.cell? ⟨g,j*2,none⟩=some (.int .u64 (lo sj:Int)):=s3;have c7:wr.drew.cell? ⟨g,j*2+1,none⟩=some (.int .u64 (hi sj:Int)):=s4;have l1:W0.heap.size<wr.drew.heap.size:=hxN.lt;have l2:b'<wr.drew.heap.size:=by omega
      have l3:gr<wr.drew.heap.size:=by omega
      have l4:g<wr.drew.heap.size:=by have:=hE.bl.size;omega
      clear hajD haqD hlD hhD hE hxN hbq hb1 hb2 s1 s2 s3 s4 hc ho1;go_wp2_with fail
      clear hx0 hx1 hx2;go_region_held3 (fun w'=>w'.cell? ⟨W0.heap.size,2,none⟩=some (.slice (some ⟨b',o',none⟩) x.ins.length c')∧w'.cell? ⟨b',o'+q,none⟩=some (.int .i64 (j:Int))∧w'.cell? ⟨gr,j,none⟩=some (.slice Aj y.length cj)∧w'.cell? ⟨g,k*2,none⟩=some (.int .u64 (lo sk:Int))∧w'.cell? ⟨g,k*2+1,none⟩=some (.int .u64 (hi sk:Int))∧w'.cell? ⟨g,j*2,none⟩=some (.int .u64 (lo sj:Int))∧w'.cell? ⟨g,j*2+1,none⟩=some (.int .u64 (hi sj:Int))) (first | exact ⟨c1,c2,c3,c4,c5,c6,c7⟩ | go_keep)
       (first
         | (go_simp
            go_at_call 177;(with_reducible refine HG1.out.mono ?_);rintro e' w9 ⟨B9,d9,rfl,hd9,hr9,hb9⟩;have c1:=zF hb9 l1 c1;have c2:=zF hb9 l2 c2;have c3:=zF hb9 l3 c3;have c4:=zF hb9 l4 c4;have c5:=zF hb9 l4 c5;have c6:=zF hb9 l4 c6;have c7:=zF hb9 l4 c7;have HR9:=za hr9;have HAQ9:=za ((HAQD.out.below hb9).more hb9.size);have HE9:=za (HED.out.below hb9);have HX9:=za (zh HXD.out hb9);have HB9:=za (zu HBQD.out hb9 HBQD.out.size);have hz9:=hb9.size;clear hr9)
         | (go_simp
            go_at_call 176;(with_reducible refine (HPA.out _ Aq B9 cq d9 HAQ9.out.rd HR9.out.rd).mono ?_);rintro e' w10 ⟨B10,d10,rfl,hd10,hr10,hb10⟩;have c1:=zF hb10 (Nat.lt_of_lt_of_le l1 hz9) c1;have c2:=zF hb10 (Nat.lt_of_lt_of_le l2 hz9) c2;have c3:=zF hb10 (Nat.lt_of_lt_of_le l3 hz9) c3;have c4:=zF hb10 (Nat.lt_of_lt_of_le l4 hz9) c4;have c5:=zF hb10 (Nat.lt_of_lt_of_le l4 hz9) c5;have c6:=zF hb10 (Nat.lt_of_lt_of_le l4 hz9) c6;have c7:=zF hb10 (Nat.lt_of_lt_of_le l4 hz9) c7;have HR10:=za hr10;have HE10:=za (HE9.out.below hb10);have HX10:=za (zh HX9.out hb10);have HB10:=za (zu HB9.out hb10 HB9.out.size);clear hr10))
      all_goals
       try go_wp2
       go_roundw
       case rel=>exact ⟨q+1,B10,d10,by omega,by go_num,rfl,hd10,HR10.out,HE10.out,HX10.out,HB10.out⟩
       case measure=>simp [intOf];omega
     ·obtain rfl:q=x.ins.length:=by omega
      have hst:=HPL2.out;have hnx:=HSC1.out;rw [← hst] at hnx;have HNX:=za hnx;have HEA:=za hE;have HQA:=za hAq;have hown:=hE.own.alloc (.cells #[.slice Aq (P x.ins.length).length cq] 204);have hz7:=hE.bl.size;obtain ⟨ti,hti,ht0,ht1,ht2⟩:=info_parts zbV;clear hst hnx hE hAq;go_wp2_with (at_builtin;refine wpList_append_own _ rfl _ _ 203 rfl w5.heap.size 204 ti (.slice none 0 0) 1 24 Tryz.underlying203 hti ht0 ht1 ht2 rfl (by decide) _ _ _ rfl hown ⟨wr.heap.size,0,none⟩ 1 1 [.slice Aq (P x.ins.length).length cq] rfl rfl qR zca (by unfold maxLen;omega) (by omega) (by simp;omega) ?_;intro v' w3 hown3 hgr3 _)
      have hE3:=(HEA.out.alloc (.cells #[.slice Aq (P x.ins.length).length cq] 204)).next hcq ((HQA.out.below ((zA _ _).alloc (zi _) _)).more (by simp)) hown3 hgr3
      rw [← HNX.out] at hE3;go_wp2;go_roundw
      case rel=>exact ⟨k+1,_,by omega,by go_num,hE3⟩
      case measure=>simp [intOf];omega
  ·obtain rfl:k=l.length:=by omega
   have hLl:=HSCL.out l.length (zi _);have hpe:=HPE.out l.length (zi _);have hpl:=HPL.out l.length (zi _);rw [List.take_length] at hE hLl;simp only [List.take_length] at hpe hpl;have hv0:=HV.out;obtain ⟨L,hL⟩:∃ L,scan ((RF lw hw).step O) [] l=L:=⟨_,rfl⟩;rw [hL] at hE hLl;simp only [hL] at hpe hpl;rw [hL] at hv0;clear hL;obtain ⟨z,hz⟩:∃ z,z=l.length-1:=⟨_,rfl⟩;rw [← hz] at hv0;have hzl:l.length=z+1:=by omega
   obtain ⟨gr,cr,Aj,cj,rfl,ho1,hcj,hAj⟩:=hE.at z (by omega);have hye:=hpe z;have hyl:=hpl z;have hsb:=HSUB.out;obtain ⟨y,hy⟩:∃ y,L.getD z []=y:=⟨_,rfl⟩;rw [hy] at ho1 hcj hAj hye hyl;rw [hy] at hv0;have hvr1:=HVR.out.below hE.bl;obtain ⟨s1,s2⟩:=zf1 hvr1 z (by omega);obtain ⟨sz,hsz⟩:∃ q,O.getD z 0=q:=⟨_,rfl⟩;rw [hsz] at s1 s2;rw [hsz] at hv0;have hfl:=fun W=>xY W m (by omega);have hab:∀ i,(qs (m:Int)).testBit i=true→i<m:=fun i hi=>by
    rw [zbm] at hi;simp at hi;omega
   obtain ⟨al,hal⟩:∃ q,qs (m:Int)=q:=⟨_,rfl⟩;rw [hal] at hab;simp only [hal] at hfl;rw [hal] at hv0;have hgp:=fun W h5 h6 h7=>HGP.out W Aj cj al sz y hab (by omega) hcj hye h5 h6 h7;rw [hv0] at hgp;clear hv0;have HFL:=za hfl;have HGP1:=za hgp;have hajD:RdS wr.drew wr.drew.heap.size Aj y:=hAj;have HAJ:=za hajD;clear hajD;have hb1:Below w.heap.size w wr:=HB5.out.trans (hE.bl.mono (Nat.le_of_lt hz5));have hb2:Below w.heap.size w wr.drew:=qw hb1 1;have HBD:=za hb2;have hgr:=hE.own.lt gr rfl;have hgv:g<w5.heap.size:=by
    obtain ⟨bz,oz,ez,hz,_⟩:=HVR.out (by omega);injection ez with ez;injection ez with ez _;omega
   have hsD:wr.drew.heap.size=wr.heap.size:=rfl;have c1:wr.drew.cell? ⟨gr,z,none⟩=some (.slice Aj y.length cj):=ho1;have c2:wr.drew.cell? ⟨w.heap.size,0,none⟩=some (.int .i64 (m:Int)):=hn1';have c3:wr.drew.cell? ⟨g,z*2,none⟩=some (.int .u64 (lo sz:Int)):=s1;have c4:wr.drew.cell? ⟨g,z*2+1,none⟩=some (.int .u64 (hi sz:Int)):=s2;have l1:gr<wr.drew.heap.size:=by omega
   have l2:w.heap.size<wr.drew.heap.size:=by omega
   have l3:g<wr.drew.heap.size:=by omega
   have hwz:IntKind.i64.wrap ((l.length:Int)-1)=(z:Int):=by
    rw [IntKind.wrap_i64] <;> omega
   have z0:(0:Int)≤(z:Int):=by omega
   have z1:(z:Int)<(l.length:Int):=by omega
   clear hsz hal hy hfl hgp hab hAj hb1 hb2 hvr1 s1 s2 ho1 hpe hpl hye hyl hLl hz hzl hsb;go_wp2_with fail
   go_region_held3 (fun w'=>w'.cell? ⟨gr,z,none⟩=some (.slice Aj y.length cj)∧w'.cell? ⟨w.heap.size,0,none⟩=some (.int .i64 (m:Int))∧w'.cell? ⟨g,z*2,none⟩=some (.int .u64 (lo sz:Int))∧w'.cell? ⟨g,z*2+1,none⟩=some (.int .u64 (hi sz:Int))) (first | exact ⟨c1,c2,c3,c4⟩ | go_keep)
    (first
      | (go_simp
         go_at_call 178;(with_reducible refine (HFL.out _).mono ?_);rintro e' w9 ⟨rfl,hb9⟩;have c1:=zF hb9 l1 c1;have c2:=zF hb9 l2 c2;have c3:=zF hb9 l3 c3;have c4:=zF hb9 l3 c4;have HBE:=za (zu HBD.out hb9 HBD.out.size);have HAE:=za ((HAJ.out.below hb9).more hb9.size);have hz9:=hb9.size)
      | (go_simp
         go_at_call 177;(with_reducible refine (HGP1.out _ HAE.out ((HL.out.below HBE.out).more HBE.out.size) ((HH.out.below HBE.out).more HBE.out.size)).mono ?_);rintro e' w10 ⟨B10,d10,rfl,hd10,hr10,hb10⟩;have c1:=zF hb10 (Nat.lt_of_lt_of_le l1 hz9) c1;have c2:=zF hb10 (Nat.lt_of_lt_of_le l2 hz9) c2;have c3:=zF hb10 (Nat.lt_of_lt_of_le l3 hz9) c3;have c4:=zF hb10 (Nat.lt_of_lt_of_le l3 hz9) c4;have HBF:=za (zu HBE.out hb10 HBE.out.size);have HR10:=za hr10;clear hr10))
   all_goals
    try go_wp2
    go_ret;exact ⟨B10,d10,rfl,hd10,HR10.out,HBF.out⟩
end Go.Proofs.YtoljkoifgnmbgaaGreatDoor
end
end
section
section
open Go Go.RowKit Cs
namespace Go.Proofs.YtoljkoifgnmbgaaGreatDoor
theorem zdE (w:World) (V:Nat) (hV:zB V≤10000000):Calls Tryz.prog 118 #[.string (zj V)] w fun e w'=>e = .returned (.bool (decide (V<zM)))∧Below w.heap.size w w':=by
 have hsz:=qO V;have hbz:=qO zM;rw [zef] at hbz;have hld:=zks V zM;rw [zef] at hld;have hpw:∀ W,Calls Tryz.prog 119 #[.int .i64 4096] W fun e w'=>e = .returned (.string (zj zM))∧Below W.heap.size W w':=fun W=>by
  have h:=zie W jL (by rw [zcr];decide);rw [← zem,show ((jL:Nat):Int)=4096 by rw [zcr];rfl] at h;exact h
 have hlt:zB V<1234→V<zM:=fun h=>by
  rcases Nat.lt_or_ge V zM with h1 | h1
  ·exact h1
  ·have:=yz h1;rw [zef] at this;omega
 have hgt:1234<zB V→¬ V<zM:=fun h h1=>by
  have:=yz (Nat.le_of_lt h1);rw [zef] at this;omega
 obtain ⟨B,hB⟩:∃ B,decide (V<zM)=B:=⟨_,rfl⟩;rw [hB] at hld ⊢;have HLT:zB V<1234→B=true:=fun h=>by rw [← hB,decide_eq_true (hlt h)]
 have HGT:1234<zB V→B=false:=fun h=>by rw [← hB,decide_eq_false (hgt h)]
 obtain ⟨s,hs⟩:∃ s,zj V=s:=⟨_,rfl⟩;obtain ⟨t,ht⟩:∃ t,zj zM=t:=⟨_,rfl⟩;rw [hs] at hsz hld ⊢;simp only [ht] at hbz hld hpw;clear hlt hgt hB hs ht;rw [← hsz] at hld HLT HGT hV;clear hsz;have HPW:=za hpw;clear hpw;rcases Nat.lt_trichotomy s.size 1234 with h | h | h
 ·obtain rfl:=HLT h;have h1:¬ ((s.size:Int)=1234):=by omega
  have h2:(s.size:Int)<1234:=by omega
  clear hld HLT HGT;go_enter Tryz.func118, Tryz.ntmps118;go_wp2;go_ret;exact ⟨rfl,zA _ _⟩
 ·have h1:(s.size:Int)=1234:=by omega
  have h3:=hld h;rw [← ByteArray.toList_eq,← ByteArray.toList_eq] at h3;have h4:s.size=t.size:=by omega
  have H3:=za h3;have H4:=za h4;clear hld HLT HGT h3 h4 h;cases B
  ·go_enter Tryz.func118, Tryz.ntmps118;go_wp2_with fail
   refine (HPW.out _).mono ?_;rintro e w5 ⟨rfl,hb5⟩;go_wp2_with fail
   refine (rcmp_ge w5 s t H4.out H3.out).mono ?_;rintro e w6 ⟨x,hx,hx2,rfl,rfl⟩;have hx3:decide (x<0)=false:=decide_eq_false (by omega);go_wp2;go_ret;exact ⟨rfl,hb5⟩
  ·go_enter Tryz.func118, Tryz.ntmps118;go_wp2_with fail
   refine (HPW.out _).mono ?_;rintro e w5 ⟨rfl,hb5⟩;go_wp2_with fail
   refine (gL w5 s t H4.out H3.out).mono ?_;rintro e w6 ⟨rfl,rfl⟩;go_wp2;go_ret;exact ⟨rfl,hb5⟩
 ·obtain rfl:=HGT h;have h1:¬ ((s.size:Int)=1234):=by omega
  have h2:¬ (s.size:Int)<1234:=by omega
  clear hld HLT HGT;go_enter Tryz.func118, Tryz.ntmps118;go_wp2;go_ret;exact ⟨rfl,zA _ _⟩
end Go.Proofs.YtoljkoifgnmbgaaGreatDoor
end
section
open Go Go.RowKit Cs
namespace Cs
theorem or_zero (a b:Nat):a ||| b=0↔a=0∧b=0:=by
 constructor
 ·intro h;have h1:a≤a ||| b:=Nat.left_le_or
  have h2:b≤a ||| b:=Nat.right_le_or
  omega
 ·rintro ⟨rfl,rfl⟩;rfl
def ye (O:List Nat) (ks:List Int) (a:Nat):Nat:=O.getD (ks.getD a 0).toNat 0
theorem ziK (O:List Nat):∀ (ks:List Int) (s:Nat),apart O s ks=true↔(∀ a,a<ks.length→s &&& ye O ks a=0)∧∀ a,a<ks.length→∀ b,b<a→ye O ks a &&& ye O ks b=0
 | [],s=>by simp [apart]
 | k::ks,s=>by
   unfold apart;have ih:=ziK O ks (s ||| O.getD k.toNat 0);have e0:ye O (k::ks) 0=O.getD k.toNat 0:=rfl;have es:∀ a,ye O (k::ks) (a+1)=ye O ks a:=fun a=>rfl;constructor
   ·intro h;split at h
    ·rename_i h0;obtain ⟨h1,h2⟩:=ih.1 h;have h3:∀ a,a<ks.length→s &&& ye O ks a=0∧O.getD k.toNat 0 &&& ye O ks a=0:=fun a ha=>by
      have:=h1 a ha;rw [Nat.and_or_distrib_right] at this;exact (or_zero _ _).1 this
     refine ⟨fun a ha=>?_,fun a ha b hb=>?_⟩
     ·match a with
      | 0=>rw [e0];exact h0
      | a+1=>rw [es];exact (h3 a (by simp at ha;omega)).1
     ·match a with
      | 0=>omega
      | a+1 =>
        match b with
        | 0=>rw [es,e0,Nat.and_comm];exact (h3 a (by simp at ha;omega)).2
        | b+1=>rw [es,es];exact h2 a (by simp at ha;omega) b (by omega)
    ·cases h
   ·rintro ⟨h1,h2⟩;have h0:=h1 0 (by simp);rw [e0] at h0;rw [if_pos h0];refine ih.2 ⟨fun a ha=>?_,fun a ha b hb=>?_⟩
    ·rw [Nat.and_or_distrib_right];have h3:=h1 (a+1) (by simp;omega);have h4:=h2 (a+1) (by simp;omega) 0 (by omega);rw [es] at h3 h4;rw [e0,Nat.and_comm] at h4;exact (or_zero _ _).2 ⟨h3,h4⟩
    ·have h4:=h2 (a+1) (by simp;omega) (b+1) (by omega);rw [es,es] at h4;exact h4
theorem zfU (O:List Nat):∀ (l:List Nd),yR O l=true↔∀ k (hk:k<l.length),l[k].kind=3→∀ a,a<l[k].ins.length→∀ b,b<a→ye O l[k].ins a &&& ye O l[k].ins b=0
 | []=>by simp [yR]
 | x::xs=>by
   have ih:=zfU O xs;unfold yR;have h0:apart O 0 x.ins=true↔∀ a,a<x.ins.length→∀ b,b<a→ye O x.ins a &&& ye O x.ins b=0:=by
    rw [ziK];exact ⟨fun h=>h.2,fun h=>⟨fun a _=>Nat.zero_and _,h⟩⟩
   constructor
   ·intro h k hk h3
    match k,hk,h3 with
    | 0,hk,h3 =>
      simp only [zv] at h3 ⊢;rw [if_pos h3,Bool.and_eq_true] at h;exact h0.1 h.1
    | k+1,hk,h3 =>
      simp only [zw] at h3 ⊢;have h5:yR O xs=true:=by
       split at h
       ·rw [Bool.and_eq_true] at h;exact h.2
       ·exact h
      exact ih.1 h5 k (by simp at hk;omega) h3
   ·intro h;have h5:yR O xs=true:=ih.2 fun k hk h3=>by
     have:=h (k+1) (by simp;omega);simp only [zw] at this;exact this h3
    split
    ·rename_i h3;rw [Bool.and_eq_true];have:=h 0 (by simp);simp only [zv] at this;exact ⟨h0.2 (this h3),h5⟩
    ·exact h5
theorem and_sets (a b:Nat) (ha:qX a):a &&& b=0↔lo a &&& lo b=0∧hi a &&& hi b=0:=by
 rw [← lo_and,← hi_and];constructor
 ·intro h;rw [h];exact ⟨rfl,rfl⟩
 ·rintro ⟨h1,h2⟩;have:=set_eq _ (zi4 (b:=b) ha);rw [h1,h2] at this;omega
theorem pQ {l:List Nd} {n:Int} {O:List Nat} (hO:own l=O) (h:∀ k (hk:k<l.length),l[k].kind=3→∀ a,a<l[k].ins.length→∀ b,b<a→ye O l[k].ins a &&& ye O l[k].ins b=0):qv ⟨n,l⟩=true:=by
 unfold qv;rw [show own (Nt.mk n l).l=O from hO];exact (zfU O l).2 h
theorem zl0 {l:List Nd} {n:Int} {O:List Nat} (hO:own l=O) {k a b:Nat} {x:Nd} (hk:k<l.length) (hx:l[k]=x) (h3:x.kind=3) (ha:a<x.ins.length) (hb:b<a) (h:ye O x.ins a &&& ye O x.ins b≠0):qv ⟨n,l⟩=false:=by
 cases hd:qv ⟨n,l⟩
 ·rfl
 ·unfold qv at hd;rw [show own (Nt.mk n l).l=O from hO] at hd;have:=(zfU O l).1 hd k hk (by rw [hx];exact h3) a (by rw [hx];exact ha) b hb;rw [hx] at this;exact absurd this h
end Cs
namespace Go.Proofs.YtoljkoifgnmbgaaGreatDoor
theorem gD (W:World) (a b:Nat) (t:TypeId) :
  ((W.alloc (.cells #[.int .u64 (lo a:Int),.int .u64 (hi a:Int)] t)).alloc (.cells #[.int .u64 (lo b:Int),.int .u64 (hi b:Int)] t)).drew.cell? ⟨W.heap.size,0,none⟩=some (.int .u64 (lo a:Int)) ∧
  ((W.alloc (.cells #[.int .u64 (lo a:Int),.int .u64 (hi a:Int)] t)).alloc (.cells #[.int .u64 (lo b:Int),.int .u64 (hi b:Int)] t)).drew.cell? ⟨W.heap.size,1,none⟩=some (.int .u64 (hi a:Int)) ∧
  ((W.alloc (.cells #[.int .u64 (lo a:Int),.int .u64 (hi a:Int)] t)).alloc (.cells #[.int .u64 (lo b:Int),.int .u64 (hi b:Int)] t)).drew.cell? ⟨W.heap.size+1,0,none⟩=some (.int .u64 (lo b:Int)) ∧
  ((W.alloc (.cells #[.int .u64 (lo a:Int),.int .u64 (hi a:Int)] t)).alloc (.cells #[.int .u64 (lo b:Int),.int .u64 (hi b:Int)] t)).drew.cell? ⟨W.heap.size+1,1,none⟩=some (.int .u64 (hi b:Int)):=by
 have r1:=((je W (.int .u64 (lo a:Int)) (.int .u64 (hi a:Int)) t _ rfl).alloc (.cells #[.int .u64 (lo b:Int),.int .u64 (hi b:Int)] t)).drew;have r2:=(je (W.alloc (.cells #[.int .u64 (lo a:Int),.int .u64 (hi a:Int)] t)) (.int .u64 (lo b:Int)) (.int .u64 (hi b:Int)) t (W.heap.size+1) (by simp)).drew;exact ⟨r1.cell (i:=0) (by decide),r1.cell (i:=1) (by decide),r2.cell (i:=0) (by decide),r2.cell (i:=1) (by decide)⟩
theorem zlk (w:World) (N:Nt) (A:Option Addr) (c:Nat) (hN:NtAt w w.heap.size A N.l) (hv:zC N=true) :
  Calls Tryz.prog 71 #[ql N A c] w fun e w'=>e = .returned (.bool (qv N))∧Below w.heap.size w w':=by
 obtain ⟨hn0,hn1,hl0,hl1⟩:=qD hv;have hfm:=fun k hk=>yT hv k hk;have hva:=fun W h=>zdR W N A c h hv;obtain ⟨n,l⟩:=N;simp only at hN hn0 hn1 hl0 hl1 hfm hva;have hol:=zew l;have hos:∀ j,qX ((own l).getD j 0):=gU l;obtain ⟨O,hO⟩:∃ O,own l=O:=⟨_,rfl⟩;rw [hO] at hol hos;simp only [hO] at hva;have hdt:=fun h=>pQ (n:=n) hO h;have hdf:=fun k a b x hk hx h3 ha hb h=>zl0 (n:=n) (k:=k) (a:=a) (b:=b) (x:=x) hO hk hx h3 ha hb h;obtain ⟨D,hD⟩:∃ D,qv ⟨n,l⟩=D:=⟨_,rfl⟩;simp only [hD] at hdt hdf;rw [hD];have HDT:=za hdt;have HDF:=za hdf;have HFM:=za hfm;have HVA:=za hva;have HOL:=za hol;have HOS:=za hos;clear hfm hva hol hv hO hos hdt hdf hD;have hbox:=jx w ⟨n,l⟩ A c 24 _ rfl;have hbl:Below w.heap.size w (w.alloc (.cells #[.int .i64 n,.slice A l.length c] 24)):=(zA _ _).alloc (zi _) _;go_enter Tryz.func71, Tryz.ntmps71;go_wp2_with fail
 refine (HVA.out _ ((hN.below hbl).more hbl.size)).mono ?_;rintro e w5 ⟨g,cg,rfl,hgg,hvr,hb5⟩;replace hbox:=zh hbox hb5;replace hb5:=zu hbl hb5 hbl.size;have hz5:w.heap.size<w5.heap.size:=hbox.lt;have hgv:g<w5.heap.size:=by
  obtain ⟨bz,oz,ez,hz,_⟩:=hvr (by omega);injection ez with ez;injection ez with ez _;omega
 have HB5:=za hb5;have HBOX:=za hbox;have HVR:=za hvr;clear hb5 HVA hbl hvr hgg hbox;go_wp2;go_loopw [4] (fun t wr=>∃ (k:Nat),k≤l.length∧t = .int .i64 k∧Hid (∀ k' (hk:k'<l.length),k'<k→l[k'].kind=3→∀ a,a<l[k'].ins.length→∀ b,b<a→ye O l[k'].ins a &&& ye O l[k'].ins b=0)∧Below w5.heap.size w5 wr) (fun t _=>l.length-(intOf t).toNat)
 case atStart=>exact ⟨0,by omega,rfl,za (fun k' _ h=>absurd h (by omega)),zA _ _⟩
 case round =>
  obtain ⟨k,hk,rfl,HP,hE⟩:=hrel;obtain ⟨hn1',hn2'⟩:=yg (zh HBOX.out hE);have hz6:=hE.size;by_cases hlt:k<l.length
  ·obtain ⟨b0,o0,rfl,hbB,hcs⟩:=hN (by omega);have hnd:=hcs k hlt;clear hcs;have hfk:=HFM.out k hlt;obtain ⟨x,hx⟩:∃ x,l[k]=x:=⟨_,rfl⟩;rw [hx] at hnd hfk;have HX:=za hx;have HIN:=za (formed_ins hfk);clear hfk hx;obtain ⟨hk1,hk2,⟨A',c',hk3,hrd⟩,hr1,hr2,hr3,hr4⟩:=hnd;have HK1:=za hk1;have HK3:=za hk3;have HRD:=za hrd;clear hrd hk1 hk2 hk3;have hi0:(0:Int)≤(k:Int):=by omega
   have hi1:(k:Int)<(l.length:Int):=by omega
   obtain ⟨W0,rfl⟩:∃ W0,W0=wr:=⟨wr,rfl⟩;go_wp2_with fail
   go_loopw [5] (fun t wr=>∃ (a:Nat),a≤x.ins.length∧t = .int .i64 a∧Hid (x.kind=3→∀ a',a'<a→∀ b,b<a'→ye O x.ins a' &&& ye O x.ins b=0)∧Below w5.heap.size w5 wr) (fun t _=>x.ins.length-(intOf t).toNat)
   case atStart=>exact ⟨0,by omega,rfl,za (fun _ a' h=>absurd h (by omega)),hE⟩
   case round =>
    clear hE hn1' hn2' hz6;obtain ⟨a,ha,rfl,HQ,hE⟩:=hrel;obtain ⟨hn1',hn2'⟩:=yg (zh HBOX.out hE);have hz6:=hE.size;have hb0:Below w.heap.size w wr:=HB5.out.trans (hE.mono (Nat.le_of_lt hz5));have hk1:=zF hb0 hbB HK1.out;have hk3:=zF hb0 hbB HK3.out;by_cases hal:a<x.ins.length
    ·have ha1:(a:Int)<(x.ins.length:Int):=by omega
     by_cases h3:x.kind=3
     ·rw [h3] at hk1;have H3:=za h3;go_wp2_with fail
      clear hk1 hk3 hn1' hn2' hb0;go_loopw [6] (fun t wr=>∃ (b:Nat),b≤a∧t = .int .i64 b∧Hid (∀ b',b'<b→ye O x.ins a &&& ye O x.ins b'=0)∧Below w5.heap.size w5 wr) (fun t _=>a-(intOf t).toNat)
      case atStart=>exact ⟨0,by omega,rfl,za (fun b' h=>absurd h (by omega)),hE⟩
      case round =>
       clear hE hz6;obtain ⟨b,hb,rfl,HR,hE⟩:=hrel;obtain ⟨hn1',hn2'⟩:=yg (zh HBOX.out hE);have hz6:=hE.size;have hb0:Below w.heap.size w wr:=HB5.out.trans (hE.mono (Nat.le_of_lt hz5));have hk3:=zF hb0 hbB HK3.out;by_cases hbl:b<a
       ·obtain ⟨b',o',rfl,hbB',hcs⟩:=HRD.out (by omega);have hca:=zF hb0 hbB' (hcs a (by omega));have hcb:=zF hb0 hbB' (hcs b (by omega));clear hcs;unfold zJ at hca hcb;obtain ⟨i,hi1',hi2⟩:=HIN.out a (by omega);obtain ⟨j,hj1',hj2⟩:=HIN.out b (by omega);have hsi:ye O x.ins a=O.getD i 0:=by unfold ye;rw [hi1'];rfl
        have hsj:ye O x.ins b=O.getD j 0:=by unfold ye;rw [hj1'];rfl
        rw [hi1'] at hca;rw [hj1'] at hcb;have hvr1:=HVR.out.below hE;obtain ⟨s1,s2⟩:=zf1 hvr1 i (by omega);obtain ⟨s3,s4⟩:=zf1 hvr1 j (by omega);have hsS:=HOS.out i;obtain ⟨si,hSi⟩:∃ z,O.getD i 0=z:=⟨_,rfl⟩;obtain ⟨sj,hSj⟩:∃ z,O.getD j 0=z:=⟨_,rfl⟩;rw [hSi] at s1 s2 hsi hsS;rw [hSj] at s3 s4 hsj;have pH:=and_sets si sj hsS;have hu1:=u64_and_nat (lo si) (lo sj) (y8 si) (y8 sj);have hu2:=u64_and_nat (hi si) (hi sj) (y7 si) (y7 sj);obtain ⟨p,hp⟩:∃ p,lo si &&& lo sj=p:=⟨_,rfl⟩;obtain ⟨q,hq⟩:∃ p,hi si &&& hi sj=p:=⟨_,rfl⟩;rw [hp] at hu1 pH;rw [hq] at hu2 pH;have HSI:=za hsi;have HSJ:=za hsj;have HAS:=za pH;have i0:(0:Int)≤(i:Int):=by omega
        have i1:(i:Int)<(l.length:Int):=by omega
        have j0:(0:Int)≤(j:Int):=by omega
        have j1:(j:Int)<(l.length:Int):=by omega
        have a0:(0:Int)≤(a:Int):=by omega
        have b1:(b:Int)<(x.ins.length:Int):=by omega
        have b2:(b:Int)<(a:Int):=by omega
        have b0':(0:Int)≤(b:Int):=by omega
        clear hi1' hj1' hSi hSj hsS pH hp hq hsi hsj hvr1;go_wp2_with fail
        go_cut [7,8] from 43 to 67 (fun pa pb wx=>∃ ga gb,pa = .pointer (some ⟨ga,0,none⟩)∧pb = .pointer (some ⟨gb,0,none⟩)∧wx.cell? ⟨ga,0,none⟩=some (.int .u64 (lo si:Int))∧wx.cell? ⟨ga,1,none⟩=some (.int .u64 (hi si:Int))∧wx.cell? ⟨gb,0,none⟩=some (.int .u64 (lo sj:Int))∧wx.cell? ⟨gb,1,none⟩=some (.int .u64 (hi sj:Int))∧Below w5.heap.size w5 wx)
        case first =>
         have d1:wr.drew.cell? ⟨w.heap.size,1,none⟩=some (.slice (some ⟨b0,o0,none⟩) l.length c):=hn2';have d2:wr.drew.cell? ⟨b0,o0+k*3+2,none⟩=some (.slice (some ⟨b',o',none⟩) x.ins.length c'):=hk3;have d3:wr.drew.cell? ⟨b',o'+a,none⟩=some (.int .i64 (i:Int)):=hca;have d4:wr.drew.cell? ⟨b',o'+b,none⟩=some (.int .i64 (j:Int)):=hcb;have d5:wr.drew.cell? ⟨g,i*2,none⟩=some (.int .u64 (lo si:Int)):=s1;have d6:wr.drew.cell? ⟨g,i*2+1,none⟩=some (.int .u64 (hi si:Int)):=s2;have d7:wr.drew.cell? ⟨g,j*2,none⟩=some (.int .u64 (lo sj:Int)):=s3;have d8:wr.drew.cell? ⟨g,j*2+1,none⟩=some (.int .u64 (hi sj:Int)):=s4;go_region_held3 (fun w'=>w'.cell? ⟨w.heap.size,1,none⟩=some (.slice (some ⟨b0,o0,none⟩) l.length c)∧w'.cell? ⟨b0,o0+k*3+2,none⟩=some (.slice (some ⟨b',o',none⟩) x.ins.length c')∧w'.cell? ⟨b',o'+a,none⟩=some (.int .i64 (i:Int))∧w'.cell? ⟨b',o'+b,none⟩=some (.int .i64 (j:Int))∧w'.cell? ⟨g,i*2,none⟩=some (.int .u64 (lo si:Int))∧w'.cell? ⟨g,i*2+1,none⟩=some (.int .u64 (hi si:Int))∧w'.cell? ⟨g,j*2,none⟩=some (.int .u64 (lo sj:Int))∧w'.cell? ⟨g,j*2+1,none⟩=some (.int .u64 (hi sj:Int)))
          (first | exact ⟨d1,d2,d3,d4,d5,d6,d7,d8⟩ | go_keep) (fail)
         all_goals
          try go_wp2
          go_meet
          case rel =>
           first
            | (obtain ⟨m1,m2,m3,m4⟩:=gD wr si sj 138
               exact ⟨_,_,rfl,rfl,m1,m2,m3,m4,qw ((hE.alloc hz6 _).alloc (by simp;omega) _) 1⟩)
            | (obtain ⟨m1,m2,m3,m4⟩:=gD wr sj si 138
               exact ⟨_,_,rfl,rfl,m3,m4,m1,m2,qw ((hE.alloc hz6 _).alloc (by simp;omega) _) 1⟩)
        case rest =>
         obtain ⟨ga,gb,rfl,rfl,m1,m2,m3,m4,hE'⟩:=hcut;have hbw:Below w.heap.size w wc:=HB5.out.trans (hE'.mono (Nat.le_of_lt hz5));have HBW:=za hbw;clear s1 s2 s3 s4 hn1' hn2' hk3 hca hcb hb0 hz6 hbw hE;by_cases hp0:p=0
         ·subst hp0;by_cases hq0:q=0
          ·subst hq0;go_wp2;go_roundw
           case rel =>
            refine ⟨b+1,by omega,by go_num,za (fun b' hb'=>?_),hE'⟩;rcases Nat.lt_or_ge b' b with h | h
            ·exact HR.out b' h
            ·obtain rfl:b'=b:=by omega
             rw [HSI.out,HSJ.out];exact HAS.out.2 ⟨rfl,rfl⟩
           case measure=>simp [intOf];omega
          ·have hq1:¬ (q:Int)=0:=by omega
           have hD:=HDF.out k a b x hlt HX.out H3.out hal hbl (by rw [HSI.out,HSJ.out];exact fun h=>hq0 (HAS.out.1 h).2);subst hD;go_wp2;go_ret;exact ⟨rfl,HBW.out⟩
         ·have hp1:¬ (p:Int)=0:=by omega
          have hD:=HDF.out k a b x hlt HX.out H3.out hal hbl (by rw [HSI.out,HSJ.out];exact fun h=>hp0 (HAS.out.1 h).1);subst hD;go_wp2;go_ret;exact ⟨rfl,HBW.out⟩
       ·obtain rfl:b=a:=by omega
        go_wp2;go_roundw
        case rel =>
         refine ⟨b+1,by omega,by go_num,za (fun h3 a' ha' b' hb'=>?_),hE⟩;rcases Nat.lt_or_ge a' b with h | h
         ·exact HQ.out h3 a' h b' hb'
         ·obtain rfl:a'=b:=by omega
          exact HR.out b' hb'
        case measure=>simp [intOf];omega
     ·have HN3:=za h3;go_wp2_with fail
      go_roundw
      case rel =>
       refine ⟨k+1,by omega,by go_num,za (fun k' hk' hlt' h=>?_),hE⟩;rcases Nat.lt_or_ge k' k with h4 | h4
       ·exact HP.out k' hk' h4 h
       ·obtain rfl:k'=k:=by omega
        rw [HX.out] at h;exact absurd h h3
      case measure=>simp [intOf];omega
    ·obtain rfl:a=x.ins.length:=by omega
     go_wp2_with fail
     go_roundw
     case rel =>
      refine ⟨k+1,by omega,by go_num,za (fun k' hk' hlt' h=>?_),hE⟩;rcases Nat.lt_or_ge k' k with h4 | h4
      ·exact HP.out k' hk' h4 h
      ·obtain rfl:k'=k:=by omega
       rw [HX.out] at h ⊢;exact HQ.out h
     case measure=>simp [intOf];omega
  ·obtain rfl:k=l.length:=by omega
   have hD:=HDT.out (fun k' hk' h3=>HP.out k' hk' hk' h3);subst hD;have hbw:Below w.heap.size w wr:=HB5.out.trans (hE.mono (Nat.le_of_lt hz5));clear hlt hE;go_wp2;go_ret;exact ⟨rfl,hbw⟩
end Go.Proofs.YtoljkoifgnmbgaaGreatDoor
end
end
