import Derived.Test.YtoljkoifgnmbgaaGreatDoorRJ
import Derived.Test.YtoljkoifgnmbgaaGreatDoorRC
import Derived.Test.YtoljkoifgnmbgaaGreatDoorRE
import Derived.Test.YtoljkoifgnmbgaaGreatDoorAo
set_option linter.unusedSimpArgs false
set_option linter.unusedVariables false
set_option maxRecDepth 100000
set_option maxHeartbeats 4000000
section
open Go Go.RowKit Cs
namespace Cs
def yS (x:Nat):List Nat:=if x=0 then [] else [x]
theorem zf9 (x:Nat):(yS x).length≤1:=by unfold yS;split <;> simp
theorem zbL (x:Nat):ev (yS x)=x:=by
 unfold yS;split
 ·rename_i h;rw [h];rfl
 ·simp [ev]
theorem zf8 (x:Nat):zl9 (yS x) x:=⟨zf9 x,zbL x⟩
def zP (X:List Nat):List (List Nat):=X.map yS
theorem zdy (X:List Nat):(zP X).length=X.length:=by unfold zP;rw [List.length_map]
theorem yU (X:List Nat) (i:Nat):(zP X).getD i []=yS (X.getD i 0):=by
 unfold zP;rw [List.getD_eq_getElem?_getD,List.getD_eq_getElem?_getD,List.getElem?_map];rcases Nat.lt_or_ge i X.length with h | h
 ·rw [List.getElem?_eq_getElem h];rfl
 ·rw [List.getElem?_eq_none h];rfl
theorem lwOf_wob {X Y:List Nat} {b:Nat} (hX:∀ i,X.getD i 0≤2^b) (hY:∀ i,Y.getD i 0≤2^b):WOB b (zP X) (zP Y):=fun i=>by
 rw [yU,yU,zbL,zbL];have h1:=zf9 (X.getD i 0);have h2:=zf9 (Y.getD i 0);exact ⟨h1,hX i,by omega,hY i⟩
def WX (X Y:List Nat) (l:Int):Nat:=if 0<l then Y.getD l.toNat 0 else X.getD (-l).toNat 0
def yj (n:Nat):List Pr:=List.replicate (n+1) (2^100,1)
theorem zjA (n k:Nat):(yj n).getD k (0,0)=if k<n+1 then (2^100,1) else (0,0):=by
 unfold yj;rw [List.getD_eq_getElem?_getD,List.getElem?_replicate];split <;> rfl
theorem bd_lp:Lp (2^100,1):=by unfold Lp Lt;decide +kernel
theorem bd_s0:S0 (2^100,1):=by unfold S0;decide +kernel
theorem bd_bits:jy (2^100,1)=102:=by decide +kernel
theorem bdP_in (n:Nat):WtIn n (yj n) (yj n):=by
 have h1:∀ k,Lp ((yj n).getD k (0,0))∧S0 ((yj n).getD k (0,0)):=fun k=>by
  rw [zjA];split
  ·exact ⟨bd_lp,bd_s0⟩
  ·exact ⟨Lp.zero,S0_zero⟩
 have hl:(yj n).length=n+1:=by unfold yj;simp
 exact ⟨hl,hl,fun k=>(h1 k).1,fun k=>(h1 k).1,(h1 0).2,(h1 0).2,fun k=>(h1 k).2.sp,fun k=>(h1 k).2.sp⟩
theorem zkM (n:Nat):∀ m,m≤n→zG (yj n) m=102*m
 | 0,_=>rfl
 | m+1,h=>by
   show zG (yj n) m+jy ((yj n).getD (m+1) (0,0))=_;rw [zkM n m (by omega),zjA,if_pos (by omega),bd_bits];omega
theorem bdP_ok (n:Nat) (hn:n≤20):WtOk n (yj n) (yj n):=(bdP_in n).ok (by rw [zkM n n (zi _)];omega)
theorem zhF (n:Nat) (l:Int):qL n (yj n) (yj n) l=if 1≤l.natAbs∧l.natAbs≤n then (2^100,1) else (0,0):=by
 unfold qL;split
 ·rename_i h;have e:(yj n).getD l.natAbs (0,0)=(2^100,1):=by rw [zjA,if_pos (by omega)]
  rw [e];split <;> rfl
 ·rfl
theorem qp_bd:qp (2^100,1)=((2^100:Nat):Rat):=qp_wh (Nat.le_refl 1)
theorem zcx {a b:Nat} (h:a≤b):((a:Nat):Rat)≤((b:Nat):Rat):=by exact_mod_cast h
theorem zlj {a b c d:Rat} (ha:0≤a) (hc:0≤c) (h1:a≤b) (h2:c≤d):a*c≤b*d :=
 Rat.le_trans (Rat.mul_le_mul_of_nonneg_left h2 ha) (Rat.mul_le_mul_of_nonneg_right h1 (Rat.le_trans hc h2))
theorem zg2 {a b c d:Rat} (h1:a≤b) (h2:c≤d):a+c≤b+d :=
 Rat.le_trans ((Rat.add_le_add_left).2 h2) ((Rat.add_le_add_right).2 h1)
theorem zgA (a:Nat):(0:Rat)≤((a:Nat):Rat):=by exact_mod_cast Nat.zero_le a
theorem RF_bd {X Y:List Nat} {n:Nat} (hX:X.length=n+1) (hY:Y.length=n+1) (x0:X.getD 0 0=0) (y0:Y.getD 0 0=0) (hbX:∀ i,X.getD i 0≤2^100) (hbY:∀ i,Y.getD i 0≤2^100) :
  Rl (RF (zP X) (zP Y)) (RP n (yj n) (yj n)) (fun p q=>((ev p:Nat):Rat)≤qp q):=by
 have out:∀ L:List Nat,L.length=n+1→∀ i,n<i→L.getD i 0=0:=fun L hL i hi=>by
  rw [List.getD_eq_getElem?_getD,List.getElem?_eq_none (by omega)];rfl
 have hlit:∀ l,((ev ((RF (zP X) (zP Y)).lit l):Nat):Rat)≤qp (qL n (yj n) (yj n) l):=fun l=>by
  have e:(RF (zP X) (zP Y)).lit l=if 0<l then yS (Y.getD l.toNat 0) else yS (X.getD (-l).toNat 0):=by
   show (if 0<l then (zP Y).getD l.toNat [] else (zP X).getD (-l).toNat [])=_;rw [yU,yU]
  rw [e,zhF];by_cases h:1≤l.natAbs∧l.natAbs≤n
  ·rw [if_pos h,qp_bd];split
   ·rw [zbL];exact zcx (hbY _)
   ·rw [zbL];exact zcx (hbX _)
  ·rw [if_neg h,zeu];have hz:ev (if 0<l then yS (Y.getD l.toNat 0) else yS (X.getD (-l).toNat 0))=0:=by
    split
    ·rw [zbL];exact out Y hY _ (by omega)
    ·rw [zbL];by_cases hl:l=0
     ·rw [hl];exact x0
     ·exact out X hX _ (by omega)
   rw [hz];exact Rat.le_refl
 exact {
  zero:=by rw [show ev (RF (zP X) (zP Y)).zero=0 from rfl];exact zbg _
  one:=by
   rw [show ev (RF (zP X) (zP Y)).one=1 from rfl];show _≤qp (1,1);rw [qp_one];exact Rat.le_refl
  add:=fun a b c d h1 h2=>by
   show ((ev (trimP (yb a c)):Nat):Rat)≤qp (y5 b d);rw [zbE,ze8,zjW,Rat.natCast_add];exact zg2 h1 h2
  mul:=fun a b c d h1 h2=>by
   show ((ev (trimP (yQ a c)):Nat):Rat)≤qp (jJ b d);rw [zbE,zh3,qp_mul,Rat.natCast_mul];exact zlj (zgA _) (zgA _) h1 h2
  lit:=hlit
  both:=fun v=>by
   show ((ev (trimP (yb ((zP X).getD v.toNat []) ((zP Y).getD v.toNat []))):Nat):Rat)≤qp (y5 (qL n (yj n) (yj n) (-v)) (qL n (yj n) (yj n) v));rw [zbE,ze8,zjW,yU,yU,zbL,zbL,Rat.natCast_add,zhF,zhF,Int.natAbs_neg];by_cases h:1≤v.natAbs∧v.natAbs≤n
   ·rw [if_pos h,qp_bd];exact zg2 (zcx (hbX _)) (zcx (hbY _))
   ·rw [if_neg h,zeu];have z:X.getD v.toNat 0=0∧Y.getD v.toNat 0=0:=by
     by_cases hv:v.toNat=0
     ·rw [hv];exact ⟨x0,y0⟩
     ·exact ⟨out X hX _ (by omega),out Y hY _ (by omega)⟩
    rw [z.1,z.2];exact Rat.le_refl }
theorem zhk (n d k:Nat):qq n d*((qd d*k:Nat):Rat)=((n*k:Nat):Rat):=by
 have e:qq n d*qq (qd d*k) 1=qq (n*(qd d*k)) (qd d*qd 1):=(j6 _ _ _ _).symm;rw [← zg3 (qd d*k),e,← zg3 (n*k),zf4];show n*(qd d*k)*qd 1=n*k*qd (qd d*1);rw [Nat.mul_one,yE (xp d),show qd 1=1 from rfl];simp only [Nat.mul_one];rw [← Nat.mul_assoc,Nat.mul_right_comm]
theorem x6 (p:Pr):qp p≤((p.1:Nat):Rat):=by
 have h:qp p*((qd p.2:Nat):Rat)=((p.1:Nat):Rat):=by
  have:=zhk p.1 p.2 1;rw [Nat.mul_one,Nat.mul_one] at this;exact this
 have h1:(1:Rat)≤((qd p.2:Nat):Rat):=by
  have:=zcx (xp p.2);exact this
 have h2:=Rat.mul_le_mul_of_nonneg_left h1 (zbg p);rw [h,Rat.mul_one] at h2;exact h2
theorem pj (k:Nat) (h:8*k≤BGe):256^k≤BG:=by
 rw [BG_eq,show (256:Nat)=2^8 by decide,← Nat.pow_mul];exact Nat.pow_le_pow_right (by decide) h
theorem n8_bg {x k:Nat} (h:n8 x≤k) (hk:8*k≤BGe):x<BG:=Nat.lt_of_lt_of_le ((jv k x).1 h) (pj k hk)
theorem sp_bg {x:Nat} {q:Pr} (h:((x:Nat):Rat)≤qp q) (hs:Sp q):x<BG:=by
 have h1:((x:Nat):Rat)≤((q.1:Nat):Rat):=Rat.le_trans h (x6 q);have h2:x≤q.1:=by exact_mod_cast h1
 exact Nat.lt_of_le_of_lt h2 (n8_bg hs.1 (by rw [BGe_eq];decide))
theorem RF_WX {X Y:List Nat} {N:Nt} {n:Nat} (hn:N.n=(n:Int)) (hn2:n≤128) (hv:zC N=true):zl9 ((RF (zP X) (zP Y)).sum N) (((RN 0).wit (WX X Y)).sum N):=by
 have hlit:∀ l,zl9 ((RF (zP X) (zP Y)).lit l) (WX X Y l):=fun l=>by
  show zl9 (if 0<l then (zP Y).getD l.toNat [] else (zP X).getD (-l).toNat []) (if 0<l then Y.getD l.toNat 0 else X.getD (-l).toNat 0);rw [yU,yU];split <;> exact zf8 _
 refine Rv.sum (N:=N) ⟨⟨Nat.zero_le _,rfl⟩,⟨zi _,rfl⟩,fun _ _ _ _ h1 h2=>zkl h1 h2,fun _ _ _ _ h1 h2=>numP_mul h1 h2,fun l _=>hlit l,fun v h1 h2=>?_⟩ hv;show zl9 (trimP (yb ((zP X).getD v.toNat []) ((zP Y).getD v.toNat []))) (WX X Y v+WX X Y (-v));have e1:WX X Y v=Y.getD v.toNat 0:=by unfold WX;rw [if_pos (by omega)]
 have e2:WX X Y (-v)=X.getD v.toNat 0:=by unfold WX;rw [if_neg (by omega),Int.neg_neg]
 rw [yU,yU,e1,e2,Nat.add_comm];exact zkl (zf8 _) (zf8 _)
def z0 (L:List Nat):List Nat:=0::L.tail
theorem z0_len {L:List Nat} {n:Nat} (h:L.length=n+1):(z0 L).length=n+1:=by
 unfold z0;rw [List.length_cons,List.length_tail,h];rfl
theorem zeA {L:List Nat} (i:Nat):(z0 L).getD i 0=if i=0 then 0 else L.getD i 0:=by
 unfold z0;cases i with
 | zero=>rfl
 | succ i=>cases L <;> simp
theorem fold_re {α:Type} {R:Rg α} {lit' both':Int→α} {n:Nat} (hb:∀ v:Int,1≤v→v≤(n:Int)→R.both v=both' v) (hl:∀ l:Int,1≤l.natAbs→l.natAbs≤n→R.lit l=lit' l) {N:Nt} (hv:zC N=true) (hn:N.n=(n:Int)) (k:Nat) (hk:k<N.l.length) (acc:List α) (la:acc.length=k) (q:Nat) :
  (N.l[k].ins.take q).foldl (R.in1 (own N.l) acc N.l[k]) (R.start N.l[k])=(N.l[k].ins.take q).foldl ((R.re lit' both').in1 (own N.l) acc N.l[k]) ((R.re lit' both').start N.l[k]):=by
 have hfm:=yT hv k hk;have hos:=fun i h=>zcn hv (k+1) k (Nat.lt_succ_self k) hk i h;have hst:R.start N.l[k]=(R.re lit' both').start N.l[k]:=by
  unfold Rg.start;by_cases h2:N.l[k].kind=2
  ·rw [if_pos h2,if_pos h2];have h3:=zcz (zbl hfm h2).1;exact hl _ (by omega) (by omega)
  ·rw [if_neg h2,if_neg h2];rfl
 have hin:∀ s j,R.in1 (own N.l) acc N.l[k] s j=(R.re lit' both').in1 (own N.l) acc N.l[k] s j:=fun s j=>by
  unfold Rg.in1;by_cases h3:N.l[k].kind=1∨N.l[k].kind=3
  ·rw [if_pos h3,if_pos h3];rfl
  ·rw [if_neg h3,if_neg h3];show R.add s _=R.add s _;rw [la,ge hb (own N.l) acc ((own N.l).getD k 0) j.toNat fun i h=>by have:=hos i h;omega]
 have e:R.in1 (own N.l) acc N.l[k]=(R.re lit' both').in1 (own N.l) acc N.l[k]:=by funext s j;exact hin s j
 rw [hst,e]
end Cs
namespace Go.Proofs.YtoljkoifgnmbgaaGreatDoor
theorem xU (w:World) (N:Nt) (A Al Ah:Option Addr) (c cl ch n:Nat) (X Y:List Nat) (hn:N.n=(n:Int)) (hn20:n≤20) (hN:NtAt w w.heap.size A N.l) (hc:qz N=0) (hX:X.length=n+1) (hY:Y.length=n+1)
  (hbX:∀ i,X.getD i 0≤2^100) (hbY:∀ i,Y.getD i 0≤2^100) (hL:RPs w w.heap.size Al (zP X)) (hH:RPs w w.heap.size Ah (zP Y)) :
  Calls Tryz.prog 162 #[ql N A c,.slice Al (n+1) cl,.slice Ah (n+1) ch] w (zl6 w ((RF (zP X) (zP Y)).sum N)):=by
 have hv:=zfk hc;obtain ⟨hd,hs⟩:=zfZ hv hc;have hrl:=RF_bd (X:=z0 X) (Y:=z0 Y) (z0_len hX) (z0_len hY) (zeA 0) (zeA 0) (fun i=>by rw [zeA];split;exact Nat.zero_le _;exact hbX i) (fun i=>by rw [zeA];split;exact Nat.zero_le _;exact hbY i);have hre:(RF (zP X) (zP Y)).re (RF (zP (z0 X)) (zP (z0 Y))).lit (RF (zP (z0 X)) (zP (z0 Y))).both=RF (zP (z0 X)) (zP (z0 Y)):=rfl;have hb:∀ v:Int,1≤v→v≤(n:Int)→(RF (zP X) (zP Y)).both v=(RF (zP (z0 X)) (zP (z0 Y))).both v:=fun v h1 h2=>by
  show trimP (yb ((zP X).getD v.toNat []) ((zP Y).getD v.toNat []))=trimP (yb ((zP (z0 X)).getD v.toNat []) ((zP (z0 Y)).getD v.toNat []));rw [yU,yU,yU,yU,zeA,zeA,if_neg (by omega),if_neg (by omega)]
 have hl:∀ l:Int,1≤l.natAbs→l.natAbs≤n→(RF (zP X) (zP Y)).lit l=(RF (zP (z0 X)) (zP (z0 Y))).lit l:=fun l h1 h2=>by
  show (if 0<l then (zP Y).getD l.toNat [] else (zP X).getD (-l).toNat [])=(if 0<l then (zP (z0 Y)).getD l.toNat [] else (zP (z0 X)).getD (-l).toNat []);rw [yU,yU,yU,yU,zeA,zeA];split
  ·rw [if_neg (by omega)]
  ·rw [if_neg (by omega)]
 refine rsum_gen w N A Al Ah c cl ch n (zP X) (zP Y) hn hN hv hd 100 (by omega) (lwOf_wob hbX hbY) (fun k hk j=>?_) (fun k hk q=>?_) (by rw [zdy];exact hX) (by rw [zdy];exact hY) hL hH
 ·rw [zhd hb hl hv hn k hk,hre];exact sp_bg ((hrl.all (own N.l) (N.l.take k)).2 j) (p_at (bdP_ok n hn20) hv hd hs hn k hk j)
 ·rw [zhd hb hl hv hn k (Nat.le_of_lt hk),hre,fold_re hb hl hv hn k hk _ (q7 _ _ _ (Nat.le_of_lt hk)),hre];exact sp_bg (hrl.fold (hrl.all (own N.l) (N.l.take k)) (own N.l) N.l[k] (N.l[k].ins.take q) _ _ (hrl.start N.l[k])) (p_part (bdP_ok n hn20) hv hd hs hn k hk q)
end Go.Proofs.YtoljkoifgnmbgaaGreatDoor
end
section
open Go Go.RowKit Cs
namespace Go.Proofs.YtoljkoifgnmbgaaGreatDoor
theorem oneDec (W:World) (x g:Nat) (hg:W.heap.size=g):RdS (W.alloc (.cells #[.string (zj x)] 9)) (g+1) (some ⟨g,0,none⟩) [x]:=by
 subst hg;exact ⟨fun _=>⟨_,0,rfl,by omega,fun i hi=>by
  have hi0:i=0:=by simp at hi;omega
  subst hi0;exact qR 0 (.string (zj x)) rfl⟩,fun _ b o e=>by
   injection e with e;injection e with e1 e2;subst e1;exact ⟨_,_,Array.getElem?_push_size⟩⟩
theorem zif (w:World) (x:Nat):Calls Tryz.prog 161 #[.string (zj x)] w (zl6 w (yS x)):=by
 rcases Nat.eq_zero_or_pos x with h0 | h0
 ·have hb:((zj x).toList==[48])=true:=by rw [beq_iff_eq];exact (zdH x).2 h0
  have hp:yS x=[]:=by unfold yS;rw [if_pos h0]
  rw [hp];clear hp h0;go_enter Tryz.func161, Tryz.ntmps161;go_wp2_with fail
  go_ret;exact ⟨none,0,rfl,zi _,RdS.nil _ _ _,zA _ _⟩
 ·have hb:((zj x).toList==[48])=false:=beq_eq_false_iff_ne.2 fun e=>by have:=(zdH x).1 e;omega
  have hp:yS x=[x]:=by unfold yS;rw [if_neg (by omega)]
  rw [hp];have hr:=oneDec w x w.heap.size rfl;clear hp h0;go_enter Tryz.func161, Tryz.ntmps161;go_wp2_with fail
  go_ret;exact ⟨some ⟨w.heap.size,0,none⟩,1,rfl,zi _,by simpa using hr,(zA _ _).alloc (zi _) _⟩
def apartB (a b:Value):Prop:=a.ownBlock=none∨b.ownBlock=none∨a.ownBlock≠b.ownBlock
theorem apartB.symm {a b:Value} (h:apartB a b):apartB b a:=by
 rcases h with h | h | h
 ·exact .inr (.inl h)
 ·exact .inl h
 ·exact .inr (.inr (Ne.symm h))
theorem apartB.next {a b v':Value} {W:World} (h:apartB a b) (hwh:v'.ownBlock=a.ownBlock∨v'.ownBlock=some W.heap.size) (hb:∀ g,b.ownBlock=some g→g<W.heap.size):apartB v' b:=by
 rcases hwh with e | e
 ·unfold apartB;rw [e];exact h
 ·cases hbo:b.ownBlock with
  | none=>exact .inr (.inl hbo)
  | some g =>
    refine .inr (.inr ?_);rw [e,hbo];intro h2;injection h2 with h2;have:=hb g hbo;omega
theorem apartB.ne {a b:Value} (h:apartB a b):b.ownBlock=none∨b.ownBlock≠a.ownBlock:=by
 rcases h with h | h | h
 ·cases hb:b.ownBlock with
  | none=>exact .inl rfl
  | some g=>exact .inr (by rw [h];simp)
 ·exact .inl h
 ·exact .inr (Ne.symm h)
theorem SR.keep {w5 wr w':World} {a b:Value} {k k':Nat} {U U':List Value} {L L':List (List Nat)} (ha:SR w5 a k U L wr) (hb:SR w5 b k' U' L' wr) (hg:wr.grownBy w' a.ownBlock) (hne:apartB a b):SR w5 b k' U' L' w':=by
 have hty:∀ g,a.ownBlock=some g→∃ cs T fr,wr.heap[g]?=some (.cells cs T fr)∧T≠9:=fun g hg'=>by
  rcases ha.own.2 with ⟨rfl,_⟩ | ⟨g',cap,cur,rfl,_,hgb,_⟩
  ·cases hg'
  ·have e2:g'=g:=by injection hg'
   subst e2;exact ⟨_,_,_,hgb,by decide⟩
 exact ⟨hb.own.kept hg hne.ne,hb.pls.grown hg hty,hb.bl.grown hg hb.bl.size (fun g e=>(ha.own.lt g e).1)⟩
theorem zhW (X:List Nat) (k:Nat) (h:k<X.length):(zP X).take (k+1)=(zP X).take k++[yS (X.getD k 0)]:=by
 rw [List.take_succ_eq_append_getElem (by rw [zdy];exact h)];congr 2;have:=yU X k;rw [List.getD_eq_getElem?_getD,List.getElem?_eq_getElem (by rw [zdy];exact h)] at this;exact this
theorem zg0 (w:World) (N:Nt) (A Al Ah:Option Addr) (c cl ch n:Nat) (X Y:List Nat) (hn:N.n=(n:Int)) (hn20:n≤20) (hN:NtAt w w.heap.size A N.l) (hc:qz N=0) (hX:X.length=n+1) (hY:Y.length=n+1)
  (hbX:∀ i,X.getD i 0≤2^100) (hbY:∀ i,Y.getD i 0≤2^100) (hL:Rd w w.heap.size Al (n+1) (zS X)) (hH:Rd w w.heap.size Ah (n+1) (zS Y)) :
  Calls Tryz.prog 142 #[ql N A c,.slice Al (n+1) cl,.slice Ah (n+1) ch] w fun e w'=>e = .returned (.string (zj (((RN 0).wit (WX X Y)).sum N)))∧Below w.heap.size w w':=by
 obtain ⟨ti,hti,ht0,ht1,ht2⟩:=info_parts zbV;have hnum:=RF_WX (X:=X) (Y:=Y) hn (by omega) (zfk hc);have hsm:=fun W Bl Bh dl dh hN hL hH=>xU W N A Bl Bh c dl dh n X Y hn hn20 hN hc hX hY hbX hbY hL hH;generalize (RF (zP X) (zP Y)).sum N=p at hsm hnum;obtain ⟨V,hV⟩:∃ V,((RN 0).wit (WX X Y)).sum N=V:=⟨_,rfl⟩;rw [hV] at hnum ⊢;clear hV;have HSM:=za hsm;have HNUM:=za hnum;have htX:=fun k h=>zhW X k h;have htY:=fun k h=>zhW Y k h;have hlX:(zP X).take (n+1)=zP X:=List.take_of_length_le (by rw [zdy];omega);have hlY:(zP Y).take (n+1)=zP Y:=List.take_of_length_le (by rw [zdy];omega);have HTX:=za htX;have HTY:=za htY;have HLX:=za hlX;have HLY:=za hlY;have HXl:=za hX;have HYl:=za hY;clear hsm hnum htX htY hlX hlY hX hY hbX hbY hc;obtain ⟨Nn,l⟩:=N;simp only at hn;subst hn;obtain ⟨ba,oa,rfl,hba,hca⟩:=hL (by omega);obtain ⟨bh,oh,rfl,hbh,hch⟩:=hH (by omega);have q0:=(Bag.zero w).new #[.int .i64 (n:Int),.slice A l.length c] 24 w.heap.size 2 rfl rfl;have HNT:=za (fun W (hb:Below w.heap.size w W)=>(hN.below hb).more hb.size);have HCA:=za hca;have HCH:=za hch;clear hca hch hL hH hN;go_enter Tryz.func142, Tryz.ntmps142;go_wp2_with fail
 obtain ⟨W1,hW1⟩:∃ W,w.alloc (.cells #[.int .i64 (n:Int),.slice A l.length c] 24)=W:=⟨_,rfl⟩;rw [hW1] at q0 ⊢;clear hW1;go_loopw [7,8,9] (fun a b t wr=>∃ (k:Nat) (Ua Ub:List Value),k≤n+1∧t = .int .i64 (k:Int)∧SR W1 a k Ua ((zP X).take k) wr∧SR W1 b k Ub ((zP Y).take k) wr∧apartB a b) (fun _ _ t _=>n+1-(intOf t).toNat)
 case atStart=>exact ⟨0,[],[],Nat.zero_le _,rfl,⟨World.ownsRow_nil _ _ _ _,RPls.nil _,zA _ _⟩,⟨World.ownsRow_nil _ _ _ _,RPls.nil _,zA _ _⟩,.inl rfl⟩
 case round =>
  obtain ⟨k,Ua,Ub,hk,rfl,hEa,hEb,hap⟩:=hrel;have q1:=q0.below hEa.bl;have m1:=q1.is0 0 (by decide) (.int .i64 (n:Int)) rfl;have m2:=q1.is0 1 (by decide) (.slice A l.length c) rfl;have hz:=hEa.bl.size;by_cases hlt:k<n+1
  ·have d1:decide ((k:Int)≤(n:Int))=true:=decide_eq_true (by omega);have c1:=(q1.bl.cell (p:=⟨ba,oa+k,none⟩) hba).trans (HCA.out k hlt);unfold zS at c1;have htX:=HTX.out k (by have:=HXl.out;omega);have htY:=HTY.out k (by have:=HYl.out;omega);have hcy:=HCH.out k hlt;unfold zS at hcy;obtain ⟨x,hx⟩:∃ x,X.getD k 0=x:=⟨_,rfl⟩;obtain ⟨y,hy⟩:∃ y,Y.getD k 0=y:=⟨_,rfl⟩;rw [hx] at c1 htX;rw [hy] at hcy htY;obtain ⟨px,hpx⟩:∃ p,yS x=p:=⟨_,rfl⟩;obtain ⟨py,hpy⟩:∃ p,yS y=p:=⟨_,rfl⟩;have hrx:=fun W=>zif W x;have hry:=fun W=>zif W y;rw [hpx] at htX hrx;rw [hpy] at htY hry;have HRX:=za hrx;have HRY:=za hry;have HTX1:=za htX;have HTY1:=za htY;have HCY:=za hcy;clear hx hy hpx hpy hrx hry htX htY hcy;have i0:(0:Int)≤(k:Int):=by omega
   have i1:(k:Int)<(n:Int)+1:=by omega
   have HAP:=za hap;have HEA:=za hEa;have HEB:=za hEb;have HBH:=za hbh;clear hEa hEb hap;go_wp2_with fail
   refine (HRX.out _).mono ?_;rintro e w2 ⟨A2,c2,rfl,hc2,hr2,hb2⟩;have q2:=q1.below hb2;have hEa3:=(HEA.out.below hb2).alloc (.cells #[.slice A2 px.length c2] 204);have hEb3:=(HEB.out.below hb2).alloc (.cells #[.slice A2 px.length c2] 204);have hr3:=(hr2.below ((zA _ _).alloc (zi _) (.cells #[.slice A2 px.length c2] 204))).more (B':=(w2.alloc (.cells #[.slice A2 px.length c2] 204)).heap.size) (by simp);have hz3:=hEa3.bl.size;have hownA:=hEa3.own;have HEA3:=za hEa3;have HEB3:=za hEb3;have HR3:=za hr3;clear m1 m2 c1 hb2 hr2 hr3 hEa3 hEb3;go_wp2_with (
    at_builtin
    refine zbY _ rfl _ _ 203 rfl W1.heap.size 204 ti (.slice none 0 0) 1 24 Tryz.underlying203 hti ht0 ht1 ht2 rfl (by decide) _ _ _ rfl hownA ⟨w2.heap.size,0,none⟩ 1 1 [.slice A2 px.length c2] rfl rfl qR zca (by unfold maxLen;omega) (by omega) hz3 ?_;intro v4 w4 hown4 hgr4 hwh4;have hEa4:=HEA3.out.next hc2 HR3.out hown4 hgr4;have hEb4:=SR.keep HEA3.out HEB3.out hgr4 HAP.out;have hap4:=HAP.out.next hwh4 (fun g hg=>(HEB3.out.own.lt g hg).2);have q4:=q0.below hEa4.bl;have c2':=(q4.bl.cell (p:=⟨bh,oh+k,none⟩) HBH.out).trans HCY.out;have HEA4:=za hEa4;have HEB4:=za hEb4;have HAP4:=za hap4;clear hownA hown4 hgr4 hwh4 hEa4 hEb4 hap4)
   refine (HRY.out _).mono ?_;rintro e w5 ⟨A5,c5,rfl,hc5,hr5,hb5⟩;have hEa6:=(HEA4.out.below hb5).alloc (.cells #[.slice A5 py.length c5] 204);have hEb6:=(HEB4.out.below hb5).alloc (.cells #[.slice A5 py.length c5] 204);have hr6:=(hr5.below ((zA _ _).alloc (zi _) (.cells #[.slice A5 py.length c5] 204))).more (B':=(w5.alloc (.cells #[.slice A5 py.length c5] 204)).heap.size) (by simp);have hz6:=hEb6.bl.size;have hownB:=hEb6.own;have HEA6:=za hEa6;have HEB6:=za hEb6;have HR6:=za hr6;clear q4 c2' hb5 hr5 hr6 hEa6 hEb6;go_wp2_with (
    at_builtin
    refine zbY _ rfl _ _ 203 rfl W1.heap.size 204 ti (.slice none 0 0) 1 24 Tryz.underlying203 hti ht0 ht1 ht2 rfl (by decide) _ _ _ rfl hownB ⟨w5.heap.size,0,none⟩ 1 1 [.slice A5 py.length c5] rfl rfl qR zca (by unfold maxLen;omega) (by omega) hz6 ?_;intro v7 w7 hown7 hgr7 hwh7;have hEb7:=HEB6.out.next hc5 HR6.out hown7 hgr7;have hEa7:=SR.keep HEB6.out HEA6.out hgr7 HAP4.out.symm;have hap7:=HAP4.out.symm.next hwh7 (fun g hg=>(HEA6.out.own.lt g hg).2);have HEA7:=za hEa7;have HEB7:=za hEb7;have HAP7:=za hap7;clear hownB hown7 hgr7 hwh7 hEa7 hEb7 hap7)
   exact ⟨⟨k+1,_,_,by omega,by go_num,by rw [HTX1.out];exact HEA7.out,by rw [HTY1.out];exact HEB7.out,HAP7.out.symm⟩,by simp [intOf];omega⟩
  ·obtain rfl:k=n+1:=by omega
   have d1:decide (((n+1:Nat):Int)≤(n:Int))=false:=decide_eq_false (by omega);have d2:decide ((n:Int)+1≤(n:Int))=false:=decide_eq_false (by omega);rw [HLX.out] at hEa;rw [HLY.out] at hEb;obtain ⟨ga,ca,rfl,hga1,hga2,hra⟩:=hEa.rps (by omega);obtain ⟨gb,cb,rfl,hgb1,hgb2,hrb⟩:=hEb.rps (by omega);have HRA:=za hra;have HRB:=za hrb;clear hEa hEb hap hra hrb;go_wp2_with fail
   refine (HSM.out _ _ _ ca cb (HNT.out _ q1.bl) HRA.out HRB.out).mono ?_;rintro e w8 ⟨A8,c8,rfl,hc8,hr8,hb8⟩;have q8:=q1.below hb8;have hV:=numP_get HNUM.out;rcases Nat.eq_zero_or_pos p.length with h0 | h0
   ·have hV0:V=0:=by
     rw [← hV,List.getD_eq_getElem?_getD,List.getElem?_eq_none (by omega)];rfl
    have hz0:zj V=⟨#[48]⟩:=by rw [hV0];exact jP
    have HZ:=za hz0;have b9:((p.length:Int)==0)=true:=beq_iff_eq.2 (by omega);clear hV hV0 hz0 hr8 HNUM h0;go_wp2_with fail
    refine bodyPost_ret (v:=.string ⟨#[48]⟩) ?_ rfl ⟨by rw [HZ.out],q8.bl⟩;rw [results_tmp (t:=6) rfl];rfl
   ·obtain ⟨bp,op,rfl,hbp,hcp⟩:=hr8.rd h0;have c9:=hcp 0 h0;unfold zS at c9;rw [hV] at c9;simp only [Nat.add_zero] at c9;have b9:((p.length:Int)==0)=false:=beq_eq_false_iff_ne.2 (by omega);have j1:(0:Int)<(p.length:Int):=by omega
    clear hV hcp hr8 HNUM;go_wp2_with fail
    go_ret;exact ⟨rfl,q8.bl⟩
end Go.Proofs.YtoljkoifgnmbgaaGreatDoor
end
