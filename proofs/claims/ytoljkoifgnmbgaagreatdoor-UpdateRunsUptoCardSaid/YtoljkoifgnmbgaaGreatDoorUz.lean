import Derived.Test.YtoljkoifgnmbgaaGreatDoorUx
import Derived.Test.YtoljkoifgnmbgaaGreatDoorRV
import Derived.Test.YtoljkoifgnmbgaaGreatDoorVl
import Derived.Test.YtoljkoifgnmbgaaGreatDoorRJ
import Derived.Test.YtoljkoifgnmbgaaGreatDoorAo
set_option linter.unusedSimpArgs false
set_option linter.unusedVariables false
section
set_option maxRecDepth 100000
set_option maxHeartbeats 4000000
open Go Go.RowKit Cs
namespace Go.Proofs.YtoljkoifgnmbgaaGreatDoor
def ym (n:Nat):List Nat:=List.replicate (n+1) 1
theorem oneN_get {n i:Nat} (h:i<n+1):zS (ym n) i = .string ⟨#[49]⟩:=by
 unfold zS ym;rw [List.getD_eq_getElem?_getD,List.getElem?_replicate,if_pos h,← dec_one];rfl
theorem zik (w:World) (g:Nat) (N:Nt) (A:Option Addr) (c n V:Nat) (x2 x3 tv:Value) (T:List Int) (u:Int) (h:RsAt w g N A c x2 x3 tv T u) (hn:N.n=(n:Int)) (hn128:n≤128) (hT:∀ l∈T,1≤l.natAbs∧l.natAbs≤n) (hTl:T.length≤1000000)
  (hsm:∀ W Bl Bh dl dh,Below w.heap.size w W→Rd W W.heap.size Bl (n+1) (zS (zL T (ym n)))→Rd W W.heap.size Bh (n+1) (zS (zH T (ym n)))→Calls Tryz.prog 142 #[ql N A c,.slice Bl (n+1) dl,.slice Bh (n+1) dh] W fun e w'=>e = .returned (.string (zj V))∧Below W.heap.size W w') :
  Calls Tryz.prog 55 #[.pointer (some ⟨g,0,none⟩)] w fun e w'=>e = .returned (.string (zj V))∧Below w.heap.size w w':=by
 obtain ⟨i0,hi0,hz0,hz1,hz2⟩:=info_parts zd1;have hsu:=fun W (hb:Below w.heap.size w W) Al Ah cl ch h1 h2=>zgz W g N A Al Ah c cl ch n V x2 x3 tv T u (ym n) (ym n) (h.below hb) hn128 hT hTl h1 h2 (fun W2 Bl Bh dl dh hb2=>hsm W2 Bl Bh dl dh (zu hb hb2 hb.size));have hlt:=h.row.lt;have m0:w.cell? ⟨g,0,none⟩=some (.int .i64 (n:Int)):=by rw [← hn];exact h.row.cell (i:=0) (by decide)
 have hnx:=fun (k:Nat) (hk:k<n+1)=>(show (List.range (k+1)).map (zS (ym n))=(List.range k).map (zS (ym n))++[.string ⟨#[49]⟩] by rw [List.range_succ,List.map_append,List.map_singleton,oneN_get hk]);have hk2:n+1≤maxLen:=Nat.le_trans (Nat.succ_le_succ hn128) (by decide);have HSU:=za hsu;have HNX:=za hnx;clear hsu hnx hsm h hT hn;go_enter Tryz.func55, Tryz.ntmps55;go_wp2_with fail
 go_loopw [3,4] (fun v t wr=>∃ k:Nat,k≤n+1∧t = .int .i64 (k:Int)∧wr.ownsRow w.heap.size 9 1 v k ((List.range k).map (zS (ym n)))∧Below w.heap.size w wr) (fun _ t _=>n+1-(intOf t).toNat)
 case atStart=>exact ⟨0,Nat.zero_le _,rfl,World.ownsRow_nil _ _ _ _,zA _ _⟩
 case round =>
  obtain ⟨k,hk,rfl,hown,hb⟩:=hrel;have m1:=zy hb m0 hlt;by_cases hlt2:k<n+1
  ·have d1:(k:Int)≤(n:Int):=by omega
   have own5:=hown.alloc (.cells #[.string ⟨#[49]⟩] 9);have hb5:=hb.alloc hb.size (.cells #[.string ⟨#[49]⟩] 9);have hs:=hb.size;have hnew:∀ (j:Nat) (u:Value),([Value.string ⟨#[49]⟩]:List Value)[j]?=some u→(wr.alloc (.cells #[.string ⟨#[49]⟩] 9)).cell? ((⟨wr.heap.size,0,none⟩:Addr).add j)=some u:=fun j u h=>qR j u h;have hone:∀ u∈([Value.string ⟨#[49]⟩]:List Value),u.oneCell'=true:=fun u h=>by
    obtain rfl:=List.mem_singleton.1 h;rfl
   have hk63:k+1≤maxLen:=by omega
   have hk16:(k+1)*16≤140737488355328:=by omega
   have hbs:w.heap.size≤(wr.alloc (.cells #[.string ⟨#[49]⟩] 9)).heap.size:=by simp;omega
   go_wp2_with (
    at_builtin
    refine wpList_append_own _ rfl _ _ 27 rfl w.heap.size 9 i0 (.string ⟨#[]⟩) 1 16 Tryz.underlying27 hi0 hz0 hz1 hz2 rfl (by decide) _ _ _ rfl own5 ⟨wr.heap.size,0,none⟩ 1 1 [.string ⟨#[49]⟩] rfl rfl hnew hone hk63 hk16 hbs ?_;intro v5 w5 hown5 hgr5 _;have hb6:Below w.heap.size w w5:=hb5.grown hgr5 hbs (fun k e=>(hown.lt k e).1);rw [← HNX.out k hlt2] at hown5;have HO5:=za hown5;have HB6:=za hb6;clear hown5 hb6 hgr5 own5 hb5 hnew hone hk63 hk16 hbs hown hb)
   go_roundw
   case rel=>exact ⟨k+1,by omega,by go_num,HO5.out,HB6.out⟩
   case measure=>simp [intOf];omega
  ·obtain rfl:k=n+1:=by omega
   have d1:¬ ((n+1:Nat):Int)≤(n:Int):=by omega
   obtain ⟨g1,c1,rfl,hg1,hs3⟩:=zfE hown;have hcl:=HSU.out wr hb _ _ c1 c1 hs3.rd hs3.rd;have HCL:=za hcl;have HB:=za hb;clear hcl hs3 hown;go_wp2_with (go_at_call 99;(with_reducible refine HCL.out.mono ?_);rintro e w9 ⟨rfl,hb9⟩)
   all_goals
    go_ret;exact ⟨rfl,zu HB.out hb9 HB.out.size⟩
end Go.Proofs.YtoljkoifgnmbgaaGreatDoor
end
section
open Go Go.RowKit Cs
namespace Go.Proofs.YtoljkoifgnmbgaaGreatDoor
theorem zho (n i:Nat):(ym n).getD i 0=if i<n+1 then 1 else 0:=by
 unfold ym;rw [List.getD_eq_getElem?_getD,List.getElem?_replicate];split <;> rfl
theorem zjn {n:Nat} {T:List Int} {l:Int} (h1:1≤l.natAbs) (h2:l.natAbs≤n):qZ n (qC n T) (qE n T) l=WX (zL T (ym n)) (zH T (ym n)) l:=by
 have h3:l.natAbs<n+1:=by omega
 unfold qZ WX;rw [if_pos ⟨h1,h2⟩,zhB,zhC,if_pos h3,if_pos h3,zdK,zdL,zho,zho];by_cases hl:l<0
 ·have hp:¬ 0<l:=by omega
  rw [if_pos hl,if_neg hp,show (-l).toNat=l.natAbs by omega,if_pos h3]
 ·have hp:0<l:=by omega
  rw [if_neg hl,if_pos hp,show l.toNat=l.natAbs by omega,if_pos h3]
theorem refC_ses {N:Nt} {n:Nat} {T:List Int} (hv:zC N=true) (hn:N.n=(n:Int)):yq N n T=((RN 0).wit (WX (zL T (ym n)) (zH T (ym n)))).sum N:=by
 refine (sum_re (R:=RL n (qC n T) (qE n T)) (lit':=WX (zL T (ym n)) (zH T (ym n))) (both':=fun v=>WX (zL T (ym n)) (zH T (ym n)) v+WX (zL T (ym n)) (zH T (ym n)) (-v)) (fun v h1 h2=>?_) (fun l h1 h2=>zjn h1 h2) hv hn).trans rfl;show qZ n _ _ (-v)+qZ n _ _ v=_;rw [zjn (by omega) (by omega),zjn (by omega) (by omega),Nat.add_comm]
theorem zL_len (T:List Int) (X:List Nat):(zL T X).length=X.length:=by unfold zL;rw [List.length_map,List.length_range]
theorem zH_len (T:List Int) (X:List Nat):(zH T X).length=X.length:=by unfold zH;rw [List.length_map,List.length_range]
theorem zlh (w:World) (g:Nat) (N:Nt) (A:Option Addr) (c n:Nat) (x2 x3 tv:Value) (T:List Int) (u:Int) (h:RsAt w g N A c x2 x3 tv T u) (hN:NtAt w w.heap.size A N.l) (hk:qz N=0) (hn:N.n=(n:Int)) (hn20:n≤20) (hT:∀ l∈T,1≤l.natAbs∧l.natAbs≤n) (hTl:T.length≤1000000) :
  Calls Tryz.prog 55 #[.pointer (some ⟨g,0,none⟩)] w fun e w'=>e = .returned (.string (zj (yq N n T)))∧Below w.heap.size w w':=by
 have ho:(ym n).length=n+1:=List.length_replicate;have hb:∀ i,(ym n).getD i 0≤2^100:=fun i=>by
  rw [zho];split
  ·exact Nat.one_le_two_pow
  ·exact Nat.zero_le _
 refine zik w g N A c n (yq N n T) x2 x3 tv T u h hn (by omega) hT hTl fun W Bl Bh dl dh hbw h1 h2=>?_;rw [refC_ses (zfk hk) hn];exact zg0 W N A Bl Bh c dl dh n _ _ hn hn20 ((hN.below hbw).more hbw.size) hk (by rw [zL_len,ho]) (by rw [zH_len,ho])
  (fun i=>by rw [zdK];split;exact Nat.zero_le _;exact hb i) (fun i=>by rw [zdL];split;exact Nat.zero_le _;exact hb i) h1 h2
end Go.Proofs.YtoljkoifgnmbgaaGreatDoor
end
section
set_option maxRecDepth 100000
set_option maxHeartbeats 2000000
open Go Go.RowKit Cs
namespace Go.Proofs.YtoljkoifgnmbgaaGreatDoor
def j5 (a b:Nat):ByteArray:=if b / Nat.gcd a b=1 then zj (a / Nat.gcd a b) else zj (a / Nat.gcd a b)++⟨#[47]⟩++zj (b / Nat.gcd a b)
theorem oR (x:Nat):((zj x).toList=[49])↔x=1:=by
 constructor
 ·intro h;apply zfS;rw [Go.Proofs.YtoljkoifgnmbgaaGreatDoor.dec_one];apply ByteArray.ext;apply Array.ext';have e:(zj x).toList=(zj x).data.toList:=ByteArray.toList_eq _;rw [← e,h]
 ·intro h;subst h;rw [Go.Proofs.YtoljkoifgnmbgaaGreatDoor.dec_one,ByteArray.toList_eq]
theorem zle (w:World) (a b:Nat) (ha:zB a≤1000000) (hb:zB b≤1000000) (hb0:0<b) :
  Calls Tryz.prog 104 #[.string (zj a),.string (zj b)] w fun e w'=>e = .returned (.string (j5 a b))∧Below w.heap.size w w':=by
 have hg0:0<Nat.gcd a b:=Nat.gcd_pos_of_pos_right a hb0;have hgN:zB (Nat.gcd a b)≤1000000:=Nat.le_trans (yz (Nat.le_of_dvd hb0 (Nat.gcd_dvd_right a b))) hb;have hgc:=fun W=>zhg W a b ha hb;have hd1:=fun W=>zdT W a (Nat.gcd a b) ha hgN hg0;have hd2:=fun W=>zdT W b (Nat.gcd a b) hb hgN hg0;have hr:j5 a b=if b / Nat.gcd a b=1 then zj (a / Nat.gcd a b) else zj (a / Nat.gcd a b)++⟨#[47]⟩++zj (b / Nat.gcd a b):=rfl
 obtain ⟨R,hR⟩:∃ R,j5 a b=R:=⟨_,rfl⟩;rw [hR] at hr ⊢;obtain ⟨G,hG⟩:∃ G,Nat.gcd a b=G:=⟨_,rfl⟩;rw [hG] at hr;simp only [hG] at hgc hd1 hd2;have z1:(zj (a / G)).size≤1000000:=by rw [qO];exact Nat.le_trans (yz (Nat.div_le_self _ _)) ha
 have z2:(zj (b / G)).size≤1000000:=by rw [qO];exact Nat.le_trans (yz (Nat.div_le_self _ _)) hb
 obtain ⟨x,hx⟩:∃ x,a / G=x:=⟨_,rfl⟩;obtain ⟨y,hy⟩:∃ y,b / G=y:=⟨_,rfl⟩;obtain ⟨p,hp⟩:∃ p,a%G=p:=⟨_,rfl⟩;obtain ⟨q,hq⟩:∃ q,b%G=q:=⟨_,rfl⟩;rw [hx,hy] at hr;rw [hx] at z1;rw [hy] at z2;have l1:¬ 9223372036854775807<(zj x).size+1:=by omega
 have l2:¬ 9223372036854775807<(zj x).size+1+(zj y).size:=by omega
 simp only [hx,hp] at hd1;simp only [hy,hq] at hd2;have HGC:=za hgc;have HD1:=za hd1;have HD2:=za hd2;have HR:=za hr;clear hgc hd1 hd2 hr hR hx hy hp hq hg0 hgN ha hb hb0 hG;by_cases hy1:y=1
 ·have hyb:((zj y).toList==[49])=true:=beq_iff_eq.2 ((oR y).2 hy1);have HY:=za hy1;clear hy1;go_enter Tryz.func104, Tryz.ntmps104;go_wp2_with (first
   | (go_at_call 103;(with_reducible refine (HGC.out _).mono ?_);rintro e w1 ⟨rfl,hb1⟩)
   | (go_at_call 101;(with_reducible refine (HD1.out _).mono ?_);rintro e w2 ⟨rfl,hb2⟩)
   | (go_at_call 101;(with_reducible refine (HD2.out _).mono ?_);rintro e w3 ⟨rfl,hb3⟩))
  all_goals
   go_ret;refine ⟨?_,zu (zu hb1 hb2 hb1.size) hb3 (Nat.le_trans hb1.size hb2.size)⟩;rw [HR.out,if_pos HY.out];rfl
 ·have hyb:((zj y).toList==[49])=false:=beq_eq_false_iff_ne.2 fun e=>hy1 ((oR y).1 e);have HY:=za hy1;clear hy1;go_enter Tryz.func104, Tryz.ntmps104;go_wp2_with (first
   | (go_at_call 103;(with_reducible refine (HGC.out _).mono ?_);rintro e w1 ⟨rfl,hb1⟩)
   | (go_at_call 101;(with_reducible refine (HD1.out _).mono ?_);rintro e w2 ⟨rfl,hb2⟩)
   | (go_at_call 101;(with_reducible refine (HD2.out _).mono ?_);rintro e w3 ⟨rfl,hb3⟩))
  all_goals
   go_ret;refine ⟨?_,zu (zu hb1 hb2 hb1.size) hb3 (Nat.le_trans hb1.size hb2.size)⟩;rw [HR.out,if_neg HY.out];rfl
end Go.Proofs.YtoljkoifgnmbgaaGreatDoor
end
section
open Go Go.RowKit Cs
namespace Go.Proofs.YtoljkoifgnmbgaaGreatDoor
theorem ratT_q (a b:Nat) (hb:0<b):j5 a b=jd (qq a b):=by
 unfold j5 jd;rw [gP,zk1,yE hb]
theorem cast_wit {N:Nt} (W:Int→Nat):(((((RN 0).wit W).sum N:Nat)):Rat)=(RQ.wit fun l=>((W l:Nat):Rat)).sum N:=by
 refine Rl.sum (R:=(RN 0).wit W) (S:=RQ.wit fun l=>((W l:Nat):Rat)) (r:=fun a q=>((a:Nat):Rat)=q) ?_ N;exact {
  zero:=rfl
  one:=rfl
  add:=by rintro a _ c _ rfl rfl;exact Rat.natCast_add _ _
  mul:=by rintro a _ c _ rfl rfl;exact Rat.natCast_mul _ _
  lit:=fun l=>rfl
  both:=fun v=>Rat.natCast_add _ _ }
theorem zg5 (m P:Nat→Nat) (n:Nat) (h0:P 0=1) (hs:∀ k,k<n→P (k+1)=P k*m (k+1)):∀ k,k≤n→zln RQ (fun v=>((m v:Nat):Rat)) k=((P k:Nat):Rat)
 | 0,_=>by rw [h0];rfl
 | k+1,h=>by
   show zln RQ _ k*_=_;rw [zg5 m P n h0 hs k (by omega),hs k (by omega),Rat.natCast_mul]
theorem zjQ {N:Nt} {n:Nat} {lo hi:List Pr} {T:List Int} (ok:WtOk n (qk n lo T) (qm n hi T)) (hv:zC N=true) (hd:qv N=true) (hn:N.n=(n:Int)) (X Y:List Nat) (m P:Nat→Nat)
  (hX:∀ v,1≤v→v≤n→((X.getD v 0:Nat):Rat)=((m v:Nat):Rat)*qp (lo.getD v (0,0))) (hY:∀ v,1≤v→v≤n→((Y.getD v 0:Nat):Rat)=((m v:Nat):Rat)*qp (hi.getD v (0,0)))
  (h0:P 0=1) (hs:∀ k,k<n→P (k+1)=P k*m (k+1)) (hP:0<P n) :
  qp (yw N n lo hi T)=qq (((RN 0).wit (WX (zL T X) (zH T Y))).sum N) (P n):=by
 have h1:=RP_sum ok N;have hsc:=xL CQ hv hd (Wq n (qk n lo T) (qm n hi T)) (fun l=>((WX (zL T X) (zH T Y) l:Nat):Rat)) (fun v=>((m v:Nat):Rat)) n hn (fun v a b=>by
  have ev:((v:Nat):Int).natAbs=v:=by omega
  have hvn:v<n+1:=by omega
  have ev2:(-((v:Nat):Int)).natAbs=v:=by omega
  refine ⟨?_,?_⟩
  ·show ((WX (zL T X) (zH T Y) (v:Int):Nat):Rat)=((m v:Nat):Rat)*qp (qL n _ _ (v:Int));unfold WX qL;have hp:(0:Int)<(v:Int):=by omega
   have hq:¬ (v:Int)<0:=by omega
   rw [if_pos hp,ev,if_pos ⟨a,b⟩,if_neg hq,show ((v:Nat):Int).toNat=v by omega,zdL,zep,if_pos hvn];by_cases ht : -(v:Int)∈T
   ·rw [if_pos ht,if_pos ht,zeu,Rat.mul_zero];rfl
   ·rw [if_neg ht,if_neg ht];exact hY v a b
  ·show ((WX (zL T X) (zH T Y) (-(v:Int)):Nat):Rat)=((m v:Nat):Rat)*qp (qL n _ _ (-(v:Int)));unfold WX qL;have hp:¬ (0:Int) < -(v:Int):=by omega
   have hq : -(v:Int)<0:=by omega
   rw [if_neg hp,ev2,if_pos ⟨a,b⟩,if_pos hq,show (-(-((v:Nat):Int))).toNat=v by omega,zdK,zeo,if_pos hvn];by_cases ht:(v:Int)∈T
   ·rw [if_pos ht,if_pos ht,zeu,Rat.mul_zero];rfl
   ·rw [if_neg ht,if_neg ht];exact hX v a b)
 rw [← cast_wit,zg5 m P n h0 hs n (zi _),← h1] at hsc;obtain ⟨V,hV⟩:∃ V,((RN 0).wit (WX (zL T X) (zH T Y))).sum N=V:=⟨_,rfl⟩;rw [hV] at hsc ⊢;have hw:=zhk V (P n) 1;rw [Nat.mul_one,Nat.mul_one,yE hP,hsc] at hw;have hne:((P n:Nat):Rat)≠0:=by
  intro e;have:P n=0:=by exact_mod_cast e
  omega
 have hw2:qq V (P n)*((P n:Nat):Rat)=qp (yw N n lo hi T)*((P n:Nat):Rat):=by rw [hw];exact Rat.mul_comm _ _
 grind
theorem ptext_lp {p:Pr} (h:Lp p):Go.Proofs.YtoljkoifgnmbgaaGreatDoor.ptext p.1 p.2=jd (qp p):=by
 obtain ⟨h1,h2⟩:=h;unfold qp;rcases h2 with h2 | ⟨e1,e2⟩
 ·rw [← gR,← h1,← h2]
 ·rw [e1,e2];decide +kernel
theorem xT {N:Nt} {n:Nat} {lo hi:List Pr} {T:List Int} (ok:WtOk n (qk n lo T) (qm n hi T)) (hv:zC N=true) (hd:qv N=true) (hn:N.n=(n:Int)) (X Y:List Nat) (m P:Nat→Nat)
  (hX:∀ v,1≤v→v≤n→((X.getD v 0:Nat):Rat)=((m v:Nat):Rat)*qp (lo.getD v (0,0))) (hY:∀ v,1≤v→v≤n→((Y.getD v 0:Nat):Rat)=((m v:Nat):Rat)*qp (hi.getD v (0,0)))
  (h0:P 0=1) (hs:∀ k,k<n→P (k+1)=P k*m (k+1)) (hP:0<P n) :
  j5 (((RN 0).wit (WX (zL T X) (zH T Y))).sum N) (P n)=Go.Proofs.YtoljkoifgnmbgaaGreatDoor.ptext (yw N n lo hi T).1 (yw N n lo hi T).2:=by
 rw [ratT_q _ _ hP,← zjQ ok hv hd hn X Y m P hX hY h0 hs hP,ptext_lp ((zhI ok).sum N).1]
end Go.Proofs.YtoljkoifgnmbgaaGreatDoor
end
section
set_option maxRecDepth 100000
set_option maxHeartbeats 8000000
open Go Go.RowKit Cs
namespace Go.Proofs.YtoljkoifgnmbgaaGreatDoor
structure WgAt (w:World) (X Y:List Nat) (j k:Nat) (a b:Value) (W:World):Prop where
 bl:Below w.heap.size w W
 oa:W.ownsRow w.heap.size 9 1 a (j+1) ((List.range (j+1)).map (zS X))
 ob:W.ownsRow w.heap.size 9 1 b (k+1) ((List.range (k+1)).map (zS Y))
 ne:a.ownBlock≠b.ownBlock
theorem WgAt.below {w W W':World} {X Y:List Nat} {j k:Nat} {a b:Value} (h:WgAt w X Y j k a b W) (hb:Below W.heap.size W W'):WgAt w X Y j k a b W':=⟨zu h.bl hb h.bl.size,yp h.oa hb,yp h.ob hb,h.ne⟩
theorem dcS (X:List Nat) (k x:Nat) (h:X.getD k 0=x):(List.range (k+1)).map (zS X)=(List.range k).map (zS X)++[.string (zj x)]:=by
 rw [List.range_succ,List.map_append,List.map_singleton];unfold zS;rw [h]
theorem WgAt.pushA {w W W5:World} {X Y:List Nat} {j k x:Nat} {a b a':Value} (h:WgAt w X Y j k a b W) (hg:(W.alloc (.cells #[.string (zj x)] 9)).grownBy W5 a.ownBlock)
  (ho:W5.ownsRow w.heap.size 9 1 a' (j+1+1) ((List.range (j+1)).map (zS X)++[.string (zj x)])) (hat:a'.ownBlock=a.ownBlock∨a'.ownBlock=some (W.alloc (.cells #[.string (zj x)] 9)).heap.size) (hX:X.getD (j+1) 0=x):WgAt w X Y (j+1) k a' b W5 :=
 ⟨(h.bl.alloc h.bl.size (.cells #[.string (zj x)] 9)).grown hg (by simp;exact Nat.le_succ_of_le h.bl.size) (fun k e=>(h.oa.lt k e).1),by rw [dcS X (j+1) x hX];exact ho,(h.ob.alloc _).kept hg (Or.inr (fun e=>h.ne e.symm)),by
   rcases hat with e | e
   ·rw [e];exact h.ne
   ·rw [e];intro e2;have:=(h.ob.lt _ e2.symm).2;simp at this;omega⟩
theorem WgAt.pushB {w W W5:World} {X Y:List Nat} {j k y:Nat} {a b b':Value} (h:WgAt w X Y j k a b W) (hg:(W.alloc (.cells #[.string (zj y)] 9)).grownBy W5 b.ownBlock)
  (ho:W5.ownsRow w.heap.size 9 1 b' (k+1+1) ((List.range (k+1)).map (zS Y)++[.string (zj y)])) (hat:b'.ownBlock=b.ownBlock∨b'.ownBlock=some (W.alloc (.cells #[.string (zj y)] 9)).heap.size) (hY:Y.getD (k+1) 0=y):WgAt w X Y j (k+1) a b' W5 :=
 ⟨(h.bl.alloc h.bl.size (.cells #[.string (zj y)] 9)).grown hg (by simp;exact Nat.le_succ_of_le h.bl.size) (fun k e=>(h.ob.lt k e).1),(h.oa.alloc _).kept hg (Or.inr h.ne),by rw [dcS Y (k+1) y hY];exact ho,by
   rcases hat with e | e
   ·rw [e];exact h.ne
   ·rw [e];intro e2;have:=(h.oa.lt _ e2).2;simp at this;omega⟩
theorem gV {s:ByteArray}:∀ u∈([Value.string s]:List Value),u.oneCell'=true:=fun u h=>by
 obtain rfl:=List.mem_singleton.1 h;rfl
def jI (d e:Nat):Nat:=d*e / Nat.gcd d e
structure WgOk (n:Nat) (la lh:List ByteArray) (X Y:List Nat) (D E:Nat→Nat) (P:Nat→Nat):Prop where
 wh:∀ v,1≤v→v≤n→∀ W,Calls Tryz.prog 100 #[.string (la.getD v ⟨#[]⟩),.string (lh.getD v ⟨#[]⟩)] W fun x w'=>x = .returned (.tuple #[.string (zj (X.getD v 0)),.string (zj (Y.getD v 0))])∧Below W.heap.size W w'
 pl:∀ v,1≤v→v≤n→∀ W,Calls Tryz.prog 97 #[.string (la.getD v ⟨#[]⟩)] W fun x w'=>(∃ m,x = .returned (.tuple #[.string m,.string (zj (D v))]))∧Below W.heap.size W w'
 ph:∀ v,1≤v→v≤n→∀ W,Calls Tryz.prog 97 #[.string (lh.getD v ⟨#[]⟩)] W fun x w'=>(∃ m,x = .returned (.tuple #[.string m,.string (zj (E v))]))∧Below W.heap.size W w'
 dd:∀ v,1≤v→v≤n→0<D v∧D v<10^9∧0<E v∧E v<10^9
 p0:P 0=1
 ps:∀ k,k<n→P (k+1)=P k*jI (D (k+1)) (E (k+1))
 pb:∀ k,k≤n→zB (P k)≤1000000
 x0:X.getD 0 0=0
 y0:Y.getD 0 0=0
theorem zhe (w:World) (g:Nat) (N:Nt) (A Al Ah:Option Addr) (c cl ch n V:Nat) (tv:Value) (T:List Int) (u:Int) (la lh:List ByteArray) (X Y:List Nat) (D E P:Nat→Nat)
  (h:RsAt w g N A c (.slice Al (n+1) cl) (.slice Ah (n+1) ch) tv T u) (hn:N.n=(n:Int)) (hn128:n≤128) (hT:∀ l∈T,1≤l.natAbs∧l.natAbs≤n) (hTl:T.length≤1000000)
  (hL:Rd w w.heap.size Al (n+1) (qW la)) (hH:Rd w w.heap.size Ah (n+1) (qW lh)) (ok:WgOk n la lh X Y D E P) (hP:0<P n) (hV:zB V≤1000000)
  (hsm:∀ W Bl Bh dl dh,Below w.heap.size w W→Rd W W.heap.size Bl (n+1) (zS (zL T X))→Rd W W.heap.size Bh (n+1) (zS (zH T Y))→Calls Tryz.prog 142 #[ql N A c,.slice Bl (n+1) dl,.slice Bh (n+1) dh] W fun e w'=>e = .returned (.string (zj V))∧Below W.heap.size W w') :
  Calls Tryz.prog 56 #[.pointer (some ⟨g,0,none⟩)] w fun e w'=>e = .returned (.string (j5 V (P n)))∧Below w.heap.size w w':=by
 obtain ⟨i0,hi0,hz0,hz1,hz2⟩:=info_parts zd1;have hsu:=fun W (hb:Below w.heap.size w W) Bl Bh dl dh h1 h2=>zgz W g N A Bl Bh c dl dh n V _ _ tv T u X Y (h.below hb) hn128 hT hTl h1 h2 (fun W2 Bl Bh dl dh hb2=>hsm W2 Bl Bh dl dh (zu hb hb2 hb.size));have hrt:=fun W=>zle W V (P n) hV (ok.pb n (zi _)) hP;have hlt:=h.row.lt;have m0:w.cell? ⟨g,0,none⟩=some (.int .i64 (n:Int)):=by rw [← hn];exact h.row.cell (i:=0) (by decide)
 have m2:w.cell? ⟨g,2,none⟩=some (.slice Al (n+1) cl):=h.row.cell (i:=2) (by decide);have m3:w.cell? ⟨g,3,none⟩=some (.slice Ah (n+1) ch):=h.row.cell (i:=3) (by decide);obtain ⟨ba,oa,rfl,hba,hca⟩:=hL (by omega);obtain ⟨bh,oh,rfl,hbh,hch⟩:=hH (by omega);have hk2:n+1≤maxLen:=Nat.le_trans (Nat.succ_le_succ hn128) (by decide);have hz:(Value.string ⟨#[48]⟩) = .string (zj 0):=by rw [jP]
 have hX1:(List.range (0+1)).map (zS X)=[.string ⟨#[48]⟩]:=by rw [dcS X 0 0 ok.x0,jP];rfl
 have hY1:(List.range (0+1)).map (zS Y)=[.string ⟨#[48]⟩]:=by rw [dcS Y 0 0 ok.y0,jP];rfl
 have hd1:(Value.string ⟨#[49]⟩) = .string (zj (P 0)):=by rw [ok.p0,dec_one]
 have HSU:=za hsu;have HRT:=za hrt;have HCA:=za hca;have HCH:=za hch;have HOK:=za ok;have HX1:=za hX1;have HY1:=za hY1;have HD1:=za hd1;clear hsu hrt hca hch ok hX1 hY1 hd1 hz hsm h hT hn hL hH hV hP;go_enter Tryz.func56, Tryz.ntmps56;go_wp2_with fail
 have q0:WgAt w X Y 0 0 (.slice (some ⟨w.heap.size,0,none⟩) 1 1) (.slice (some ⟨w.heap.size+1,0,none⟩) 1 1) ((w.alloc (.cells #[.string ⟨#[48]⟩] 9)).alloc (.cells #[.string ⟨#[48]⟩] 9)):=by
  refine ⟨((zA _ _).alloc (zi _) _).alloc (by simp) _,?_,?_,fun (e:some w.heap.size=some (w.heap.size+1))=>by injection e with e;omega⟩
  ·rw [HX1.out];exact (zbO (f:=zE #[.string ⟨#[48]⟩]) (zU w #[.string ⟨#[48]⟩] 9 w.heap.size 1 rfl rfl) (zi _) (by decide)).alloc _
  ·rw [HY1.out];exact zbO (f:=zE #[.string ⟨#[48]⟩]) (zU (w.alloc (.cells #[.string ⟨#[48]⟩] 9)) #[.string ⟨#[48]⟩] 9 (w.heap.size+1) 1 (by simp) rfl) (Nat.le_succ _) (by decide)
 have Q0:=za q0;clear q0;go_loopw [3,4,5,6] (fun a b l t wr=>∃ k:Nat,k≤n∧t = .int .i64 ((k:Int)+1)∧l = .string (zj (P k))∧WgAt w X Y k k a b wr) (fun _ _ _ t _=>n+1-(intOf t).toNat)
 case atStart=>exact ⟨0,Nat.zero_le _,rfl,HD1.out,Q0.out⟩
 case round =>
  clear Q0;obtain ⟨k,hk,rfl,rfl,q⟩:=hrel;have n0:=zy q.bl m0 hlt;by_cases hlt2:k<n
  ·obtain ⟨d1',d2',d3',d4'⟩:=HOK.out.dd (k+1) (by omega) (by omega);have hwh:=HOK.out.wh (k+1) (by omega) (by omega);have hpl:=HOK.out.pl (k+1) (by omega) (by omega);have hph:=HOK.out.ph (k+1) (by omega) (by omega);obtain ⟨sa,hsa⟩:∃ s,la.getD (k+1) ⟨#[]⟩=s:=⟨_,rfl⟩;obtain ⟨sb,hsb⟩:∃ s,lh.getD (k+1) ⟨#[]⟩=s:=⟨_,rfl⟩;obtain ⟨x,hx⟩:∃ x,X.getD (k+1) 0=x:=⟨_,rfl⟩;obtain ⟨y,hy⟩:∃ y,Y.getD (k+1) 0=y:=⟨_,rfl⟩;have hf:∀ W,Below w.heap.size w W→W.cell? ⟨g,2,none⟩=some (.slice (some ⟨ba,oa,none⟩) (n+1) cl)∧W.cell? ⟨g,3,none⟩=some (.slice (some ⟨bh,oh,none⟩) (n+1) ch)∧W.cell? ⟨ba,oa+(k+1),none⟩=some (.string sa)∧W.cell? ⟨bh,oh+(k+1),none⟩=some (.string sb):=fun W hb =>
    ⟨zy hb m2 hlt,zy hb m3 hlt,(hb.cell (p:=⟨ba,oa+(k+1),none⟩) hba).trans ((HCA.out (k+1) (by omega)).trans (by unfold qW;rw [hsa])),(hb.cell (p:=⟨bh,oh+(k+1),none⟩) hbh).trans ((HCH.out (k+1) (by omega)).trans (by unfold qW;rw [hsb]))⟩
   rw [hsa] at hwh hpl;rw [hsb] at hwh hph;rw [hx,hy] at hwh;have HWH:=za hwh;have HPL:=za hpl;have HPH:=za hph;have HF:=za hf;have HXX:=za hx;have HYY:=za hy;have Q:=za q;have j0:(0:Int)≤(k:Int)+1:=by omega
   have i1:(k:Int)+1<(n:Int)+1:=by omega
   have i2:k+1<n+1:=by omega
   have i3:(k:Int)+1≤(n:Int):=by omega
   clear hwh hpl hph hf hx hy hsa hsb q m0 m2 m3;go_upto_region 6 with (fail)
   clear n0;go_cut [7,8] from 18 to 88 (fun r s wx=>r = .string (zj x)∧s = .string (zj y)∧Below wr.heap.size wr wx)
   case first =>
    obtain ⟨n1,n2,n3,n4⟩:=HF.out wr.drew (qw Q.out.bl 1);have hw0:Below wr.heap.size wr wr.drew:=qw (zA _ _) 1;go_region_held3 (fun w'=>w'.cell? ⟨g,2,none⟩=some (.slice (some ⟨ba,oa,none⟩) (n+1) cl)∧w'.cell? ⟨g,3,none⟩=some (.slice (some ⟨bh,oh,none⟩) (n+1) ch)∧w'.cell? ⟨ba,oa+(k+1),none⟩=some (.string sa)∧w'.cell? ⟨bh,oh+(k+1),none⟩=some (.string sb))
     (first | exact ⟨n1,n2,n3,n4⟩ | go_keep)
     (first
       | (go_simp
          go_at_call 100;(with_reducible refine (HWH.out _).mono ?_);rintro e w1 ⟨rfl,hb1⟩;replace hw0:=zu hw0 hb1 hw0.size;obtain ⟨n1,n2,n3,n4⟩:=HF.out _ (zu Q.out.bl hw0 Q.out.bl.size)))
    all_goals
     try go_wp2
     go_meet;exact ⟨rfl,rfl,hw0⟩
   case rest =>
   obtain ⟨rfl,rfl,hw1⟩:=hcut;have q1:=Q.out.below hw1;have hsx:=HOK.out.ps k hlt2;have hpb:=HOK.out.pb k hk;have hpb2:=HOK.out.pb (k+1) hlt2;obtain ⟨dv,hdv⟩:∃ d,D (k+1)=d:=⟨_,rfl⟩;obtain ⟨ev,hev⟩:∃ d,E (k+1)=d:=⟨_,rfl⟩;rw [hdv] at HPL d1' d2' hsx;rw [hev] at HPH d3' d4' hsx;have hg0:0<Nat.gcd dv ev:=Nat.gcd_pos_of_pos_left ev d1';have hb9:∀ z,z<10^9→zB z≤1000000:=fun z hz=>Nat.le_trans (zbW z 9 hz (by decide)) (by decide);have hb18:zB (dv*ev)≤1000000:=Nat.le_trans (zbW _ 18 (Nat.lt_of_lt_of_le (Nat.mul_lt_mul'' d2' d4') (by decide)) (by decide)) (by decide);have hgb:zB (Nat.gcd dv ev)≤1000000:=Nat.le_trans (yz (Nat.le_of_dvd d1' (Nat.gcd_dvd_left dv ev))) (hb9 dv d2');have hlb:zB (jI dv ev)≤1000000:=Nat.le_trans (yz (Nat.div_le_self _ _)) hb18;have hmu:=fun W=>zbK W dv ev (Nat.le_trans (hb9 dv d2') (by decide)) (Nat.le_trans (hb9 ev d4') (by decide));have hgc:=fun W=>zhg W dv ev (hb9 dv d2') (hb9 ev d4');have hdi:=fun W=>zdT W (dv*ev) (Nat.gcd dv ev) hb18 hgb hg0;have hmu2:=fun W=>zbK W (P k) (jI dv ev) (Nat.le_trans hpb (by decide)) (Nat.le_trans hlb (by decide));rw [show dv*ev / Nat.gcd dv ev=jI dv ev from rfl] at hdi;rw [← hsx] at hmu2;have HMU:=za hmu;have HGC:=za hgc;have HDI:=za hdi;have HM2:=za hmu2;have hk63:k+1+1≤maxLen:=by omega
   have Q1:=za q1;clear q1 Q hw1 hmu hgc hdi hmu2 hsx hpb hpb2 hdv hev hb9 hb18 hgb hlb hg0 d1' d2' d3' d4' hk;have own5:=Q1.out.oa.alloc (.cells #[.string (zj x)] 9);have hbs:=Q1.out.bl.size;go_wp2_with (first
    | (at_builtin
       go_loud (refine wpList_append_own_at _ rfl _ _ 27 rfl w.heap.size 9 i0 (.string ⟨#[]⟩) 1 16 Tryz.underlying27 hi0 hz0 hz1 hz2 rfl (by decide) _ _ _ rfl own5 ⟨wc.heap.size,0,none⟩ 1 1 [.string (zj x)] rfl rfl qR gV hk63 (by omega) (by simp;omega) ?_)
       intro v5 w5 hown5 hgr5 _ hat5;have Q2:=za (Q1.out.pushA hgr5 hown5 hat5 HXX.out);have own6:=Q2.out.ob.alloc (.cells #[.string (zj y)] 9);have hbs2:=Q2.out.bl.size;clear hown5 hgr5 hat5 own5 hbs Q1)
    | (at_builtin
       go_loud (refine wpList_append_own_at _ rfl _ _ 27 rfl w.heap.size 9 i0 (.string ⟨#[]⟩) 1 16 Tryz.underlying27 hi0 hz0 hz1 hz2 rfl (by decide) _ _ _ rfl own6 ⟨w5.heap.size,0,none⟩ 1 1 [.string (zj y)] rfl rfl qR gV hk63 (by omega) (by simp;omega) ?_)
       intro v6 w6 hown6 hgr6 _ hat6;have Q3:=za (Q2.out.pushB hgr6 hown6 hat6 HYY.out);obtain ⟨n1,n2,n3,n4⟩:=HF.out w6 Q3.out.bl;clear hown6 hgr6 hat6 own6 hbs2 Q2)
    | (go_at_call 97;(with_reducible refine (HPL.out w6).mono ?_);rintro e w7 ⟨⟨mm,rfl⟩,hb7⟩;have Q4:=za (Q3.out.below hb7);clear hb7 n1 n2 n3 n4 Q3;obtain ⟨n1,n2,n3,n4⟩:=HF.out w7 Q4.out.bl)
    | (go_at_call 97;(with_reducible refine (HPH.out w7).mono ?_);rintro e w8 ⟨⟨mn,rfl⟩,hb8⟩;have Q5:=za (Q4.out.below hb8);clear hb8 n1 n2 n3 n4 Q4)
    | (go_at_call 102;(with_reducible refine (HMU.out w8).mono ?_);rintro e w9 ⟨rfl,hb9⟩;have Q6:=za (Q5.out.below hb9);clear hb9 Q5)
    | (go_at_call 103;(with_reducible refine (HGC.out w9).mono ?_);rintro e w10 ⟨rfl,hb10⟩;have Q7:=za (Q6.out.below hb10);clear hb10 Q6)
    | (go_at_call 101;(with_reducible refine (HDI.out w10).mono ?_);rintro e w11 ⟨rfl,hb11⟩;have Q8:=za (Q7.out.below hb11);clear hb11 Q7)
    | (go_at_call 102;(with_reducible refine (HM2.out w11).mono ?_);rintro e w12 ⟨rfl,hb12⟩;have Q9:=za (Q8.out.below hb12);clear hb12 Q8))
   go_roundw
   case rel=>exact ⟨k+1,hlt2,by go_num,rfl,Q9.out⟩
   case measure=>simp [intOf];omega
  ·obtain rfl:k=n:=by omega
   have d1:¬ ((k:Int)+1≤(k:Int)):=by omega
   obtain ⟨g1,c1,rfl,hg1,hs1⟩:=zfE q.oa;obtain ⟨g2,c2,rfl,hg2,hs2⟩:=zfE q.ob;have hcl:=HSU.out wr q.bl _ _ c1 c2 hs1.rd hs2.rd;have HCL:=za hcl;have HB:=za q.bl;clear hcl hs1 hs2 q;go_wp2_with (first
    | (go_at_call 99;(with_reducible refine HCL.out.mono ?_);rintro e w9 ⟨rfl,hb9⟩)
    | (go_at_call 104;(with_reducible refine (HRT.out _).mono ?_);rintro e w10 ⟨rfl,hb10⟩))
   all_goals
    go_ret;exact ⟨rfl,zu HB.out (zu hb9 hb10 hb9.size) HB.out.size⟩
end Go.Proofs.YtoljkoifgnmbgaaGreatDoor
end
