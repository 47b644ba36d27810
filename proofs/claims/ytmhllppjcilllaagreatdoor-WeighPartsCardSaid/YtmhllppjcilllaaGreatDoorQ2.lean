import Derived.Test.YtmhllppjcilllaaGreatDoorShort
import Derived.Test.YtmhllppjcilllaaGreatDoorM1
import Derived.Test.YtmhllppjcilllaaGreatDoorS1
import Derived.Test.YtmhllppjcilllaaGreatDoorQ1
set_option linter.unusedSimpArgs false
set_option linter.unusedVariables false
section
set_option maxRecDepth 100000
set_option maxHeartbeats 400000
section
open Go Go.RowKit Cs
namespace Cs
def wt (nt l:Int):Nat:=if l=nt then 0 else 1
def RN (nt:Int):Rg Nat:=⟨0,1,(·+·),(·*·),wt nt,fun v=>wt nt v+wt nt (-v)⟩
def yS (N:Nt):Int:=if zE N then (if qc N then (if yA N then 0 else 2) else 210) else 1
end Cs
namespace Go.Proofs.YtmhllppjcilllaaGreatDoor
theorem zfy (w:World) (N:Nt) (A:Option Addr) (c:Nat) (hlen:N.l.length≤140737488355328) (hN:NtAt w w.heap.size A N.l) (hT:Tab w) :
  Calls Tryz.prog 79 #[qB N A c] w fun e w'=>e = .returned (.int .i64 (yS N))∧Below w.heap.size w w':=by
 have hbox:=pN w N A c 24 _ rfl;have hbl:Below w.heap.size w (w.alloc (.cells #[.int .i64 N.n,.slice A N.l.length c] 24)):=(zy _ _).alloc (zv _) _;cases hv:zE N
 ·have hck:yS N=1:=by unfold yS;rw [hv];rfl
  have hnc:∀ W,NtAt W W.heap.size A N.l→Calls Tryz.prog 46 #[qB N A c] W fun e w'=>e = .returned (.int .i64 1)∧Below W.heap.size W w':=fun W h=>by
   have:=zaC W N A c hlen h;have h2:q8 N=1:=by unfold q8;rw [hv];rfl
   rwa [h2] at this
  rw [hck];have HNC:=zc hnc;clear hck hnc hv;obtain ⟨n,l⟩:=N;go_enter Tryz.func79, Tryz.ntmps79;go_wp2_with (
   go_at_call 46;(with_reducible refine (HNC.out _ ((hN.below hbl).more hbl.size)).mono ?_);rintro e w5 ⟨rfl,hb5⟩;have hbl5:=zx hbl hb5 hbl.size)
  go_ret;exact ⟨rfl,hbl5⟩
 ·have hck:yS N=if qc N then (if yA N then 0 else 2) else 210:=by unfold yS;rw [hv];rfl
  have hnc:∀ W,NtAt W W.heap.size A N.l→Calls Tryz.prog 46 #[qB N A c] W fun e w'=>e = .returned (.int .i64 0)∧Below W.heap.size W w':=fun W h=>by
   have:=zaC W N A c hlen h;have h2:q8 N=0:=by unfold q8;rw [hv];rfl
   rwa [h2] at this
  have hdc:=fun W h=>zc9 W N A c h hv;have hsh:=fun W h hT=>xz W N A c h hv hT;rw [hck];have HNC:=zc hnc;clear hck hnc hv;cases hd:qc N
  ·rw [hd] at hdc;have HDC:=zc hdc;clear hdc hd hsh;obtain ⟨n,l⟩:=N;go_enter Tryz.func79, Tryz.ntmps79;go_wp2_with (first
    | (go_at_call 46
       (with_reducible refine (HNC.out _ ((hN.below hbl).more hbl.size)).mono ?_);rintro e w5 ⟨rfl,hb5⟩;have hbl5:=zx hbl hb5 hbl.size;have hbox5:=zh hbox hb5;obtain ⟨hc1,hc2⟩:=yB hbox5)
    | (go_at_call 25
       (with_reducible refine (HDC.out _ ((hN.below hbl5).more hbl5.size)).mono ?_);rintro e w6 ⟨rfl,hb6⟩;have hbl6:=zx hbl5 hb6 hbl5.size))
   go_ret;exact ⟨rfl,hbl6⟩
  ·rw [hd] at hdc;have HDC:=zc hdc;clear hdc hd;cases hs:yA N
   all_goals
    rw [hs] at hsh;have HSH:=zc hsh;clear hsh hs;obtain ⟨n,l⟩:=N;go_enter Tryz.func79, Tryz.ntmps79;go_wp2_with (first
     | (go_at_call 46
        (with_reducible refine (HNC.out _ ((hN.below hbl).more hbl.size)).mono ?_);rintro e w5 ⟨rfl,hb5⟩;have hbl5:=zx hbl hb5 hbl.size;have hbox5:=zh hbox hb5;obtain ⟨hc1,hc2⟩:=yB hbox5)
     | (go_at_call 25
        (with_reducible refine (HDC.out _ ((hN.below hbl5).more hbl5.size)).mono ?_);rintro e w6 ⟨rfl,hb6⟩;have hbl6:=zx hbl5 hb6 hbl5.size;have hbox6:=zh hbox5 hb6;obtain ⟨hc3,hc4⟩:=yB hbox6)
     | (go_at_call 122
        (with_reducible refine (HSH.out _ ((hN.below hbl6).more hbl6.size) (hT.below hbl6)).mono ?_);rintro e w7 ⟨rfl,hb7⟩;have hbl7:=zx hbl6 hb7 hbl6.size))
    go_ret;exact ⟨rfl,hbl7⟩
end Go.Proofs.YtmhllppjcilllaaGreatDoor
end
section
open Go Go.RowKit Cs
namespace Cs
theorem zgX (s:Nat):∀ v∈vl s,1≤v∧v≤128:=by
 intro v hv;rw [y7,List.mem_map] at hv;obtain ⟨u,hu,rfl⟩:=hv;unfold zhZ at hu;simp at hu;omega
end Cs
end
end
section
section
open Go Go.RowKit Cs
namespace Cs
theorem CN:CR (RN 0) where
 addc:=Nat.add_comm
 adda:=Nat.add_assoc
 mulc:=Nat.mul_comm
 mula:=Nat.mul_assoc
 zadd:=Nat.zero_add
 omul:=Nat.one_mul
 zmul:=Nat.zero_mul
 dist:=Nat.mul_add
def mlt (N:Nt) (s:Nat):Nat:=(RN 0).mult N s
abbrev sN (f:Nat→Nat) (m:Nat):Nat:=(RN 0).sumTo f m
theorem zij (f:Nat→Nat) (m:Nat):sN f (m+1)=sN f m+f m:=rfl
theorem sN_congr (f g:Nat→Nat) (m:Nat) (h:∀ i,i<m→f i=g i):sN f m=sN g m:=zbh f g m h
theorem sN_le (f g:Nat→Nat):∀ m,(∀ i,i<m→f i≤g i)→sN f m≤sN g m
 | 0,_=>zv _
 | m+1,h=>by
   rw [zij,zij];exact Nat.add_le_add (sN_le f g m fun i hi=>h i (by omega)) (h m (by omega))
def pcn (n s:Nat):Nat:=sN (fun i=>if s.testBit i then 1 else 0) n
section
variable {N:Nt} (hv:zE N=true) (hd:qc N=true) (n:Nat) (hn:N.n=(n:Int))
include hv hd hn
theorem zjR (W:Int→Nat):((RN 0).wit W).sum N=sN (fun s=>(RN 0).term W n s*mlt N s) (2^n):=zhJ CN hv hd W n hn
omit hv hd hn in
theorem ziM (W:Int→Nat) (s:Nat):∀ k,(∀ i,i<k→(if s.testBit i then W ((i:Int)+1) else W (-((i:Int)+1)))=1)→(RN 0).term W k s=1
 | 0,_=>rfl
 | k+1,h=>by
   show (RN 0).term W k s*(if s.testBit k then _ else _)=1;rw [ziM W s k fun i hi=>h i (by omega),h k (by omega)]
theorem cnt_sum:(RN 0).sum N=sN (mlt N) (2^n):=by
 have h:=zjR hv hd n hn (wt 0);rw [show (RN 0).wit (wt 0)=RN 0 from rfl] at h;rw [h];refine sN_congr _ _ _ fun s hs=>?_;rw [ziM (wt 0) s n fun i _=>?_,Nat.one_mul];unfold wt;split <;> rw [if_neg (by omega)]
end
end Cs
namespace Cs
def hld (s:Nat) (l:Int):Bool:=decide (zH l≠0)&&(s.testBit ((zH l).toNat-1)==decide (0<l))
def qN (s:Nat) (x:Nd):Bool:=decide (x.kind=1)||decide (x.kind=3)||(decide (x.kind=2)&&hld s x.lit)
def yW (acc:List Bool) (x:Nd) (b:Bool) (k:Int):Bool:=if x.kind=3 then b&&acc.getD k.toNat false else b||acc.getD k.toNat false
def jm (s:Nat) (acc:List Bool) (x:Nd):Bool:=x.ins.foldl (yW acc x) (qN s x)
def qz (s:Nat) (l:List Nd):List Bool:=scan (jm s) [] l
def qS (N:Nt) (s:Nat):Bool:=(qz s N.l).getD (N.l.length-1) false
def jO (L:List Bool) (i:Nat):Value:=.bool (L.getD i false)
theorem zej {x:Nd} {n b:Int} (h:qm x n b=true):x.kind=0∨x.kind=1∨x.kind=2∨x.kind=3∨x.kind=4:=by
 rcases zaV h with ⟨h1 | h1 | h1,_⟩ | h1 | h1
 ·exact .inl h1
 ·exact .inr (.inl h1)
 ·exact .inr (.inr (.inl h1))
 ·exact .inr (.inr (.inr (.inl h1)))
 ·exact .inr (.inr (.inr (.inr h1)))
end Cs
namespace Cs
def yC (T:List Bool) (x:Nd):Nat:=if x.kind=4 then x.ins.countP fun j=>T.getD j.toNat false else 0
def qQ (N:Nt) (s:Nat):Bool:=N.l.all fun x=>decide (yC (qz s N.l) x≤1)
theorem zhL {N:Nt} {s:Nat} (h:∀ i (hi:i<N.l.length),yC (qz s N.l) N.l[i]≤1):qQ N s=true:=by
 unfold qQ;rw [List.all_eq_true];intro x hx;obtain ⟨i,hi,rfl⟩:=List.getElem_of_mem hx;exact decide_eq_true (h i hi)
end Cs
namespace Cs
theorem ind_lit {l n:Int} (s:Nat) (h:z7 l n=true):(RN 0).ind s l=if hld s l then 1 else 0:=by
 have hr:=zb3 h;have hlv:zH l=if 0<l then l else -l:=by unfold zH;repeat' split <;> omega
 unfold Rg.ind hld;by_cases h0:0<l
 ·have e:zH l=l:=by rw [hlv,if_pos h0]
  rw [if_pos h0,e,decide_eq_true (show l≠0 by omega),decide_eq_true h0,Bool.true_and,show (l-1).toNat=l.toNat-1 by omega];cases s.testBit (l.toNat-1) <;> rfl
 ·have e:zH l = -l:=by rw [hlv,if_neg h0]
  rw [if_neg h0,e,decide_eq_true (show -l≠0 by omega),decide_eq_false h0,Bool.true_and,show (-l-1).toNat=(-l).toNat-1 by omega];cases s.testBit ((-l).toNat-1) <;> rfl
theorem ind_both (s:Nat) (v:Int) (h:1≤v):(RN 0).ind s v+(RN 0).ind s (-v)=1:=by
 have e1:(RN 0).ind s v=if s.testBit (v-1).toNat then 1 else 0:=by unfold Rg.ind;rw [if_pos (by omega)];rfl
 have e2:(RN 0).ind s (-v)=if s.testBit (v-1).toNat then 0 else 1:=by unfold Rg.ind;rw [if_neg (show ¬ 0 < -v by omega),Int.neg_neg];rfl
 rw [e1,e2];cases s.testBit (v-1).toNat <;> rfl
theorem zjy (s:Nat):∀ (vs:List Int) (x:Nat),(∀ v∈vs,1≤v)→((RN 0).wit ((RN 0).ind s)).wide x vs=x
 | [],_,_=>rfl
 | v::vs,x,h=>by
   show ((RN 0).wit ((RN 0).ind s)).wide (x*((RN 0).ind s v+(RN 0).ind s (-v))) vs=x;rw [ind_both s v (h v (by simp)),Nat.mul_one];exact zjy s vs x fun u hu=>h u (by simp [hu])
theorem od (s:Nat) (O acc:List Nat) (all k:Nat):((RN 0).wit ((RN 0).ind s)).gap O acc all k=acc.getD k 0:=zjy s _ _ (zgV _)
def b1 (b:Bool):Nat:=if b then 1 else 0
theorem zj3 (x:Nd) (h3:x.kind=3) (R:Rg Nat) (hR:R.mul=(·*·)) (hz:R.zero=0) (O acc:List Nat) (T:List Bool):∀ (ks:List Int) (p:Nat) (b:Bool),(∀ k∈ks,acc.getD k.toNat 0=b1 (T.getD k.toNat false))→p=b1 b →
  ks.foldl (R.in1 O acc x) p=b1 (ks.foldl (yW T x) b)
 | [],p,b,_,h=>h
 | k::ks,p,b,hk,h=>by
   have e1:R.in1 O acc x p k=p*acc.getD k.toNat 0:=by unfold Rg.in1;rw [if_pos (.inr h3),hR,hz]
   have e2:yW T x b k=(b&&T.getD k.toNat false):=by unfold yW;rw [if_pos h3]
   show ks.foldl (R.in1 O acc x) (R.in1 O acc x p k)=b1 (ks.foldl (yW T x) (yW T x b k));refine zj3 x h3 R hR hz O acc T ks _ _ (fun k' hk'=>hk k' (by simp [hk'])) ?_;rw [e1,e2,h,hk k (by simp)];cases b <;> cases T.getD k.toNat false <;> rfl
theorem ot (x:Nd) (h4:x.kind=4) (s:Nat) (O acc:List Nat) (T:List Bool):∀ (ks:List Int) (p:Nat),(∀ k∈ks,acc.getD k.toNat 0=b1 (T.getD k.toNat false)) →
  ks.foldl (((RN 0).wit ((RN 0).ind s)).in1 O acc x) p=p+ks.countP fun j=>T.getD j.toNat false
 | [],p,_=>by simp
 | k::ks,p,hk=>by
   have e1:((RN 0).wit ((RN 0).ind s)).in1 O acc x p k=p+acc.getD k.toNat 0:=by
    unfold Rg.in1;rw [if_neg (by omega),od];rfl
   show ks.foldl _ (((RN 0).wit ((RN 0).ind s)).in1 O acc x p k)=_;rw [ot x h4 s O acc T ks _ (fun k' hk'=>hk k' (by simp [hk'])),e1,hk k (by simp),List.countP_cons];cases T.getD k.toNat false <;> simp [b1] <;> omega
theorem zg7 (x:Nd) (h4:x.kind≠3) (T:List Bool):∀ (ks:List Int) (b:Bool),ks.foldl (yW T x) b=(b||ks.any fun j=>T.getD j.toNat false)
 | [],b=>by simp
 | k::ks,b=>by
   show ks.foldl (yW T x) (yW T x b k)=_;rw [zg7 x h4 T ks,List.any_cons,← Bool.or_assoc];congr 1;unfold yW;rw [if_neg h4]
theorem zfn (f:Int→Bool):∀ ks:List Int,ks.any f=decide (0<ks.countP f)
 | []=>rfl
 | k::ks=>by
   rw [List.any_cons,zfn f ks,List.countP_cons];cases f k <;> simp
theorem zii {α:Type} (f:List α→Nd→α) (d:α) (l:List Nd) (k:Nat) (hk:k<l.length):(scan f [] l).getD k d=f (scan f [] (l.take k)) l[k]:=by
 rw [← pU f d l (k+1) k (by omega) (by omega),jY _ _ k hk,List.getD_eq_getElem?_getD,List.getElem?_append_right (by rw [yK _ _ _ (by omega)];exact zv _),yK _ _ _ (by omega),Nat.sub_self];rfl
theorem zh9 {N:Nt} (hv:zE N=true) (s:Nat) (hdet:qQ N s=true):∀ (m k:Nat),k<m→k<N.l.length→(((RN 0).wit ((RN 0).ind s)).all (own N.l) N.l).getD k 0=b1 ((qz s N.l).getD k false)
 | m+1,k,hkm,hk=>by
   have hfm:=qM hv k hk;have ih:∀ j∈N.l[k].ins,(scan (((RN 0).wit ((RN 0).ind s)).step (own N.l)) [] (N.l.take k)).getD j.toNat 0=b1 ((scan (jm s) [] (N.l.take k)).getD j.toNat false):=fun j hj=>by
    obtain ⟨q,rfl,hq⟩:=o0 hfm j hj;rw [Int.toNat_natCast,pU _ _ _ k q (by omega) hq,pU _ _ _ k q (by omega) hq];exact zh9 hv s hdet m q (by omega) (by omega)
   unfold Rg.all qz;rw [zii _ _ _ k hk,zii _ _ _ k hk];rw [show ∀ L x,Rg.step ((RN 0).wit ((RN 0).ind s)) (own N.l) L x=x.ins.foldl (((RN 0).wit ((RN 0).ind s)).in1 (own N.l) L x) (((RN 0).wit ((RN 0).ind s)).start x) from fun _ _=>rfl,
    show ∀ L x,jm s L x=x.ins.foldl (yW L x) (qN s x) from fun _ _=>rfl]
   by_cases h2:N.l[k].kind=2
   ·obtain ⟨hl,hin⟩:=zaT hfm h2;rw [hin];show Rg.start _ _=b1 (qN s _);unfold Rg.start qN;rw [if_pos h2,h2];show (RN 0).ind s N.l[k].lit=_;rw [ind_lit s hl];rfl
   ·by_cases h3:N.l[k].kind=3
    ·have e1:Rg.start ((RN 0).wit ((RN 0).ind s)) N.l[k]=1:=by unfold Rg.start;rw [if_neg h2,if_pos (.inr h3)];rfl
     have e2:qN s N.l[k]=true:=by unfold qN;rw [h3];rfl
     rw [e1,e2];exact zj3 _ h3 _ rfl rfl _ _ _ _ _ _ ih rfl
    ·by_cases h4:N.l[k].kind=4
     ·have e1:Rg.start ((RN 0).wit ((RN 0).ind s)) N.l[k]=0:=by unfold Rg.start;rw [if_neg h2,if_neg (by omega)];rfl
      have e2:qN s N.l[k]=false:=by unfold qN;rw [h4];rfl
      rw [e1,e2,ot _ h4 s _ _ _ _ _ ih,zg7 _ h3,zfn,Bool.false_or,Nat.zero_add];have hc:N.l[k].ins.countP (fun j=>(scan (jm s) [] (N.l.take k)).getD j.toNat false)≤1:=by
       unfold qQ at hdet;rw [List.all_eq_true] at hdet;have h:=of_decide_eq_true (hdet _ (List.getElem_mem hk));unfold yC at h;rw [if_pos h4] at h;refine Nat.le_trans (Nat.le_of_eq ?_) h;refine List.countP_congr fun j hj=>?_;obtain ⟨q,rfl,hq⟩:=o0 hfm j hj;rw [Int.toNat_natCast,pU _ _ _ k q (by omega) hq];rfl
      obtain ⟨C,hC⟩:∃ C,N.l[k].ins.countP (fun j=>(scan (jm s) [] (N.l.take k)).getD j.toNat false)=C:=⟨_,rfl⟩;rw [hC] at hc ⊢
      match C,hc with
      | 0,_=>rfl
      | 1,_=>rfl
     ·have h01:N.l[k].kind=0∨N.l[k].kind=1:=by
       rcases zej hfm with h | h | h | h | h <;> omega
      have hin:N.l[k].ins=[]:=by
       rcases zaV hfm with ⟨_,h⟩ | h | h
       ·exact List.length_eq_zero_iff.1 h
       ·omega
       ·omega
      rw [hin];show Rg.start _ _=b1 (qN s _);unfold Rg.start qN;rcases h01 with h | h
      ·rw [h];rfl
      ·rw [h];rfl
theorem mlt_ev {N:Nt} (hv:zE N=true) (s:Nat) (hdet:qQ N s=true):mlt N s=b1 (qS N s):=by
 obtain ⟨_,_,hl0,_⟩:=qR hv;show ((RN 0).wit ((RN 0).ind s)).gap _ _ _ _=_;rw [od];exact zh9 hv s hdet N.l.length (N.l.length-1) (by omega) (by omega)
end Cs
end
end
