import Derived.Test.YtmhllppjcilllaaGreatDoorRQ
import Derived.Test.YtmhllppjcilllaaGreatDoorQ2
set_option linter.unusedSimpArgs false
set_option linter.unusedVariables false
section
namespace Cs
def pr (f e:Nat→Nat):Nat→Nat
 | 0=>1
 | n+1=>pr f e n*f (n+1)^e (n+1)
theorem zjl (f e e':Nat→Nat):∀ n,pr f (fun v=>e v+e' v) n=pr f e n*pr f e' n
 | 0=>rfl
 | n+1=>by
   show pr f (fun v=>e v+e' v) n*f (n+1)^(e (n+1)+e' (n+1))=pr f e n*f (n+1)^e (n+1)*(pr f e' n*f (n+1)^e' (n+1));rw [zjl f e e' n,Nat.pow_add]
   ac_rfl
theorem zdk (f e:Nat→Nat) (h:∀ v,0<f v):∀ n,0<pr f e n
 | 0=>Nat.one_pos
 | n+1=>Nat.mul_pos (zdk f e h n) (Nat.pow_pos (h _))
theorem gF (f g e:Nat→Nat) (h:∀ v,f v≤g v):∀ n,pr f e n≤pr g e n
 | 0=>Nat.le_refl _
 | n+1=>Nat.mul_le_mul (gF f g e h n) (Nat.pow_le_pow_left (h _) _)
theorem zjk (f e e':Nat→Nat):∀ n,(∀ v,1≤v→v≤n→e v=e' v)→pr f e n=pr f e' n
 | 0,_=>rfl
 | n+1,h=>by
   show pr f e n*f (n+1)^e (n+1)=pr f e' n*f (n+1)^e' (n+1);rw [zjk f e e' n fun v h1 h2=>h v h1 (by omega),h (n+1) (by omega) (Nat.le_refl _)]
theorem zey (f e e':Nat→Nat) (n:Nat) (h:∀ v,e v≤e' v):pr f e' n=pr f e n*pr f (fun v=>e' v-e v) n:=by
 rw [← zjl];exact zjk _ _ _ _ fun v _ _=>by have:=h v;omega
theorem zgr (f e:Nat→Nat):∀ n,(∀ v,1≤v→v≤n→e v=0)→pr f e n=1
 | 0,_=>rfl
 | n+1,h=>by
   show pr f e n*f (n+1)^e (n+1)=1;rw [zgr f e n fun v h1 h2=>h v h1 (by omega),h (n+1) (by omega) (Nat.le_refl _),Nat.pow_zero]
theorem zcH (f:Nat→Nat) (u:Nat):∀ n,1≤u→u≤n→pr f (fun v=>if v=u then 1 else 0) n=f u
 | 0,h1,h2=>by omega
 | n+1,h1,h2=>by
   show pr f (fun v=>if v=u then 1 else 0) n*f (n+1)^(if n+1=u then 1 else 0)=f u;by_cases h:n+1=u
   ·rw [zgr _ _ n fun v _ h4=>by rw [if_neg (by omega)],if_pos h,Nat.one_mul,Nat.pow_one,h]
   ·rw [zcH f u n h1 (by omega),if_neg h,Nat.pow_zero,Nat.mul_one]
theorem pr_all (f e:Nat→Nat) (h0:∀ v,0<f v):∀ n,(∀ v,1≤v→v≤n→e v≤1)→pr f e n≤pr f (fun _=>1) n
 | 0,_=>Nat.le_refl _
 | n+1,h=>Nat.mul_le_mul (pr_all f e h0 n fun v h1 h2=>h v h1 (by omega)) (Nat.pow_le_pow_right (h0 _) (h _ (by omega) (Nat.le_refl _)))
def RQ:Rg Rat:=⟨0,1,(·+·),(·*·),fun _=>0,fun _=>0⟩
theorem CQ:CR RQ where
 addc:=Rat.add_comm
 adda:=Rat.add_assoc
 zadd:=Rat.zero_add
 mulc:=Rat.mul_comm
 mula:=Rat.mul_assoc
 omul:=Rat.one_mul
 zmul:=Rat.zero_mul
 dist:=Rat.mul_add
abbrev RW (W:Int→Rat):Rg Rat:=RQ.wit W
def RE:Rg (Nat×(Nat→Nat)):=⟨(0,fun _=>0),(1,fun _=>0),fun a b=>(a.1+b.1,fun v=>max (a.2 v) (b.2 v)),fun a b=>(a.1*b.1,fun v=>a.2 v+b.2 v),
 fun l=>(1,fun v=>if v=l.natAbs then 1 else 0),fun u=>(2,fun v=>if v=u.natAbs then 1 else 0)⟩
def dd (W:Int→Rat) (v:Nat):Nat:=(W (v:Int)).den*(W (-(v:Int))).den
def mm (W:Int→Rat) (v:Nat):Nat:=max (qn (W (v:Int))*(W (-(v:Int))).den+qn (W (-(v:Int)))*(W (v:Int)).den) (dd W v)
theorem zdM (W:Int→Rat) (v:Nat):0<dd W v:=Nat.mul_pos (Rat.den_pos _) (Rat.den_pos _)
theorem ob (W:Int→Rat) (v:Nat):dd W v≤mm W v:=Nat.le_max_right _ _
theorem mm_pos (W:Int→Rat) (v:Nat):0<mm W v:=Nat.lt_of_lt_of_le (zdM W v) (ob W v)
def Bq (W:Int→Rat) (n:Nat) (q:Rat) (b:Nat×(Nat→Nat)):Prop:=∃ P,q=qq P (pr (dd W) b.2 n)∧P≤b.1*pr (mm W) b.2 n
theorem zev (P D X:Nat) (hD:0<D) (hX:0<X):qq P D=qq (P*X) (D*X):=by
 rw [zho,qM hD,qM (Nat.mul_pos hD hX)]
 ac_rfl
theorem zeO (a b d:Nat) (hd:0<d):qq a d+qq b d=qq (a+b) d:=by
 rw [← zfH,qM hd,← Nat.add_mul,← zev _ _ _ hd hd]
structure Wn (W:Int→Rat) (n:Nat):Prop where
 pos:∀ l,0≤W l
 out:∀ l:Int,¬ (1≤l.natAbs∧l.natAbs≤n)→W l=0
theorem jG (W:Int→Rat) (h:∀ l,0≤W l) (l:Int):W l=qq (qn (W l)*(W (-l)).den) ((W l).den*(W (-l)).den):=by
 rw [← zev _ _ _ (Rat.den_pos _) (Rat.den_pos _),js (h l)]
theorem dd_abs (W:Int→Rat) (l:Int):dd W l.natAbs=(W l).den*(W (-l)).den:=by
 unfold dd;rcases Int.natAbs_eq l with h | h
 ·rw [← h]
 ·generalize l.natAbs=m at h;subst h;rw [Int.neg_neg,Nat.mul_comm]
theorem mm_abs (W:Int→Rat) (l:Int):qn (W l)*(W (-l)).den+qn (W (-l))*(W l).den≤mm W l.natAbs:=by
 refine Nat.le_trans (Nat.le_of_eq ?_) (Nat.le_max_left _ _);rcases Int.natAbs_eq l with h | h
 ·rw [← h]
 ·generalize l.natAbs=m at h;subst h;rw [Int.neg_neg,Nat.add_comm]
theorem oK {W:Int→Rat} {n:Nat} (hW:Wn W n):Rl (RW W) RE (Bq W n) where
 zero:=⟨0,((zbF _ _).2 rfl).symm,Nat.zero_le _⟩
 one:=⟨1,by
  show (1:Rat)=qq 1 (pr (dd W) (fun _=>0) n);rw [zgr _ _ _ fun _ _ _=>rfl,qq_one];rfl,by
  show 1≤1*pr (mm W) (fun _=>0) n;rw [zgr _ _ _ fun _ _ _=>rfl];exact Nat.le_refl _⟩
 add:=by
  rintro a ⟨c,e⟩ b ⟨c',e'⟩ ⟨P,hP,hPc⟩ ⟨P',hP',hPc'⟩;have h1:∀ v,e v≤max (e v) (e' v):=fun v=>Nat.le_max_left _ _;have h2:∀ v,e' v≤max (e v) (e' v):=fun v=>Nat.le_max_right _ _;refine ⟨P*pr (dd W) (fun v=>max (e v) (e' v)-e v) n+P'*pr (dd W) (fun v=>max (e v) (e' v)-e' v) n,?_,?_⟩
  ·show a+b=qq _ (pr (dd W) (fun v=>max (e v) (e' v)) n);rw [← zeO _ _ _ (zdk _ _ (zdM W) _)];congr 1
   ·rw [zey (dd W) e _ n h1,← zev _ _ _ (zdk _ _ (zdM W) _) (zdk _ _ (zdM W) _)];exact hP
   ·rw [zey (dd W) e' _ n h2,← zev _ _ _ (zdk _ _ (zdM W) _) (zdk _ _ (zdM W) _)];exact hP'
  ·show _≤(c+c')*pr (mm W) (fun v=>max (e v) (e' v)) n;rw [Nat.add_mul];refine Nat.add_le_add ?_ ?_
   ·rw [zey (mm W) e _ n h1,← Nat.mul_assoc];exact Nat.mul_le_mul hPc (gF _ _ _ (ob W) n)
   ·rw [zey (mm W) e' _ n h2,← Nat.mul_assoc];exact Nat.mul_le_mul hPc' (gF _ _ _ (ob W) n)
 mul:=by
  rintro a ⟨c,e⟩ b ⟨c',e'⟩ ⟨P,hP,hPc⟩ ⟨P',hP',hPc'⟩;refine ⟨P*P',?_,?_⟩
  ·show a*b=qq _ (pr (dd W) (fun v=>e v+e' v) n);rw [zjl,hP,hP',← zhn,qM (zdk _ _ (zdM W) _),qM (zdk _ _ (zdM W) _)]
  ·show _≤(c*c')*pr (mm W) (fun v=>e v+e' v) n;rw [zjl];refine Nat.le_trans (Nat.mul_le_mul hPc hPc') (Nat.le_of_eq ?_);show c*_*(c'*_)=_
   ac_rfl
 lit:=fun l=>by
  by_cases h:1≤l.natAbs∧l.natAbs≤n
  ·refine ⟨qn (W l)*(W (-l)).den,?_,?_⟩
   ·show W l=qq _ (pr (dd W) (fun v=>if v=l.natAbs then 1 else 0) n);rw [zcH _ _ _ h.1 h.2,dd_abs];exact jG W hW.pos l
   ·show _≤1*pr (mm W) (fun v=>if v=l.natAbs then 1 else 0) n;rw [zcH _ _ _ h.1 h.2,Nat.one_mul];exact Nat.le_trans (Nat.le_add_right _ _) (mm_abs W l)
  ·exact ⟨0,(hW.out l h).trans ((zbF _ _).2 rfl).symm,Nat.zero_le _⟩
 both:=fun l=>by
  by_cases h:1≤l.natAbs∧l.natAbs≤n
  ·refine ⟨qn (W l)*(W (-l)).den+qn (W (-l))*(W l).den,?_,?_⟩
   ·show W l+W (-l)=qq _ (pr (dd W) (fun v=>if v=l.natAbs then 1 else 0) n);rw [zcH _ _ _ h.1 h.2,dd_abs,← zeO _ _ _ (Nat.mul_pos (Rat.den_pos _) (Rat.den_pos _))];congr 1
    ·exact jG W hW.pos l
    ·have:=jG W hW.pos (-l);rw [Int.neg_neg,Nat.mul_comm (W (-l)).den] at this;exact this
   ·show _≤2*pr (mm W) (fun v=>if v=l.natAbs then 1 else 0) n;rw [zcH _ _ _ h.1 h.2];have:=mm_abs W l;omega
  ·refine ⟨0,?_,Nat.zero_le _⟩;show W l+W (-l)=_;rw [hW.out l h,hW.out (-l) (by rw [Int.natAbs_neg];exact h),Rat.zero_add];exact ((zbF _ _).2 rfl).symm
def q9 (v:Nat):Rg Nat:=⟨0,0,fun a b=>max a b,(·+·),fun l=>if v=l.natAbs then 1 else 0,fun u=>if v=u.natAbs then 1 else 0⟩
theorem jg (v:Nat):Rl RE (q9 v) (fun b x=>b.2 v=x) where
 zero:=rfl
 one:=rfl
 add:=by rintro a b c d rfl rfl;rfl
 mul:=by rintro a b c d rfl rfl;rfl
 lit:=fun _=>rfl
 both:=fun _=>rfl
theorem RE_one:Rl RE R1 (fun b x=>b.1=x) where
 zero:=rfl
 one:=rfl
 add:=by rintro a b c d rfl rfl;rfl
 mul:=by rintro a b c d rfl rfl;rfl
 lit:=fun _=>rfl
 both:=fun _=>rfl
theorem b1_le (b:Bool):b1 b≤1:=by cases b <;> decide
theorem zg5 (i:Nat):∀ (vs:List Int) (x:Nat),(∀ u∈vs,1≤u)→(q9 (i+1)).wide x vs=x+vs.count ((i:Int)+1)
 | [],x,_=>rfl
 | u::vs,x,h=>by
   show (q9 (i+1)).wide (x+if i+1=u.natAbs then 1 else 0) vs=_;rw [zg5 i vs _ fun u' hu'=>h u' (List.mem_cons_of_mem _ hu'),List.count_cons];have h1:=h u (List.mem_cons_self ..);by_cases hu:u=(i:Int)+1
   ·subst hu;rw [if_pos (by omega),if_pos (by simp)];omega
   ·rw [if_neg (by omega),if_neg (by simpa using hu)];omega
theorem count_vl (i:Nat) (hi:i<128) (s:Nat):(vl s).count ((i:Int)+1)≤b1 (s.testBit i):=by
 cases hb:s.testBit i
 ·rw [List.count_eq_zero.2 fun h=>by rw [(mem_vl hi).1 h] at hb;cases hb];exact Nat.zero_le _
 ·exact List.nodup_iff_count.1 (ziG s) _
theorem ev_gap (i:Nat) (hi:i<128) (O E:List Nat) (all k:Nat) (h:E.getD k 0≤b1 ((O.getD k 0).testBit i)) (hs:(O.getD k 0).testBit i=true→all.testBit i=true) :
  (q9 (i+1)).gap O E all k≤b1 (all.testBit i):=by
 unfold Rg.gap;show (q9 (i+1)).wide (E.getD k 0) _≤_;rw [zg5 i _ _ fun u hu=>jy _ u hu];have h1:=count_vl i hi (zP all (O.getD k 0));rw [p8] at h1
 revert hs h h1
 cases (O.getD k 0).testBit i <;> cases all.testBit i <;> simp [b1] <;> omega
theorem ev_take (i:Nat) (vs:List Int) (x m:Nat) (h:∀ u∈vs,1≤u):(q9 (i+1)).wide x (vs.take m)≤(q9 (i+1)).wide x vs:=by
 rw [zg5 i _ _ h,zg5 i _ _ fun u hu=>h u (List.mem_of_mem_take hu)];exact Nat.add_le_add_left (List.Sublist.count_le _ (List.take_sublist _ _)) _
theorem ev_and (i:Nat) (O E:List Nat) (x:Nd) (h3:x.kind=1∨x.kind=3):∀ (ks:List Int) (s p:Nat),apart O s ks=true→(∀ k∈ks,E.getD k.toNat 0≤b1 ((O.getD k.toNat 0).testBit i))→p≤b1 (s.testBit i) →
  ks.foldl ((q9 (i+1)).in1 O E x) p≤b1 ((ks.foldl (fun s k=>s ||| O.getD k.toNat 0) s).testBit i)
 | [],s,p,_,_,h=>h
 | k::ks,s,p,ha,hL,h=>by
   unfold apart at ha;split at ha
   ·rename_i h0;have hk:=hL k (List.mem_cons_self ..);have e1:(q9 (i+1)).in1 O E x p k=p+E.getD k.toNat 0:=by unfold Rg.in1;rw [if_pos h3];rfl
    show ks.foldl ((q9 (i+1)).in1 O E x) ((q9 (i+1)).in1 O E x p k)≤b1 ((ks.foldl (fun s k=>s ||| O.getD k.toNat 0) (s ||| O.getD k.toNat 0)).testBit i);rw [e1];refine ev_and i O E x h3 ks _ _ ha (fun k' hk'=>hL k' (List.mem_cons_of_mem _ hk')) ?_;rw [Nat.testBit_or];have h2:=congrArg (fun z=>z.testBit i) h0;simp only [Nat.testBit_and,Nat.zero_testBit] at h2
    revert h h2 hk
    cases s.testBit i <;> cases (O.getD k.toNat 0).testBit i <;> simp [b1] <;> omega
   ·cases ha
theorem zga (O:List Nat):∀ (ks:List Int) (s m:Nat),apart O s ks=true→apart O s (ks.take m)=true
 | [],s,m,_=>by simp [apart]
 | k::ks,s,0,_=>rfl
 | k::ks,s,m+1,h=>by
   unfold apart at h;split at h
   ·rename_i h0;show apart O s (k::ks.take m)=true;unfold apart;rw [if_pos h0];exact zga O ks _ m h
   ·cases h
theorem ev_or (i:Nat) (B:Nat) (O E:List Nat) (x:Nd) (h3:¬ (x.kind=1∨x.kind=3)):∀ (ks:List Int) (p:Nat),(∀ k∈ks,(q9 (i+1)).gap O E (O.getD E.length 0) k.toNat≤B)→p≤B →
  ks.foldl ((q9 (i+1)).in1 O E x) p≤B
 | [],p,_,h=>h
 | k::ks,p,hL,h=>by
   have e1:(q9 (i+1)).in1 O E x p k=max p ((q9 (i+1)).gap O E (O.getD E.length 0) k.toNat):=by unfold Rg.in1;rw [if_neg h3];rfl
   show ks.foldl ((q9 (i+1)).in1 O E x) ((q9 (i+1)).in1 O E x p k)≤B;rw [e1];exact ev_or i B O E x h3 ks _ (fun k' hk'=>hL k' (List.mem_cons_of_mem _ hk')) (Nat.max_le.2 ⟨h,hL k (List.mem_cons_self ..)⟩)
theorem oa {N:Nt} (hv:zG N=true) (hd:qt N=true) (i:Nat) (hi:i<128) (k:Nat) (hk:k<N.l.length) (E:List Nat) (lE:E.length=k)
  (h:∀ j,j<k→E.getD j 0≤b1 (((own N.l).getD j 0).testBit i)) (m:Nat) :
  (N.l[k].ins.take m).foldl ((q9 (i+1)).in1 (own N.l) E N.l[k]) ((q9 (i+1)).start N.l[k])≤b1 (((own N.l).getD k 0).testBit i):=by
 have hfm:=jn hv k hk;have hmem:=zfR hfm;have hb:=zgv hv k hk i;have hLm:∀ j∈N.l[k].ins,E.getD j.toNat 0≤b1 (((own N.l).getD j.toNat 0).testBit i):=fun j hj=>by
  obtain ⟨m,rfl,hm⟩:=hmem j hj;exact h _ (by simpa using hm)
 by_cases h2:N.l[k].kind=2
 ·obtain ⟨hl,hin⟩:=zbP hfm h2;rw [hin,List.any_nil,Bool.or_false,zhN] at hb;rw [hin,hb,List.take_nil];show Rg.start _ _≤_;unfold Rg.start;rw [if_pos h2];show (if i+1=N.l[k].lit.natAbs then 1 else 0)≤_;have hlv:zQ N.l[k].lit=(N.l[k].lit.natAbs:Int):=by
   obtain ⟨hn0,hn1,_,_⟩:=qN hv;have hr:=zbZ hl;unfold zQ;repeat' split <;> omega
  rw [hlv];by_cases hp:i+1=N.l[k].lit.natAbs
  ·rw [if_pos hp,decide_eq_true (by omega)];exact Nat.le_refl _
  ·rw [if_neg hp];exact Nat.zero_le _
 ·by_cases h3:N.l[k].kind=1∨N.l[k].kind=3
  ·have hap:apart (own N.l) 0 N.l[k].ins=true:=by
    rcases h3 with h1 | h3
    ·rcases zb4 hfm with ⟨_,h4⟩ | h4 | h4
     ·rw [List.length_eq_zero_iff.1 h4];rfl
     ·omega
     ·omega
    ·exact zgB _ _ k hk hd h3
   have key:=ev_and i (own N.l) E N.l[k] h3 (N.l[k].ins.take m) 0 0 (zga _ _ _ _ hap) (fun j hj=>hLm j (List.mem_of_mem_take hj)) (Nat.zero_le _);rw [ze4,Nat.zero_testBit,Bool.false_or] at key;have e:(q9 (i+1)).start N.l[k]=0:=by unfold Rg.start;rw [if_neg h2,if_pos h3];rfl
   rw [e];refine Nat.le_trans key ?_;cases hq:(N.l[k].ins.take m).any fun k=>((own N.l).getD k.toNat 0).testBit i
   ·exact Nat.zero_le _
   ·obtain ⟨j,hj,hjb⟩:=List.any_eq_true.1 hq;rw [zeT hv k hk j (List.mem_of_mem_take hj) i hjb];exact Nat.le_refl _
  ·have e:(q9 (i+1)).start N.l[k]=0:=by unfold Rg.start;rw [if_neg h2,if_neg h3];rfl
   rw [e];refine ev_or i _ (own N.l) E N.l[k] h3 _ _ (fun j hj=>?_) (Nat.zero_le _);rw [lE];have hj':=List.mem_of_mem_take hj;exact ev_gap i hi (own N.l) E _ _ (hLm j hj') fun hh=>zeT hv k hk j hj' i hh
theorem jI {N:Nt} (hv:zG N=true) (hd:qt N=true) (i:Nat) (hi:i<128):∀ (k:Nat),k≤N.l.length→∀ j,j<k→(scan ((q9 (i+1)).step (own N.l)) [] (N.l.take k)).getD j 0≤b1 (((own N.l).getD j 0).testBit i)
 | 0,_,j,hj=>absurd hj (by omega)
 | k+1,hk,j,hj=>by
   have ih:=jI hv hd i hi k (by omega);rcases Nat.lt_or_ge j k with h1 | h1
   ·rw [zer _ _ _ k j (by omega) h1];exact ih j h1
   ·obtain rfl:j=k:=by omega
    rw [jT _ _ j (by omega)];have hl:(scan ((q9 (i+1)).step (own N.l)) [] (N.l.take j)).length=j:=yA _ _ _ (by omega);rw [List.getD_eq_getElem?_getD,List.getElem?_append_right (by omega),hl,Nat.sub_self];have:=oa hv hd i hi j (by omega) _ hl ih N.l[j].ins.length;rw [List.take_length] at this;exact this
end Cs
end
section
namespace Cs
def zi4 (W:Int→Rat):Nat→Nat
 | 0=>0
 | n+1=>zi4 W n+(nd 2 (qn (W ((n+1:Nat):Int)))+nd 2 (W ((n+1:Nat):Int)).den)+(nd 2 (qn (W (-((n+1:Nat):Int))))+nd 2 (W (-((n+1:Nat):Int))).den)
theorem zjR {X Y:Nat} (hX:2≤X) (hY:2≤Y):X+Y≤X*Y:=by
 obtain ⟨x,rfl⟩:∃ x,X=x+2:=⟨X-2,by omega⟩;rw [Nat.add_mul];have:x*1≤x*Y:=Nat.mul_le_mul_left _ (by omega);omega
theorem gN (q:Rat):1≤nd 2 q.den:=by
 rcases Nat.eq_zero_or_pos (nd 2 q.den) with h | h
 ·rw [zbm 2 (by decide)] at h;exact absurd h q.den_nz
 ·exact h
theorem mm_bits (W:Int→Rat) (v:Nat):mm W v≤2^((nd 2 (qn (W (v:Int)))+nd 2 (W (v:Int)).den)+(nd 2 (qn (W (-(v:Int))))+nd 2 (W (-(v:Int))).den)):=by
 unfold mm dd;have h1:=jS 2 (qn (W (v:Int))) (by decide);have h2:=jS 2 (W (v:Int)).den (by decide);have h3:=jS 2 (qn (W (-(v:Int)))) (by decide);have h4:=jS 2 (W (-(v:Int))).den (by decide);have d2:=gN (W (v:Int));have d4:=gN (W (-(v:Int)));generalize qn (W (v:Int))=a at *
 generalize (W (v:Int)).den=b at *
 generalize qn (W (-(v:Int)))=c at *
 generalize (W (-(v:Int))).den=d at *
 generalize nd 2 a=α at *
 generalize nd 2 b=β at *
 generalize nd 2 c=γ at *
 generalize nd 2 d=δ at *
 have pos:∀ n,1≤2^n:=fun n=>Nat.one_le_two_pow;have two:∀ n,1≤n→2≤2^n:=fun n hn=>by
  have:=Nat.pow_le_pow_right (n:=2) (by decide) hn;simpa using this
 have e:2^((α+β)+(γ+δ))=(2^α*2^δ)*(2^γ*2^β):=by
  rw [← Nat.pow_add,← Nat.pow_add,← Nat.pow_add];congr 1;omega
 rw [e];have x1:a*d≤2^α*2^δ:=Nat.mul_le_mul (Nat.le_of_lt h1) (Nat.le_of_lt h4);have x2:c*b≤2^γ*2^β:=Nat.mul_le_mul (Nat.le_of_lt h3) (Nat.le_of_lt h2);have y1:2≤2^α*2^δ:=Nat.le_trans (two δ d4) (Nat.le_mul_of_pos_left _ (pos α));have y2:2≤2^γ*2^β:=Nat.le_trans (two β d2) (Nat.le_mul_of_pos_left _ (pos γ));refine Nat.max_le.2 ⟨Nat.le_trans (Nat.add_le_add x1 x2) (zjR y1 y2),?_⟩;have z1:d≤2^α*2^δ:=Nat.le_trans (Nat.le_of_lt h4) (Nat.le_mul_of_pos_left _ (pos α));have z2:b≤2^γ*2^β:=Nat.le_trans (Nat.le_of_lt h2) (Nat.le_mul_of_pos_left _ (pos γ));rw [Nat.mul_comm b];exact Nat.mul_le_mul z1 z2
theorem gG (W:Int→Rat):∀ n,pr (mm W) (fun _=>1) n≤2^zi4 W n
 | 0=>Nat.le_refl _
 | n+1=>by
   show pr (mm W) (fun _=>1) n*mm W (n+1)^1≤2^(zi4 W n+_+_);rw [Nat.pow_one,Nat.add_assoc,Nat.pow_add];exact Nat.mul_le_mul (gG W n) (mm_bits W (n+1))
def wB:Nat:=16384
theorem jZ:wB=16384:=rfl
def qP:Nat:=jq+200+wB+200
theorem zhc:qP=jq+200+wB+200:=rfl
attribute [irreducible] wB qP
theorem zhb:qP≤21000:=by rw [zhc,jZ,zcr];omega
structure Wb (W:Int→Rat) (n:Nat):Prop extends Wn W n where
 bits:zi4 W n≤wB
theorem pr_small {W:Int→Rat} {n:Nat} (hW:Wb W n) (e:Nat→Nat) (he:∀ v,1≤v→v≤n→e v≤1):pr (mm W) e n≤2^wB :=
 Nat.le_trans (pr_all _ _ (mm_pos W) n he) (Nat.le_trans (gG W n) (Nat.pow_le_pow_right (by decide) hW.bits))
theorem oH {W:Int→Rat} {n:Nat} (hW:Wb W n) {q:Rat} {b:Nat×(Nat→Nat)} (h:Bq W n q b) (hc:b.1<zR*2^200) (he:∀ v,1≤v→v≤n→b.2 v≤1):Sm qP q:=by
 obtain ⟨P,rfl,hP⟩:=h;have h1:=pr_small hW b.2 he;have h2:pr (dd W) b.2 n≤2^wB:=Nat.le_trans (gF _ _ _ (ob W) n) h1;have h3:0<pr (mm W) b.2 n:=zdk _ _ (mm_pos W) n;have e:(2:Nat)^qP=2^jq*2^200*2^wB*2^200:=by rw [zhc,← Nat.pow_add,← Nat.pow_add,← Nat.pow_add]
 have e2:zR=2^jq:=zdO;refine Sm.of ?_ ?_
 ·refine Nat.lt_of_le_of_lt hP ?_;refine Nat.lt_of_lt_of_le (Nat.mul_lt_mul_of_pos_right hc h3) ?_;refine Nat.le_trans (Nat.mul_le_mul_left _ h1) ?_;rw [e,e2];exact Nat.le_mul_of_pos_right _ (Nat.pow_pos (by decide))
 ·rw [qM (zdk _ _ (zdM W) n)];refine Nat.lt_of_le_of_lt h2 ?_;rw [zhc];exact Nat.pow_lt_pow_right (by decide) (by omega)
section
variable {W:Int→Rat} {n:Nat} (hW:Wb W n) {N:Nt} (hv:zG N=true) (hd:qt N=true) (hs:qJ N=true) (hn:N.n=(n:Int))
include hv hn
theorem zhT:n≤128:=by
 obtain ⟨_,h,_⟩:=qN hv;omega
include hW hd hs
theorem q_part (k:Nat) (hk:k<N.l.length) (m:Nat) :
  Sm qP ((N.l[k].ins.take m).foldl ((RW W).in1 (own N.l) (scan ((RW W).step (own N.l)) [] (N.l.take k)) N.l[k]) ((RW W).start N.l[k])):=by
 have hn128:=zhT hv hn;have hB:=oK hW.toWn;refine oH hW (hB.fold (hB.all (own N.l) (N.l.take k)) (own N.l) N.l[k] (N.l[k].ins.take m) _ _ (hB.start N.l[k])) ?_ fun v h1 h2=>?_
 ·have:=RE_one.fold (RE_one.all (own N.l) (N.l.take k)) (own N.l) N.l[k] (N.l[k].ins.take m) _ _ (RE_one.start N.l[k]);unfold Rg.all at this;unfold Rg.all;rw [this];exact Nat.lt_of_lt_of_le (zdo hs k hk m) (Nat.le_mul_of_pos_right _ (Nat.two_pow_pos _))
 ·obtain ⟨i,rfl⟩:∃ i,v=i+1:=⟨v-1,by omega⟩;have h3:=(jg (i+1)).fold ((jg (i+1)).all (own N.l) (N.l.take k)) (own N.l) N.l[k] (N.l[k].ins.take m) _ _ ((jg (i+1)).start N.l[k]);unfold Rg.all at h3;unfold Rg.all;rw [h3];exact Nat.le_trans (oa hv hd i (by omega) k hk _ (yA _ _ _ (by omega)) (jI hv hd i (by omega) k (by omega)) m) (b1_le _)
theorem zjg (k:Nat) (hk:k≤N.l.length) (j:Nat) (hj:j<k) (all:Nat) (hall:∀ i,((own N.l).getD j 0).testBit i=true→all.testBit i=true) (m:Nat) :
  Sm qP ((RW W).wide ((scan ((RW W).step (own N.l)) [] (N.l.take k)).getD j 0) ((vl (zP all ((own N.l).getD j 0))).take m)):=by
 have hn128:=zhT hv hn;have hB:=oK hW.toWn;have hlen:((vl (zP all ((own N.l).getD j 0))).take m).length≤128:=Nat.le_trans (by rw [List.length_take];exact Nat.min_le_right _ _) (zct _);refine oH hW (hB.wide _ _ _ ((hB.all (own N.l) (N.l.take k)).2 j)) ?_ fun v h1 h2=>?_
 ·have:=RE_one.wide ((vl (zP all ((own N.l).getD j 0))).take m) _ _ ((RE_one.all (own N.l) (N.l.take k)).2 j);rw [this,zi8];have h1:(R1.all (own N.l) (N.l.take k)).getD j 0<zR:=by
   have:=zjW hs j;unfold Rg.all at this ⊢;rw [zgh _ _ _ _ _ hk hj];exact this
  have h2:2^((vl (zP all ((own N.l).getD j 0))).take m).length≤2^200:=Nat.pow_le_pow_right (by decide) (by omega);exact Nat.lt_of_le_of_lt (Nat.mul_le_mul_left _ h2) (Nat.mul_lt_mul_of_pos_right h1 (Nat.two_pow_pos _))
 ·obtain ⟨i,rfl⟩:∃ i,v=i+1:=⟨v-1,by omega⟩;have h3:=(jg (i+1)).wide ((vl (zP all ((own N.l).getD j 0))).take m) _ _ (((jg (i+1)).all (own N.l) (N.l.take k)).2 j);rw [h3];refine Nat.le_trans (ev_take i _ _ m fun u hu=>jy _ u hu) (Nat.le_trans ?_ (b1_le (all.testBit i)));exact ev_gap i (by omega) (own N.l) ((q9 (i+1)).all (own N.l) (N.l.take k)) all j (jI hv hd i (by omega) k hk j hj) (hall i)
theorem q_at (k:Nat) (hk:k≤N.l.length) (j:Nat) (hj:j<k):Sm qP ((scan ((RW W).step (own N.l)) [] (N.l.take k)).getD j 0) :=
 zjg hW hv hd hs hn k hk j hj ((own N.l).getD j 0) (fun _ h=>h) 0
end
theorem one_small:1<zR*2^200∧2<zR*2^200:=by
 have h1:=yr;have h2:2≤2^200:=by decide
 have h3:zR*2≤zR*2^200:=Nat.mul_le_mul_left _ h2;omega
theorem q_lit {W:Int→Rat} {n:Nat} (hW:Wb W n) (l:Int):Sm qP (W l) :=
 oH hW ((oK hW.toWn).lit l) one_small.1 fun v _ _=>by show (if v=l.natAbs then 1 else 0)≤1;split <;> omega
theorem q_both {W:Int→Rat} {n:Nat} (hW:Wb W n) (l:Int):Sm qP (W l+W (-l)) :=
 oH hW ((oK hW.toWn).both l) one_small.2 fun v _ _=>by show (if v=l.natAbs then 1 else 0)≤1;split <;> omega
end Cs
end
