import Derived.Test.YtoljkoifgnmbgaaGreatDoorDt
import Derived.Test.YtoljkoifgnmbgaaGreatDoorQ2
import Derived.Test.YtoljkoifgnmbgaaGreatDoorM1
set_option linter.unusedSimpArgs false
set_option linter.unusedVariables false
section
section
open Go Go.RowKit Cs
namespace Cs
def zr (L:List Pr) (v:Nat):List Pr:=L.set v (0,0)
def totN (N:Nt) (n:Nat) (lo hi:List Pr):Nat:=((RP n lo hi).sum N).1
structure Ch where
 r:Nat
 lo:List Pr
 hi:List Pr
 a:Nat
def Ch.step (N:Nt) (n:Nat) (s:Ch) (v:Nat):Ch :=
 if totN N n s.lo (zr s.hi v)≤s.r then ⟨s.r-totN N n s.lo (zr s.hi v),zr s.lo v,s.hi,s.a ||| 2^(v-1)⟩ else ⟨s.r,s.lo,zr s.hi v,s.a⟩
def Ch.run (N:Nt) (n:Nat) (s:Ch):Nat→Ch
 | 0=>s
 | m+1=>(Ch.run N n s m).step N n (m+1)
end Cs
end
section
open Go Go.RowKit Cs
namespace Cs
section
variable {α:Type} (R:Rg α) (lit' both':Int→α)
def Rg.re:Rg α:=⟨R.zero,R.one,R.add,R.mul,lit',both'⟩
variable {R lit' both'} {n:Nat}
theorem wide_re (hb:∀ v:Int,1≤v→v≤(n:Int)→R.both v=both' v):∀ (vs:List Int) (x:α),(∀ v∈vs,1≤v∧v≤(n:Int))→R.wide x vs=(R.re lit' both').wide x vs
 | [],_,_=>rfl
 | v::vs,x,h=>by
   have h1:=h v (List.mem_cons_self ..);show R.wide (R.mul x (R.both v)) vs=(R.re lit' both').wide (R.mul x (both' v)) vs;rw [hb v h1.1 h1.2];exact wide_re hb vs _ fun u hu=>h u (List.mem_cons_of_mem _ hu)
theorem gap_re (hb:∀ v:Int,1≤v→v≤(n:Int)→R.both v=both' v) (O:List Nat) (acc:List α) (all k:Nat) (hall:∀ i,all.testBit i=true→(i:Int)<(n:Int)) :
  R.gap O acc all k=(R.re lit' both').gap O acc all k:=by
 refine wide_re hb _ _ fun v hv=>?_;obtain ⟨i,hi,rfl⟩:=vl_mem hv;rw [minus_bit,Bool.and_eq_true] at hi;have:=hall i hi.1;omega
theorem step_re (hb:∀ v:Int,1≤v→v≤(n:Int)→R.both v=both' v) (hl:∀ l:Int,1≤l.natAbs→l.natAbs≤n→R.lit l=lit' l) {N:Nt} (hv:vld N=true) (hn:N.n=(n:Int)) (k:Nat) (hk:k<N.l.length) (acc:List α) (la:acc.length=k) :
  R.step (own N.l) acc N.l[k]=(R.re lit' both').step (own N.l) acc N.l[k]:=by
 have hfm:=vld_formed hv k hk;have hos:=fun i h=>own_sub hv (k+1) k (Nat.lt_succ_self k) hk i h
 have hst:R.start N.l[k]=(R.re lit' both').start N.l[k]:=by
  unfold Rg.start;by_cases h2:N.l[k].kind=2
  ·rw [if_pos h2,if_pos h2];have h3:=litOk_rng' (formed_litOk hfm h2).1;exact hl _ (by omega) (by omega)
  ·rw [if_neg h2,if_neg h2];rfl
 have hin:∀ s j,R.in1 (own N.l) acc N.l[k] s j=(R.re lit' both').in1 (own N.l) acc N.l[k] s j:=fun s j=>by
  unfold Rg.in1;by_cases h3:N.l[k].kind=1∨N.l[k].kind=3
  ·rw [if_pos h3,if_pos h3];rfl
  ·rw [if_neg h3,if_neg h3];show R.add s _=R.add s _;rw [la,gap_re hb (own N.l) acc ((own N.l).getD k 0) j.toNat fun i h=>by have:=hos i h;omega]
 unfold Rg.step;rw [hst]
 have e:R.in1 (own N.l) acc N.l[k]=(R.re lit' both').in1 (own N.l) acc N.l[k]:=by funext s j;exact hin s j
 rw [e]
theorem scan_re (hb:∀ v:Int,1≤v→v≤(n:Int)→R.both v=both' v) (hl:∀ l:Int,1≤l.natAbs→l.natAbs≤n→R.lit l=lit' l) {N:Nt} (hv:vld N=true) (hn:N.n=(n:Int)) :
  ∀ k,k≤N.l.length→scan (R.step (own N.l)) [] (N.l.take k)=scan ((R.re lit' both').step (own N.l)) [] (N.l.take k)
 | 0,_=>by simp [scan]
 | k+1,hk=>by
   rw [scan_take _ _ k (by omega),scan_take _ _ k (by omega),← scan_re hb hl hv hn k (by omega),step_re hb hl hv hn k (by omega) _ (scan_len _ _ _ (by omega))]
theorem sum_re (hb:∀ v:Int,1≤v→v≤(n:Int)→R.both v=both' v) (hl:∀ l:Int,1≤l.natAbs→l.natAbs≤n→R.lit l=lit' l) {N:Nt} (hv:vld N=true) (hn:N.n=(n:Int)):R.sum N=(R.re lit' both').sum N:=by
 have h:=scan_re hb hl hv hn N.l.length (zqn _);rw [List.take_length] at h;unfold Rg.sum Rg.all;rw [h];refine gap_re hb _ _ _ _ fun i hi=>?_;rw [allTo_bit,decide_eq_true_eq] at hi;obtain ⟨h0,h1,_,_⟩:=vld_bounds hv;omega
end
def onesP (n:Nat):List Pr:=List.replicate (n+1) (1,1)
theorem onesP_get (n k:Nat):(onesP n).getD k (0,0)=if k<n+1 then (1,1) else (0,0):=by
 unfold onesP;rw [List.getD_eq_getElem?_getD,List.getElem?_replicate]
 split <;> rfl
theorem n8_1:n8 1≤1:=(n8_le _ _).2 (by decide)
theorem ones_in (n:Nat):WtIn n (onesP n) (onesP n):=by
 have h1:∀ k,Lp ((onesP n).getD k (0,0)):=fun k=>by rw [onesP_get];split;exact Lp.one;exact Lp.zero
 have h2:∀ k,Sp ((onesP n).getD k (0,0)):=fun k=>by
  rw [onesP_get];have:=n8_1;split
  ·exact ⟨by show n8 1≤_;omega,by show n8 1≤_;omega⟩
  ·exact Sp.zero
 have h3:S0 ((onesP n).getD 0 (0,0)):=by
  rw [onesP_get,if_pos (by omega)];have:=n8_1;exact ⟨by show n8 1≤_;omega,by show n8 1≤_;omega⟩
 exact ⟨by simp [onesP],by simp [onesP],h1,h1,h3,h3,h2,h2⟩
theorem ones_bits (n:Nat):∀ m,m≤n→sumB (onesP n) m=2*m
 | 0,_=>rfl
 | m+1,h=>by
   show sumB (onesP n) m+pbits ((onesP n).getD (m+1) (0,0))=_;rw [ones_bits n m (by omega),onesP_get,if_pos (by omega)]
   have:pbits (1,1)=2:=by decide +kernel
   rw [this];omega
end Cs
end
section
open Go Go.RowKit Cs
namespace Cs
def Wh (L:List Pr):Prop:=∀ k,(L.getD k (0,0)).2≤1
end Cs
end
end
section
open Go Go.RowKit Cs Go.Proofs.YtoljkoifgnmbgaaGreatDoor
namespace Cs
structure Agr {α:Type} (R S:Rg α) (v:Nat):Prop where
 zero:R.zero=S.zero
 one:R.one=S.one
 add:R.add=S.add
 mul:R.mul=S.mul
 lit:∀ l:Int,l.natAbs≠v→R.lit l=S.lit l
 both:∀ u:Int,u.natAbs≠v→R.both u=S.both u
theorem foldl_same {α β:Type} {f g:α→β→α}:∀ (l:List β) (x:α),(∀ s,∀ b∈l,f s b=g s b)→l.foldl f x=l.foldl g x
 | [],_,_=>rfl
 | b::l,x,h=>by
   show l.foldl f (f x b)=l.foldl g (g x b);rw [h x b (List.mem_cons_self ..)];exact foldl_same l _ fun s c hc=>h s c (List.mem_cons_of_mem _ hc)
theorem Agr.wide {α:Type} {R S:Rg α} {v:Nat} (h:Agr R S v) (vs:List Int) (x:α) (hv:∀ u∈vs,u.natAbs≠v):R.wide x vs=S.wide x vs:=by
 unfold Rg.wide
 exact foldl_same vs x fun s u hu=>by rw [h.mul,h.both u (hv u hu)]
theorem Agr.step {α:Type} {R S:Rg α} {v:Nat} (h:Agr R S v) (h1:1≤v) {N:Nt} (hv:vld N=true) (k:Nat) (hk:k<N.l.length) (P Q:List α) (hP:P.length=k) (hQ:Q.length=k)
  (hb:((own N.l).getD k 0).testBit (v-1)=false) (hj:∀ j,j<k→((own N.l).getD j 0).testBit (v-1)=false→P.getD j R.zero=Q.getD j S.zero):R.step (own N.l) P N.l[k]=S.step (own N.l) Q N.l[k]:=by
 have hf:=vld_formed hv k hk;have hmem:=formed_mem hf
 have hjb:∀ j:Int,j∈N.l[k].ins→((own N.l).getD j.toNat 0).testBit (v-1)=false:=fun j hj=>by
  cases hc:((own N.l).getD j.toNat 0).testBit (v-1)
  ·rfl
  ·rw [own_ins hv k hk j hj _ hc] at hb;exact absurd hb (by decide)
 have hs:R.start N.l[k]=S.start N.l[k]:=by
  unfold Rg.start;by_cases h2:N.l[k].kind=2
  ·rw [if_pos h2,if_pos h2];refine h.lit _ fun e=>?_;rw [own_bit hv k hk,Bool.or_eq_false_iff] at hb;have hw:=hb.1;rw [wth_bit] at hw;have hl:=(formed_litOk hf h2).1;obtain ⟨hn0,hn1,_,_⟩:=vld_bounds hv
   have:litVar N.l[k].lit=(v:Int):=by
    unfold litOk at hl;simp at hl;have h0:=hl.1;unfold litVar at h0 ⊢;by_cases c1:1≤N.l[k].lit∧N.l[k].lit≤128
    ·rw [if_pos c1];omega
    ·rw [if_neg c1] at h0 ⊢;by_cases c2:N.l[k].lit≤-1∧-128≤N.l[k].lit
     ·rw [if_pos c2];omega
     ·rw [if_neg c2] at h0;exact absurd rfl h0
   rw [this] at hw;exact absurd hw (by rw [decide_eq_true (by omega)];decide)
  ·rw [if_neg h2,if_neg h2,h.one,h.zero]
 unfold Rg.step;rw [hs];refine foldl_same _ _ fun s j hjm=>?_;obtain ⟨m,rfl,hm⟩:=hmem j hjm;have hjb:=hjb _ hjm;have e:=hj m hm hjb;unfold Rg.in1;rw [h.mul,h.add,hP,hQ];by_cases hk3:N.l[k].kind=1∨N.l[k].kind=3
 ·rw [if_pos hk3,if_pos hk3];show S.mul s (P.getD m R.zero)=S.mul s (Q.getD m S.zero);rw [e]
 ·rw [if_neg hk3,if_neg hk3];unfold Rg.gap;show S.add s (R.wide (P.getD m R.zero) _)=S.add s (S.wide (Q.getD m S.zero) _);rw [e,h.wide];intro u hu;obtain ⟨i,hi,rfl⟩:=vl_mem hu;rw [minus_bit,Bool.and_eq_true] at hi;intro ev
  have:i=v-1:=by omega
  rw [this] at hi;rw [hb] at hi;exact absurd hi.1 (by decide)
theorem Agr.at {α:Type} {R S:Rg α} {v:Nat} (h:Agr R S v) (h1:1≤v) {N:Nt} (hv:vld N=true):∀ k,k≤N.l.length→∀ j,j<k→((own N.l).getD j 0).testBit (v-1)=false →
  (scan (R.step (own N.l)) [] (N.l.take k)).getD j R.zero=(scan (S.step (own N.l)) [] (N.l.take k)).getD j S.zero
 | k+1,hk,j,hj,hb=>by
   by_cases hjk:j<k
   ·rw [scan_old (R.step (own N.l)) R.zero N.l k j (by omega) hjk,scan_old (S.step (own N.l)) S.zero N.l k j (by omega) hjk];exact Agr.at h h1 hv k (by omega) j hjk hb
   ·obtain rfl:j=k:=by omega
    rw [scan_take _ _ j (by omega),scan_take _ _ j (by omega)];have la:=scan_len (R.step (own N.l)) N.l j (by omega);have lb:=scan_len (S.step (own N.l)) N.l j (by omega);rw [List.getD_eq_getElem?_getD,List.getElem?_append_right (by omega),List.getD_eq_getElem?_getD,List.getElem?_append_right (by omega),la,lb,Nat.sub_self];exact h.step h1 hv j (by omega) _ _ la lb hb fun i hi hbi=>Agr.at h h1 hv j (by omega) i hi hbi
end Cs
namespace Cs
theorem wide_snoc {α:Type} (R:Rg α) (x:α) (vs:List Int) (k:Nat) (hk:k<vs.length):R.wide x (vs.take (k+1))=R.mul (R.wide x (vs.take k)) (R.both vs[k]):=by
 unfold Rg.wide
 rw [List.take_succ_eq_append_getElem hk,List.foldl_append];rfl
def nlit (n:Nat) (lo hi:List Nat) (l:Int):Nat:=if 1≤l.natAbs∧l.natAbs≤n then (if l<0 then lo.getD l.natAbs 0 else hi.getD l.natAbs 0) else 0
def RL (n:Nat) (lo hi:List Nat):Rg Nat:=⟨0,1,(·+·),(·*·),nlit n lo hi,fun v=>nlit n lo hi (-v)+nlit n lo hi v⟩
theorem RL_both {n:Nat} {lo hi:List Nat} {v:Nat} (h1:1≤v) (h2:v≤n):(RL n lo hi).both (v:Int)=lo.getD v 0+hi.getD v 0:=by
 show nlit n lo hi (-(v:Int))+nlit n lo hi (v:Int)=_;unfold nlit;rw [Int.natAbs_neg,Int.natAbs_natCast,if_pos ⟨h1,h2⟩,if_pos (by omega),if_pos ⟨h1,h2⟩,if_neg (by omega)]
theorem RP_bothV {n:Nat} {lo hi:List Pr} {v:Nat} (h1:1≤v) (h2:v≤n):(RP n lo hi).both (v:Int)=padd (lo.getD v (0,0)) (hi.getD v (0,0)):=by
 show padd (plit n lo hi (-(v:Int))) (plit n lo hi (v:Int))=_;unfold plit;rw [Int.natAbs_neg,Int.natAbs_natCast,if_pos ⟨h1,h2⟩,if_pos (by omega),if_pos ⟨h1,h2⟩,if_neg (by omega)]
end Cs
namespace Cs
section
variable {n:Nat} {lo hi:List Nat}
theorem nlit_le (h1:∀ k,lo.getD k 0≤1) (h2:∀ k,hi.getD k 0≤1) (l:Int):nlit n lo hi l≤1:=by
 unfold nlit;split
 ·split
  ·exact h1 _
  ·exact h2 _
 ·omega
theorem RL_R1 (h1:∀ k,lo.getD k 0≤1) (h2:∀ k,hi.getD k 0≤1):Rl (RL n lo hi) R1 (·≤·) where
 zero:=zqn _
 one:=zqn _
 add:=fun _ _ _ _ h1 h2=>Nat.add_le_add h1 h2
 mul:=fun _ _ _ _ h1 h2=>Nat.mul_le_mul h1 h2
 lit:=fun l=>nlit_le h1 h2 l
 both:=fun v=>by
  have a:=nlit_le (n:=n) h1 h2 v;have b:=nlit_le (n:=n) h1 h2 (-v);show nlit n lo hi (-v)+nlit n lo hi v≤2;omega
theorem RL_part (h1:∀ k,lo.getD k 0≤1) (h2:∀ k,hi.getD k 0≤1) {N:Nt} (h:shortB N=true) (k:Nat) (hk:k<N.l.length) (m:Nat) :
  (N.l[k].ins.take m).foldl ((RL n lo hi).in1 (own N.l) (scan ((RL n lo hi).step (own N.l)) [] (N.l.take k)) N.l[k]) ((RL n lo hi).start N.l[k])<big :=
 Nat.lt_of_le_of_lt ((RL_R1 h1 h2).fold ((RL_R1 h1 h2).all (own N.l) (N.l.take k)) (own N.l) N.l[k] _ _ _ ((RL_R1 h1 h2).start _)) (shortB_part h k hk m)
theorem RL_all (h1:∀ k,lo.getD k 0≤1) (h2:∀ k,hi.getD k 0≤1) {N:Nt} (h:shortB N=true) (k:Nat):((RL n lo hi).all (own N.l) N.l).getD k 0<big :=
 Nat.lt_of_le_of_lt (((RL_R1 h1 h2).all (own N.l) N.l).2 k) (shortB_all h k)
theorem RL_wide (h1:∀ k,lo.getD k 0≤1) (h2:∀ k,hi.getD k 0≤1) (x:Nat) (hx:x<big) (vs:List Int) (h:vs.length≤128):(RL n lo hi).wide x vs<big*2^200:=by
 refine Nat.lt_of_le_of_lt ((RL_R1 h1 h2).wide vs x x (zqn _)) ?_;rw [R1_wide];have h1:2^vs.length≤2^128:=Nat.pow_le_pow_right (by decide) h;have h2:(2:Nat)^128≤2^200:=Nat.pow_le_pow_right (by decide) (by decide);exact Nat.lt_of_le_of_lt (Nat.mul_le_mul_left _ (Nat.le_trans h1 h2)) (Nat.mul_lt_mul_of_pos_right hx (Nat.two_pow_pos _))
end
end Cs
end
section
open Go Go.RowKit Cs Go.Proofs.YtoljkoifgnmbgaaGreatDoor
namespace Cs
def cLo (n:Nat) (T:List Int):List Nat:=(List.range (n+1)).map fun (v:Nat)=>if (v:Int)∈T then 0 else 1
def cHi (n:Nat) (T:List Int):List Nat:=(List.range (n+1)).map fun (v:Nat)=>if -(v:Int)∈T then 0 else 1
def wLo (n:Nat) (lo:List Pr) (T:List Int):List Pr:=(List.range (n+1)).map fun (v:Nat)=>if (v:Int)∈T then (0,0) else lo.getD v (0,0)
def wHi (n:Nat) (hi:List Pr) (T:List Int):List Pr:=(List.range (n+1)).map fun (v:Nat)=>if -(v:Int)∈T then (0,0) else hi.getD v (0,0)
theorem rng_get {α:Type} (f:Nat→α) (z:α) (m v:Nat):((List.range m).map f).getD v z=if v<m then f v else z:=by
 rw [List.getD_eq_getElem?_getD];by_cases h:v<m
 ·rw [if_pos h,List.getElem?_map,List.getElem?_range h];rfl
 ·rw [if_neg h,List.getElem?_eq_none (by simp;omega)];rfl
theorem rng_set {α:Type} (f g:Nat→α) (m v:Nat) (x:α) (h:∀ u,u<m→u≠v→f u=g u) (hx:g v=x):((List.range m).map f).set v x=(List.range m).map g:=by
 refine List.ext_getElem? fun i=>?_;rw [List.getElem?_set,List.getElem?_map,List.getElem?_map];by_cases hi:i<m
 ·rw [List.getElem?_range hi];by_cases e:v=i
  ·subst e
   rw [if_pos rfl,if_pos (by simp;exact hi),← hx];rfl
  ·rw [if_neg e];show some (f i)=some (g i);rw [h i hi (fun e2=>e e2.symm)]
 ·rw [List.getElem?_eq_none (by simp;omega)];by_cases e:v=i
  ·subst e
   rw [if_pos rfl,if_neg (by simp;omega)];rfl
  ·rw [if_neg e];rfl
section
variable {n:Nat} {lo hi:List Pr} {T:List Int}
theorem cLo_get (v:Nat):(cLo n T).getD v 0=if v<n+1 then (if (v:Int)∈T then 0 else 1) else 0:=rng_get _ _ _ _
theorem cHi_get (v:Nat):(cHi n T).getD v 0=if v<n+1 then (if -(v:Int)∈T then 0 else 1) else 0:=rng_get _ _ _ _
theorem wLo_get (v:Nat):(wLo n lo T).getD v (0,0)=if v<n+1 then (if (v:Int)∈T then (0,0) else lo.getD v (0,0)) else (0,0):=rng_get _ _ _ _
theorem wHi_get (v:Nat):(wHi n hi T).getD v (0,0)=if v<n+1 then (if -(v:Int)∈T then (0,0) else hi.getD v (0,0)) else (0,0):=rng_get _ _ _ _
theorem wLo_len:(wLo n lo T).length=n+1:=by simp [wLo]
theorem wHi_len:(wHi n hi T).length=n+1:=by simp [wHi]
theorem cLo_le (k:Nat):(cLo n T).getD k 0≤1:=by
 rw [cLo_get];split
 ·split <;> omega
 ·omega
theorem cHi_le (k:Nat):(cHi n T).getD k 0≤1:=by
 rw [cHi_get];split
 ·split <;> omega
 ·omega
theorem wLo_nil (h:lo.length=n+1):wLo n lo []=lo:=by
 refine List.ext_getElem? fun i=>?_;unfold wLo;rw [List.getElem?_map];by_cases hi:i<n+1
 ·rw [List.getElem?_range hi];show some (if (i:Int)∈[] then (0,0) else lo.getD i (0,0))=_
  rw [if_neg (by simp),List.getD_eq_getElem?_getD,List.getElem?_eq_getElem (by omega)];rfl
 ·rw [List.getElem?_eq_none (by simp;omega),List.getElem?_eq_none (by omega)];rfl
theorem wHi_nil (h:hi.length=n+1):wHi n hi []=hi:=wLo_nil h
theorem cLo_nil:cLo n []=List.replicate (n+1) 1:=by
 unfold cLo;refine List.ext_getElem? fun i=>?_;rw [List.getElem?_map,List.getElem?_replicate];by_cases hi:i<n+1
 ·rw [List.getElem?_range hi,if_pos hi];rfl
 ·rw [List.getElem?_eq_none (by simp;omega),if_neg hi];rfl
theorem cHi_nil:cHi n []=List.replicate (n+1) 1:=cLo_nil
structure TOk (n:Nat) (T:List Int):Prop where
 rng:∀ l∈T,1≤l.natAbs∧l.natAbs≤n
 nd:(T.map Int.natAbs).Nodup
theorem TOk.nil:TOk n []:=⟨(fun _ h=>by cases h),List.nodup_nil⟩
theorem TOk.snoc (h:TOk n T) {l:Int} (h1:1≤l.natAbs) (h2:l.natAbs≤n) (hp:l ∉ T) (hm : -l ∉ T):TOk n (T++[l]):=by
 refine ⟨fun x hx=>?_,?_⟩
 ·rcases List.mem_append.1 hx with hx | hx
  ·exact h.rng x hx
  ·rw [List.mem_singleton.1 hx];exact ⟨h1,h2⟩
 ·rw [List.map_append,List.nodup_append];refine ⟨h.nd,by simp,fun a ha b hb=>?_⟩;simp at hb;subst hb;obtain ⟨x,hx,rfl⟩:=List.mem_map.1 ha;intro e;rcases Int.natAbs_eq_natAbs_iff.1 e with e | e
  ·exact hp (e▸hx)
  ·exact hm (e▸hx)
theorem TOk.out {l:Int} (h:TOk n (T++[l])):l ∉ T∧-l ∉ T:=by
 have h2:=h.nd;rw [List.map_append,List.nodup_append] at h2;refine ⟨fun hl=>h2.2.2 _ (List.mem_map_of_mem hl) _ (by simp) rfl,fun hl=>?_⟩;exact h2.2.2 _ (List.mem_map_of_mem hl) l.natAbs (by simp) (Int.natAbs_neg l)
theorem TOk.last {l:Int} (h:TOk n (T++[l])):1≤l.natAbs∧l.natAbs≤n:=h.rng l (by simp)
theorem mem_snoc {T:List Int} {x l:Int}:x∈T++[l]↔x∈T∨x=l:=by simp
theorem ite_snoc {α:Type} {T:List Int} {x l:Int} (h:x≠l) (a b:α):(if x∈T++[l] then a else b)=if x∈T then a else b:=by
 have:x∈T++[l]↔x∈T:=by rw [mem_snoc];exact ⟨fun h2=>h2.resolve_right h,Or.inl⟩
 simp only [this]
theorem cLo_snoc {l:Int} (hl:0<l):cLo n (T++[l])=(cLo n T).set l.natAbs 0 :=
 (rng_set _ _ _ _ _ (fun u hu hne=>(ite_snoc (by omega) _ _).symm) (if_pos (by rw [mem_snoc];exact Or.inr (by omega)))).symm
theorem cHi_same {l:Int} (hl:0<l):cHi n (T++[l])=cHi n T:=List.map_congr_left fun u hu=>ite_snoc (by omega) _ _
theorem cLo_same {l:Int} (hl:l<0):cLo n (T++[l])=cLo n T:=List.map_congr_left fun u hu=>ite_snoc (by omega) _ _
theorem cHi_snoc {l:Int} (hl:l<0):cHi n (T++[l])=(cHi n T).set l.natAbs 0 :=
 (rng_set _ _ _ _ _ (fun u hu hne=>(ite_snoc (by omega) _ _).symm) (if_pos (by rw [mem_snoc];exact Or.inr (by omega)))).symm
theorem wLo_snoc {l:Int} (hl:0<l):wLo n lo (T++[l])=(wLo n lo T).set l.natAbs (0,0) :=
 (rng_set _ _ _ _ _ (fun u hu hne=>(ite_snoc (by omega) _ _).symm) (if_pos (by rw [mem_snoc];exact Or.inr (by omega)))).symm
theorem wHi_same {l:Int} (hl:0<l):wHi n hi (T++[l])=wHi n hi T:=List.map_congr_left fun u hu=>ite_snoc (by omega) _ _
theorem wLo_same {l:Int} (hl:l<0):wLo n lo (T++[l])=wLo n lo T:=List.map_congr_left fun u hu=>ite_snoc (by omega) _ _
theorem wHi_snoc {l:Int} (hl:l<0):wHi n hi (T++[l])=(wHi n hi T).set l.natAbs (0,0) :=
 (rng_set _ _ _ _ _ (fun u hu hne=>(ite_snoc (by omega) _ _).symm) (if_pos (by rw [mem_snoc];exact Or.inr (by omega)))).symm
theorem cLo_back {l:Int} (hl:0<l) (h:l ∉ T):cLo n T=(cLo n (T++[l])).set l.natAbs 1 :=
 (rng_set _ _ _ _ _ (fun u hu hne=>ite_snoc (by omega) _ _) (if_neg (by rw [show ((l.natAbs:Nat):Int)=l by omega];exact h))).symm
theorem cHi_back {l:Int} (hl:l<0) (h:l ∉ T):cHi n T=(cHi n (T++[l])).set l.natAbs 1 :=
 (rng_set _ _ _ _ _ (fun u hu hne=>ite_snoc (by omega) _ _) (if_neg (by rw [show -((l.natAbs:Nat):Int)=l by omega];exact h))).symm
theorem wLo_back {l:Int} (hl:0<l) (h:l ∉ T):wLo n lo T=(wLo n lo (T++[l])).set l.natAbs (lo.getD l.natAbs (0,0)) :=
 (rng_set _ _ _ _ _ (fun u hu hne=>ite_snoc (by omega) _ _) (if_neg (by rw [show ((l.natAbs:Nat):Int)=l by omega];exact h))).symm
theorem wHi_back {l:Int} (hl:l<0) (h:l ∉ T):wHi n hi T=(wHi n hi (T++[l])).set l.natAbs (hi.getD l.natAbs (0,0)) :=
 (rng_set _ _ _ _ _ (fun u hu hne=>ite_snoc (by omega) _ _) (if_neg (by rw [show -((l.natAbs:Nat):Int)=l by omega];exact h))).symm
theorem sumB_le {a b:List Pr} (h:∀ k,pbits (a.getD k (0,0))≤pbits (b.getD k (0,0))):∀ m,sumB a m≤sumB b m
 | 0=>zqn _
 | m+1=>Nat.add_le_add (sumB_le h m) (h (m+1))
theorem pbits_min (p:Pr):pbits (0,0)≤pbits p:=by
 have h:pbits (0,0)=1:=by decide +kernel
 rw [h];exact pbits_pos p
theorem S0.zero:S0 (0,0):=by constructor <;> (show n8 0≤_;rw [n8_zero];omega)
theorem wLo_all {P:Pr→Prop} (h0:P (0,0)) (h:∀ k,P (lo.getD k (0,0))) (k:Nat):P ((wLo n lo T).getD k (0,0)):=by
 rw [wLo_get];split
 ·split
  ·exact h0
  ·exact h k
 ·exact h0
theorem wHi_all {P:Pr→Prop} (h0:P (0,0)) (h:∀ k,P (hi.getD k (0,0))) (k:Nat):P ((wHi n hi T).getD k (0,0)):=by
 rw [wHi_get];split
 ·split
  ·exact h0
  ·exact h k
 ·exact h0
theorem WtIn.under (h:WtIn n lo hi) (T:List Int):WtIn n (wLo n lo T) (wHi n hi T) where
 ll:=wLo_len
 lh:=wHi_len
 pl:=wLo_all Lp.zero h.pl
 ph:=wHi_all Lp.zero h.ph
 l0:=by
  rw [wLo_get,if_pos (by omega)];split
  ·exact S0.zero
  ·exact h.l0
 h0:=by
  rw [wHi_get,if_pos (by omega)];split
  ·exact S0.zero
  ·exact h.h0
 sl:=wLo_all Sp.zero h.sl
 sh:=wHi_all Sp.zero h.sh
theorem sumB_under (T:List Int) (m:Nat):sumB (wLo n lo T) m+sumB (wHi n hi T) m≤sumB lo m+sumB hi m:=by
 refine Nat.add_le_add (sumB_le (fun k=>?_) m) (sumB_le (fun k=>?_) m)
 ·rw [wLo_get];split
  ·split
   ·exact pbits_min _
   ·exact zqn _
  ·exact pbits_min _
 ·rw [wHi_get];split
  ·split
   ·exact pbits_min _
   ·exact zqn _
  ·exact pbits_min _
theorem WtIn.okT (h:WtIn n lo hi) (hb:¬ 16384<sumB lo n+sumB hi n) (T:List Int):WtOk n (wLo n lo T) (wHi n hi T) :=
 (h.under T).ok (by have:=sumB_under (n:=n) (lo:=lo) (hi:=hi) T n;omega)
theorem RL_agr {a b c d:List Nat} {v:Nat} (h1:∀ u,u≠v→a.getD u 0=c.getD u 0) (h2:∀ u,u≠v→b.getD u 0=d.getD u 0):Agr (RL n a b) (RL n c d) v:=by
 have hl:∀ l:Int,l.natAbs≠v→nlit n a b l=nlit n c d l:=fun l hl=>by
  unfold nlit;rw [h1 _ hl,h2 _ hl]
 refine ⟨rfl,rfl,rfl,rfl,hl,fun u hu=>?_⟩;show nlit n a b (-u)+nlit n a b u=nlit n c d (-u)+nlit n c d u;rw [hl u hu,hl (-u) (by rw [Int.natAbs_neg];exact hu)]
theorem RP_agr {a b c d:List Pr} {v:Nat} (h1:∀ u,u≠v→a.getD u (0,0)=c.getD u (0,0)) (h2:∀ u,u≠v→b.getD u (0,0)=d.getD u (0,0)):Agr (RP n a b) (RP n c d) v:=by
 have hl:∀ l:Int,l.natAbs≠v→plit n a b l=plit n c d l:=fun l hl=>by
  unfold plit;rw [h1 _ hl,h2 _ hl]
 refine ⟨rfl,rfl,rfl,rfl,hl,fun u hu=>?_⟩;show padd (plit n a b (-u)) (plit n a b u)=padd (plit n c d (-u)) (plit n c d u);rw [hl u hu,hl (-u) (by rw [Int.natAbs_neg];exact hu)]
theorem ite_other {α:Type} {T:List Int} {l x:Int} (h:x.natAbs≠l.natAbs) (a b:α):(if x∈T++[l] then a else b)=if x∈T then a else b:=ite_snoc (fun e=>h (by rw [e])) a b
theorem agrC (n:Nat) (T:List Int) (l:Int):Agr (RL n (cLo n T) (cHi n T)) (RL n (cLo n (T++[l])) (cHi n (T++[l]))) l.natAbs :=
 RL_agr (fun u hu=>by rw [cLo_get,cLo_get,ite_other (by omega)]) (fun u hu=>by rw [cHi_get,cHi_get,ite_other (by omega)])
theorem agrW (n:Nat) (lo hi:List Pr) (T:List Int) (l:Int):Agr (RP n (wLo n lo T) (wHi n hi T)) (RP n (wLo n lo (T++[l])) (wHi n hi (T++[l]))) l.natAbs :=
 RP_agr (fun u hu=>by rw [wLo_get,wLo_get,ite_other (by omega)]) (fun u hu=>by rw [wHi_get,wHi_get,ite_other (by omega)])
theorem Agr.symm {α:Type} {R S:Rg α} {v:Nat} (h:Agr R S v):Agr S R v:=⟨h.zero.symm,h.one.symm,h.add.symm,h.mul.symm,fun l hl=>(h.lit l hl).symm,fun u hu=>(h.both u hu).symm⟩
end
end Cs
end
section

end
