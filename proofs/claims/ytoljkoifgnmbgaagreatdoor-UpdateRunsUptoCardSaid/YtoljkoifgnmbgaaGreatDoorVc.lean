import Derived.Test.YtoljkoifgnmbgaaGreatDoorDw
import Derived.Test.YtoljkoifgnmbgaaGreatDoorDt
set_option linter.unusedSimpArgs false
set_option linter.unusedVariables false
section
open Go Go.RowKit Cs Go.Proofs.YtoljkoifgnmbgaaGreatDoor
namespace Cs
structure Agr {α:Type} (R S:Rg α) (v:Nat):Prop where
 zero:R.zero=S.zero
 one:R.one=S.one
 add:R.add=S.add
 mul:R.mul=S.mul
 lit:∀ l:Int,l.natAbs≠v→R.lit l=S.lit l
 both:∀ u:Int,u.natAbs≠v→R.both u=S.both u
theorem ze6 {α β:Type} {f g:α→β→α}:∀ (l:List β) (x:α),(∀ s,∀ b∈l,f s b=g s b)→l.foldl f x=l.foldl g x
 | [],_,_=>rfl
 | b::l,x,h=>by
   show l.foldl f (f x b)=l.foldl g (g x b);rw [h x b (List.mem_cons_self ..)];exact ze6 l _ fun s c hc=>h s c (List.mem_cons_of_mem _ hc)
theorem Agr.wide {α:Type} {R S:Rg α} {v:Nat} (h:Agr R S v) (vs:List Int) (x:α) (hv:∀ u∈vs,u.natAbs≠v):R.wide x vs=S.wide x vs:=by
 unfold Rg.wide;exact ze6 vs x fun s u hu=>by rw [h.mul,h.both u (hv u hu)]
theorem Agr.step {α:Type} {R S:Rg α} {v:Nat} (h:Agr R S v) (h1:1≤v) {N:Nt} (hv:zC N=true) (k:Nat) (hk:k<N.l.length) (P Q:List α) (hP:P.length=k) (hQ:Q.length=k)
  (hb:((own N.l).getD k 0).testBit (v-1)=false) (hj:∀ j,j<k→((own N.l).getD j 0).testBit (v-1)=false→P.getD j R.zero=Q.getD j S.zero):R.step (own N.l) P N.l[k]=S.step (own N.l) Q N.l[k]:=by
 have hf:=yT hv k hk;have hmem:=ze5 hf;have hjb:∀ j:Int,j∈N.l[k].ins→((own N.l).getD j.toNat 0).testBit (v-1)=false:=fun j hj=>by
  cases hc:((own N.l).getD j.toNat 0).testBit (v-1)
  ·rfl
  ·rw [zdF hv k hk j hj _ hc] at hb;exact absurd hb (by decide)
 have hs:R.start N.l[k]=S.start N.l[k]:=by
  unfold Rg.start;by_cases h2:N.l[k].kind=2
  ·rw [if_pos h2,if_pos h2];refine h.lit _ fun e=>?_;rw [zex hv k hk,Bool.or_eq_false_iff] at hb;have hw:=hb.1;rw [zgT] at hw;have hl:=(zbl hf h2).1;obtain ⟨hn0,hn1,_,_⟩:=qD hv;have:zQ N.l[k].lit=(v:Int):=by
    unfold qi at hl;simp at hl;have h0:=hl.1;unfold zQ at h0 ⊢;by_cases c1:1≤N.l[k].lit∧N.l[k].lit≤128
    ·rw [if_pos c1];omega
    ·rw [if_neg c1] at h0 ⊢;by_cases c2:N.l[k].lit≤-1∧-128≤N.l[k].lit
     ·rw [if_pos c2];omega
     ·rw [if_neg c2] at h0;exact absurd rfl h0
   rw [this] at hw;exact absurd hw (by rw [decide_eq_true (by omega)];decide)
  ·rw [if_neg h2,if_neg h2,h.one,h.zero]
 unfold Rg.step;rw [hs];refine ze6 _ _ fun s j hjm=>?_;obtain ⟨m,rfl,hm⟩:=hmem j hjm;have hjb:=hjb _ hjm;have e:=hj m hm hjb;unfold Rg.in1;rw [h.mul,h.add,hP,hQ];by_cases hk3:N.l[k].kind=1∨N.l[k].kind=3
 ·rw [if_pos hk3,if_pos hk3];show S.mul s (P.getD m R.zero)=S.mul s (Q.getD m S.zero);rw [e]
 ·rw [if_neg hk3,if_neg hk3];unfold Rg.gap;show S.add s (R.wide (P.getD m R.zero) _)=S.add s (S.wide (Q.getD m S.zero) _);rw [e,h.wide];intro u hu;obtain ⟨i,hi,rfl⟩:=zdN hu;rw [jQ,Bool.and_eq_true] at hi;intro ev;have:i=v-1:=by omega
  rw [this] at hi;rw [hb] at hi;exact absurd hi.1 (by decide)
theorem Agr.at {α:Type} {R S:Rg α} {v:Nat} (h:Agr R S v) (h1:1≤v) {N:Nt} (hv:zC N=true):∀ k,k≤N.l.length→∀ j,j<k→((own N.l).getD j 0).testBit (v-1)=false →
  (scan (R.step (own N.l)) [] (N.l.take k)).getD j R.zero=(scan (S.step (own N.l)) [] (N.l.take k)).getD j S.zero
 | k+1,hk,j,hj,hb=>by
   by_cases hjk:j<k
   ·rw [zdr (R.step (own N.l)) R.zero N.l k j (by omega) hjk,zdr (S.step (own N.l)) S.zero N.l k j (by omega) hjk];exact Agr.at h h1 hv k (by omega) j hjk hb
   ·obtain rfl:j=k:=by omega
    rw [jf _ _ j (by omega),jf _ _ j (by omega)];have la:=q7 (R.step (own N.l)) N.l j (by omega);have lb:=q7 (S.step (own N.l)) N.l j (by omega);rw [List.getD_eq_getElem?_getD,List.getElem?_append_right (by omega),List.getD_eq_getElem?_getD,List.getElem?_append_right (by omega),la,lb,Nat.sub_self];exact h.step h1 hv j (by omega) _ _ la lb hb fun i hi hbi=>Agr.at h h1 hv j (by omega) i hi hbi
end Cs
namespace Cs
theorem zhO {α:Type} (R:Rg α) (x:α) (vs:List Int) (k:Nat) (hk:k<vs.length):R.wide x (vs.take (k+1))=R.mul (R.wide x (vs.take k)) (R.both vs[k]):=by
 unfold Rg.wide;rw [List.take_succ_eq_append_getElem hk,List.foldl_append];rfl
def qZ (n:Nat) (lo hi:List Nat) (l:Int):Nat:=if 1≤l.natAbs∧l.natAbs≤n then (if l<0 then lo.getD l.natAbs 0 else hi.getD l.natAbs 0) else 0
def RL (n:Nat) (lo hi:List Nat):Rg Nat:=⟨0,1,(·+·),(·*·),qZ n lo hi,fun v=>qZ n lo hi (-v)+qZ n lo hi v⟩
theorem xe {n:Nat} {lo hi:List Nat} {v:Nat} (h1:1≤v) (h2:v≤n):(RL n lo hi).both (v:Int)=lo.getD v 0+hi.getD v 0:=by
 show qZ n lo hi (-(v:Int))+qZ n lo hi (v:Int)=_;unfold qZ;rw [Int.natAbs_neg,Int.natAbs_natCast,if_pos ⟨h1,h2⟩,if_pos (by omega),if_pos ⟨h1,h2⟩,if_neg (by omega)]
theorem zkO {n:Nat} {lo hi:List Pr} {v:Nat} (h1:1≤v) (h2:v≤n):(RP n lo hi).both (v:Int)=y5 (lo.getD v (0,0)) (hi.getD v (0,0)):=by
 show y5 (qL n lo hi (-(v:Int))) (qL n lo hi (v:Int))=_;unfold qL;rw [Int.natAbs_neg,Int.natAbs_natCast,if_pos ⟨h1,h2⟩,if_pos (by omega),if_pos ⟨h1,h2⟩,if_neg (by omega)]
end Cs
namespace Cs
section
variable {n:Nat} {lo hi:List Nat}
theorem zfI (h1:∀ k,lo.getD k 0≤1) (h2:∀ k,hi.getD k 0≤1) (l:Int):qZ n lo hi l≤1:=by
 unfold qZ;split
 ·split
  ·exact h1 _
  ·exact h2 _
 ·omega
theorem jq (h1:∀ k,lo.getD k 0≤1) (h2:∀ k,hi.getD k 0≤1):Rl (RL n lo hi) R1 (·≤·) where
 zero:=zi _
 one:=zi _
 add:=fun _ _ _ _ h1 h2=>Nat.add_le_add h1 h2
 mul:=fun _ _ _ _ h1 h2=>Nat.mul_le_mul h1 h2
 lit:=fun l=>zfI h1 h2 l
 both:=fun v=>by
  have a:=zfI (n:=n) h1 h2 v;have b:=zfI (n:=n) h1 h2 (-v);show qZ n lo hi (-v)+qZ n lo hi v≤2;omega
theorem RL_part (h1:∀ k,lo.getD k 0≤1) (h2:∀ k,hi.getD k 0≤1) {N:Nt} (h:qQ N=true) (k:Nat) (hk:k<N.l.length) (m:Nat) :
  (N.l[k].ins.take m).foldl ((RL n lo hi).in1 (own N.l) (scan ((RL n lo hi).step (own N.l)) [] (N.l.take k)) N.l[k]) ((RL n lo hi).start N.l[k])<zM :=
 Nat.lt_of_le_of_lt ((jq h1 h2).fold ((jq h1 h2).all (own N.l) (N.l.take k)) (own N.l) N.l[k] _ _ _ ((jq h1 h2).start _)) (zc5 h k hk m)
theorem zgQ (h1:∀ k,lo.getD k 0≤1) (h2:∀ k,hi.getD k 0≤1) {N:Nt} (h:qQ N=true) (k:Nat):((RL n lo hi).all (own N.l) N.l).getD k 0<zM :=
 Nat.lt_of_le_of_lt (((jq h1 h2).all (own N.l) N.l).2 k) (zgw h k)
theorem zjC (h1:∀ k,lo.getD k 0≤1) (h2:∀ k,hi.getD k 0≤1) (x:Nat) (hx:x<zM) (vs:List Int) (h:vs.length≤128):(RL n lo hi).wide x vs<zM*2^200:=by
 refine Nat.lt_of_le_of_lt ((jq h1 h2).wide vs x x (zi _)) ?_;rw [zhJ];have h1:2^vs.length≤2^128:=Nat.pow_le_pow_right (by decide) h;have h2:(2:Nat)^128≤2^200:=Nat.pow_le_pow_right (by decide) (by decide);exact Nat.lt_of_le_of_lt (Nat.mul_le_mul_left _ (Nat.le_trans h1 h2)) (Nat.mul_lt_mul_of_pos_right hx (Nat.two_pow_pos _))
end
end Cs
end
section
open Go Go.RowKit Cs Go.Proofs.YtoljkoifgnmbgaaGreatDoor
namespace Cs
def qC (n:Nat) (T:List Int):List Nat:=(List.range (n+1)).map fun (v:Nat)=>if (v:Int)∈T then 0 else 1
def qE (n:Nat) (T:List Int):List Nat:=(List.range (n+1)).map fun (v:Nat)=>if -(v:Int)∈T then 0 else 1
def qk (n:Nat) (lo:List Pr) (T:List Int):List Pr:=(List.range (n+1)).map fun (v:Nat)=>if (v:Int)∈T then (0,0) else lo.getD v (0,0)
def qm (n:Nat) (hi:List Pr) (T:List Int):List Pr:=(List.range (n+1)).map fun (v:Nat)=>if -(v:Int)∈T then (0,0) else hi.getD v (0,0)
theorem zhf {α:Type} (f:Nat→α) (z:α) (m v:Nat):((List.range m).map f).getD v z=if v<m then f v else z:=by
 rw [List.getD_eq_getElem?_getD];by_cases h:v<m
 ·rw [if_pos h,List.getElem?_map,List.getElem?_range h];rfl
 ·rw [if_neg h,List.getElem?_eq_none (by simp;omega)];rfl
theorem zcY {α:Type} (f g:Nat→α) (m v:Nat) (x:α) (h:∀ u,u<m→u≠v→f u=g u) (hx:g v=x):((List.range m).map f).set v x=(List.range m).map g:=by
 refine List.ext_getElem? fun i=>?_;rw [List.getElem?_set,List.getElem?_map,List.getElem?_map];by_cases hi:i<m
 ·rw [List.getElem?_range hi];by_cases e:v=i
  ·subst e;rw [if_pos rfl,if_pos (by simp;exact hi),← hx];rfl
  ·rw [if_neg e];show some (f i)=some (g i);rw [h i hi (fun e2=>e e2.symm)]
 ·rw [List.getElem?_eq_none (by simp;omega)];by_cases e:v=i
  ·subst e;rw [if_pos rfl,if_neg (by simp;omega)];rfl
  ·rw [if_neg e];rfl
section
variable {n:Nat} {lo hi:List Pr} {T:List Int}
theorem zhB (v:Nat):(qC n T).getD v 0=if v<n+1 then (if (v:Int)∈T then 0 else 1) else 0:=zhf _ _ _ _
theorem zhC (v:Nat):(qE n T).getD v 0=if v<n+1 then (if -(v:Int)∈T then 0 else 1) else 0:=zhf _ _ _ _
theorem zeo (v:Nat):(qk n lo T).getD v (0,0)=if v<n+1 then (if (v:Int)∈T then (0,0) else lo.getD v (0,0)) else (0,0):=zhf _ _ _ _
theorem zep (v:Nat):(qm n hi T).getD v (0,0)=if v<n+1 then (if -(v:Int)∈T then (0,0) else hi.getD v (0,0)) else (0,0):=zhf _ _ _ _
theorem wLo_len:(qk n lo T).length=n+1:=by simp [qk]
theorem wHi_len:(qm n hi T).length=n+1:=by simp [qm]
theorem zek (k:Nat):(qC n T).getD k 0≤1:=by
 rw [zhB];split
 ·split <;> omega
 ·omega
theorem zel (k:Nat):(qE n T).getD k 0≤1:=by
 rw [zhC];split
 ·split <;> omega
 ·omega
theorem gC (h:lo.length=n+1):qk n lo []=lo:=by
 refine List.ext_getElem? fun i=>?_;unfold qk;rw [List.getElem?_map];by_cases hi:i<n+1
 ·rw [List.getElem?_range hi];show some (if (i:Int)∈[] then (0,0) else lo.getD i (0,0))=_;rw [if_neg (by simp),List.getD_eq_getElem?_getD,List.getElem?_eq_getElem (by omega)];rfl
 ·rw [List.getElem?_eq_none (by simp;omega),List.getElem?_eq_none (by omega)];rfl
theorem wHi_nil (h:hi.length=n+1):qm n hi []=hi:=gC h
theorem o5:qC n []=List.replicate (n+1) 1:=by
 unfold qC;refine List.ext_getElem? fun i=>?_;rw [List.getElem?_map,List.getElem?_replicate];by_cases hi:i<n+1
 ·rw [List.getElem?_range hi,if_pos hi];rfl
 ·rw [List.getElem?_eq_none (by simp;omega),if_neg hi];rfl
theorem cHi_nil:qE n []=List.replicate (n+1) 1:=o5
structure TOk (n:Nat) (T:List Int):Prop where
 rng:∀ l∈T,1≤l.natAbs∧l.natAbs≤n
 nd:(T.map Int.natAbs).Nodup
theorem TOk.nil:TOk n []:=⟨(fun _ h=>by cases h),List.nodup_nil⟩
theorem TOk.snoc (h:TOk n T) {l:Int} (h1:1≤l.natAbs) (h2:l.natAbs≤n) (hp:l ∉ T) (hm : -l ∉ T):TOk n (T++[l]):=by
 refine ⟨fun x hx=>?_,?_⟩
 ·rcases List.mem_append.1 hx with hx | hx
  ·exact h.rng x hx
  ·rw [List.mem_singleton.1 hx];exact ⟨h1,h2⟩
 ·rw [List.map_append,List.nodup_append];refine ⟨h.nd,by simp,fun a ha b hb=>?_⟩;simp at hb;subst hb;obtain ⟨x,hx,rfl⟩:=List.mem_map.1 ha;intro e;rcases Int.natAbs_eq_natAbs_iff.1 e with e | e
  ·exact hp (e▸hx)
  ·exact hm (e▸hx)
theorem TOk.init {l:Int} (h:TOk n (T++[l])):TOk n T:=by
 have h2:=h.nd;rw [List.map_append,List.nodup_append] at h2;exact ⟨fun x hx=>h.rng x (List.mem_append_left _ hx),h2.1⟩
theorem TOk.out {l:Int} (h:TOk n (T++[l])):l ∉ T∧-l ∉ T:=by
 have h2:=h.nd;rw [List.map_append,List.nodup_append] at h2;refine ⟨fun hl=>h2.2.2 _ (List.mem_map_of_mem hl) _ (by simp) rfl,fun hl=>?_⟩;exact h2.2.2 _ (List.mem_map_of_mem hl) l.natAbs (by simp) (Int.natAbs_neg l)
theorem TOk.last {l:Int} (h:TOk n (T++[l])):1≤l.natAbs∧l.natAbs≤n:=h.rng l (by simp)
theorem zec {T:List Int} {x l:Int}:x∈T++[l]↔x∈T∨x=l:=by simp
theorem xt {α:Type} {T:List Int} {x l:Int} (h:x≠l) (a b:α):(if x∈T++[l] then a else b)=if x∈T then a else b:=by
 have:x∈T++[l]↔x∈T:=by rw [zec];exact ⟨fun h2=>h2.resolve_right h,Or.inl⟩
 simp only [this]
theorem cLo_snoc {l:Int} (hl:0<l):qC n (T++[l])=(qC n T).set l.natAbs 0 :=
 (zcY _ _ _ _ _ (fun u hu hne=>(xt (by omega) _ _).symm) (if_pos (by rw [zec];exact Or.inr (by omega)))).symm
theorem zkF {l:Int} (hl:0<l):qE n (T++[l])=qE n T:=List.map_congr_left fun u hu=>xt (by omega) _ _
theorem zkE {l:Int} (hl:l<0):qC n (T++[l])=qC n T:=List.map_congr_left fun u hu=>xt (by omega) _ _
theorem cHi_snoc {l:Int} (hl:l<0):qE n (T++[l])=(qE n T).set l.natAbs 0 :=
 (zcY _ _ _ _ _ (fun u hu hne=>(xt (by omega) _ _).symm) (if_pos (by rw [zec];exact Or.inr (by omega)))).symm
theorem wLo_snoc {l:Int} (hl:0<l):qk n lo (T++[l])=(qk n lo T).set l.natAbs (0,0) :=
 (zcY _ _ _ _ _ (fun u hu hne=>(xt (by omega) _ _).symm) (if_pos (by rw [zec];exact Or.inr (by omega)))).symm
theorem zjG {l:Int} (hl:0<l):qm n hi (T++[l])=qm n hi T:=List.map_congr_left fun u hu=>xt (by omega) _ _
theorem zjF {l:Int} (hl:l<0):qk n lo (T++[l])=qk n lo T:=List.map_congr_left fun u hu=>xt (by omega) _ _
theorem wHi_snoc {l:Int} (hl:l<0):qm n hi (T++[l])=(qm n hi T).set l.natAbs (0,0) :=
 (zcY _ _ _ _ _ (fun u hu hne=>(xt (by omega) _ _).symm) (if_pos (by rw [zec];exact Or.inr (by omega)))).symm
theorem cLo_back {l:Int} (hl:0<l) (h:l ∉ T):qC n T=(qC n (T++[l])).set l.natAbs 1 :=
 (zcY _ _ _ _ _ (fun u hu hne=>xt (by omega) _ _) (if_neg (by rw [show ((l.natAbs:Nat):Int)=l by omega];exact h))).symm
theorem cHi_back {l:Int} (hl:l<0) (h:l ∉ T):qE n T=(qE n (T++[l])).set l.natAbs 1 :=
 (zcY _ _ _ _ _ (fun u hu hne=>xt (by omega) _ _) (if_neg (by rw [show -((l.natAbs:Nat):Int)=l by omega];exact h))).symm
theorem wLo_back {l:Int} (hl:0<l) (h:l ∉ T):qk n lo T=(qk n lo (T++[l])).set l.natAbs (lo.getD l.natAbs (0,0)) :=
 (zcY _ _ _ _ _ (fun u hu hne=>xt (by omega) _ _) (if_neg (by rw [show ((l.natAbs:Nat):Int)=l by omega];exact h))).symm
theorem wHi_back {l:Int} (hl:l<0) (h:l ∉ T):qm n hi T=(qm n hi (T++[l])).set l.natAbs (hi.getD l.natAbs (0,0)) :=
 (zcY _ _ _ _ _ (fun u hu hne=>xt (by omega) _ _) (if_neg (by rw [show -((l.natAbs:Nat):Int)=l by omega];exact h))).symm
theorem ziZ {a b:List Pr} (h:∀ k,jy (a.getD k (0,0))≤jy (b.getD k (0,0))):∀ m,zG a m≤zG b m
 | 0=>zi _
 | m+1=>Nat.add_le_add (ziZ h m) (h (m+1))
theorem zea (p:Pr):jy (0,0)≤jy p:=by
 have h:jy (0,0)=1:=by decide +kernel
 rw [h];exact pk p
theorem S0.zero:S0 (0,0):=by constructor <;> (show n8 0≤_;rw [ja];omega)
theorem zcU {P:Pr→Prop} (h0:P (0,0)) (h:∀ k,P (lo.getD k (0,0))) (k:Nat):P ((qk n lo T).getD k (0,0)):=by
 rw [zeo];split
 ·split
  ·exact h0
  ·exact h k
 ·exact h0
theorem zcV {P:Pr→Prop} (h0:P (0,0)) (h:∀ k,P (hi.getD k (0,0))) (k:Nat):P ((qm n hi T).getD k (0,0)):=by
 rw [zep];split
 ·split
  ·exact h0
  ·exact h k
 ·exact h0
theorem WtIn.under (h:WtIn n lo hi) (T:List Int):WtIn n (qk n lo T) (qm n hi T) where
 ll:=wLo_len
 lh:=wHi_len
 pl:=zcU Lp.zero h.pl
 ph:=zcV Lp.zero h.ph
 l0:=by
  rw [zeo,if_pos (by omega)];split
  ·exact S0.zero
  ·exact h.l0
 h0:=by
  rw [zep,if_pos (by omega)];split
  ·exact S0.zero
  ·exact h.h0
 sl:=zcU Sp.zero h.sl
 sh:=zcV Sp.zero h.sh
theorem zkY (T:List Int) (m:Nat):zG (qk n lo T) m+zG (qm n hi T) m≤zG lo m+zG hi m:=by
 refine Nat.add_le_add (ziZ (fun k=>?_) m) (ziZ (fun k=>?_) m)
 ·rw [zeo];split
  ·split
   ·exact zea _
   ·exact zi _
  ·exact zea _
 ·rw [zep];split
  ·split
   ·exact zea _
   ·exact zi _
  ·exact zea _
theorem WtIn.okT (h:WtIn n lo hi) (hb:¬ 16384<zG lo n+zG hi n) (T:List Int):WtOk n (qk n lo T) (qm n hi T) :=
 (h.under T).ok (by have:=zkY (n:=n) (lo:=lo) (hi:=hi) T n;omega)
theorem RL_agr {a b c d:List Nat} {v:Nat} (h1:∀ u,u≠v→a.getD u 0=c.getD u 0) (h2:∀ u,u≠v→b.getD u 0=d.getD u 0):Agr (RL n a b) (RL n c d) v:=by
 have hl:∀ l:Int,l.natAbs≠v→qZ n a b l=qZ n c d l:=fun l hl=>by
  unfold qZ;rw [h1 _ hl,h2 _ hl]
 refine ⟨rfl,rfl,rfl,rfl,hl,fun u hu=>?_⟩;show qZ n a b (-u)+qZ n a b u=qZ n c d (-u)+qZ n c d u;rw [hl u hu,hl (-u) (by rw [Int.natAbs_neg];exact hu)]
theorem RP_agr {a b c d:List Pr} {v:Nat} (h1:∀ u,u≠v→a.getD u (0,0)=c.getD u (0,0)) (h2:∀ u,u≠v→b.getD u (0,0)=d.getD u (0,0)):Agr (RP n a b) (RP n c d) v:=by
 have hl:∀ l:Int,l.natAbs≠v→qL n a b l=qL n c d l:=fun l hl=>by
  unfold qL;rw [h1 _ hl,h2 _ hl]
 refine ⟨rfl,rfl,rfl,rfl,hl,fun u hu=>?_⟩;show y5 (qL n a b (-u)) (qL n a b u)=y5 (qL n c d (-u)) (qL n c d u);rw [hl u hu,hl (-u) (by rw [Int.natAbs_neg];exact hu)]
theorem zed {α:Type} {T:List Int} {l x:Int} (h:x.natAbs≠l.natAbs) (a b:α):(if x∈T++[l] then a else b)=if x∈T then a else b:=xt (fun e=>h (by rw [e])) a b
theorem agrC (n:Nat) (T:List Int) (l:Int):Agr (RL n (qC n T) (qE n T)) (RL n (qC n (T++[l])) (qE n (T++[l]))) l.natAbs :=
 RL_agr (fun u hu=>by rw [zhB,zhB,zed (by omega)]) (fun u hu=>by rw [zhC,zhC,zed (by omega)])
theorem agrW (n:Nat) (lo hi:List Pr) (T:List Int) (l:Int):Agr (RP n (qk n lo T) (qm n hi T)) (RP n (qk n lo (T++[l])) (qm n hi (T++[l]))) l.natAbs :=
 RP_agr (fun u hu=>by rw [zeo,zeo,zed (by omega)]) (fun u hu=>by rw [zep,zep,zed (by omega)])
theorem Agr.symm {α:Type} {R S:Rg α} {v:Nat} (h:Agr R S v):Agr S R v:=⟨h.zero.symm,h.one.symm,h.add.symm,h.mul.symm,fun l hl=>(h.lit l hl).symm,fun u hu=>(h.both u hu).symm⟩
end
end Cs
end
