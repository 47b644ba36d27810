import Derived.Test.YtmhllppjcilllaaGreatDoorQ1
import Derived.Test.YtmhllppjcilllaaGreatDoorZa
import Derived.Test.YtmhllppjcilllaaGreatDoorDt
import Derived.Test.YtmhllppjcilllaaGreatDoorDv
import Derived.Test.YtmhllppjcilllaaGreatDoorChecked
import Derived.Shelf.SlSortCmp.NoneTotal
import Derived.Shelf.SlicesE.Compact
import Derived.Shelf.SlicesE.IndexFunc
set_option linter.unusedSimpArgs false
set_option linter.unusedVariables false
section
open Go Go.RowKit Cs
namespace Cs
section
variable {α:Type} {R:Rg α}
theorem term_null (C:CR R) (W:Int→α) (s j:Nat) (hj:(if s.testBit j then W ((j:Int)+1) else W (-((j:Int)+1)))=R.zero):∀ k,j<k→R.term W k s=R.zero
 | 0,h=>absurd h (by omega)
 | k+1,h=>by
   show R.mul (R.term W k s) _=_;rcases Nat.lt_or_ge j k with h1 | h1
   ·rw [term_null C W s j hj k h1,C.zmul]
   ·obtain rfl:j=k:=by omega
    rw [hj,C.mulc,C.zmul]
theorem term_like (W V:Int→α) (s:Nat):∀ k,(∀ i,i<k→(if s.testBit i then W ((i:Int)+1) else W (-((i:Int)+1)))=(if s.testBit i then V ((i:Int)+1) else V (-((i:Int)+1))))→R.term W k s=R.term V k s
 | 0,_=>rfl
 | k+1,h=>by
   show R.mul (R.term W k s) _=R.mul (R.term V k s) _;rw [term_like W V s k (fun i hi=>h i (by omega)),h k (by omega)]
theorem sum_parts (C:CR R) {N:Nt} (hv:vld N=true) (hd:dcmp N=true) (W Wl Wh:Int→α) (n:Nat) (hn:N.n=(n:Int)) (v:Nat) (h1:1≤v) (h2:v≤n)
  (hl:∀ l,l≠(v:Int)→Wl l=W l) (hl0:Wl (v:Int)=R.zero) (hh:∀ l,l≠-(v:Int)→Wh l=W l) (hh0:Wh (-(v:Int))=R.zero) :
  (R.wit W).sum N=R.add ((R.wit Wl).sum N) ((R.wit Wh).sum N):=by
 rw [expand C hv hd W n hn,expand C hv hd Wl n hn,expand C hv hd Wh n hn,← sumTo_add C];refine sumTo_congr _ _ _ fun s _=>?_
 have ev:((v-1:Nat):Int)+1=(v:Int):=by omega
 cases hb:s.testBit (v-1)
 ·have e1:R.term Wh n s=R.zero:=term_null C Wh s (v-1) (by rw [hb,ev];exact hh0) n (by omega)
  have e2:R.term Wl n s=R.term W n s:=term_like Wl W s n fun i hi=>by
   split
   ·rename_i h;refine hl _ fun e=>?_
    have:i=v-1:=by omega
    rw [this,hb] at h;cases h
   ·exact hl _ (by omega)
  rw [e1,e2,C.zmul,C.addc,C.zadd]
 ·have e1:R.term Wl n s=R.zero:=term_null C Wl s (v-1) (by rw [hb,ev];exact hl0) n (by omega)
  have e2:R.term Wh n s=R.term W n s:=term_like Wh W s n fun i hi=>by
   split
   ·exact hh _ (by omega)
   ·rename_i h;refine hh _ fun e=>?_
    have:i=v-1:=by omega
    rw [this,hb] at h;exact h rfl
  rw [e1,e2,C.zmul,C.zadd]
end
end Cs
end
section
open Go Go.RowKit Cs Go.Proofs.YtmhllppjcilllaaGreatDoor
namespace Cs
structure Agr {α:Type} (R S:Rg α) (v:Nat):Prop where
 zero:R.zero=S.zero
 one:R.one=S.one
 add:R.add=S.add
 mul:R.mul=S.mul
 lit:∀ l:Int,l.natAbs≠v→R.lit l=S.lit l
 both:∀ u:Int,u.natAbs≠v→R.both u=S.both u
end Cs
namespace Cs
def nlit (n:Nat) (lo hi:List Nat) (l:Int):Nat:=if 1≤l.natAbs∧l.natAbs≤n then (if l<0 then lo.getD l.natAbs 0 else hi.getD l.natAbs 0) else 0
def RL (n:Nat) (lo hi:List Nat):Rg Nat:=⟨0,1,(·+·),(·*·),nlit n lo hi,fun v=>nlit n lo hi (-v)+nlit n lo hi v⟩
end Cs
end
section
open Go Go.RowKit Cs Go.Proofs.YtmhllppjcilllaaGreatDoor
namespace Cs
def wLo (n:Nat) (lo:List Pr) (T:List Int):List Pr:=(List.range (n+1)).map fun (v:Nat)=>if (v:Int)∈T then (0,0) else lo.getD v (0,0)
def wHi (n:Nat) (hi:List Pr) (T:List Int):List Pr:=(List.range (n+1)).map fun (v:Nat)=>if -(v:Int)∈T then (0,0) else hi.getD v (0,0)
theorem rng_get {α:Type} (f:Nat→α) (z:α) (m v:Nat):((List.range m).map f).getD v z=if v<m then f v else z:=by
 rw [List.getD_eq_getElem?_getD];by_cases h:v<m
 ·rw [if_pos h,List.getElem?_map,List.getElem?_range h];rfl
 ·rw [if_neg h,List.getElem?_eq_none (by simp;omega)];rfl
theorem rng_set {α:Type} (f g:Nat→α) (m v:Nat) (x:α) (h:∀ u,u<m→u≠v→f u=g u) (hx:g v=x):((List.range m).map f).set v x=(List.range m).map g:=by
 refine List.ext_getElem? fun i=>?_;rw [List.getElem?_set,List.getElem?_map,List.getElem?_map];by_cases hi:i<m
 ·rw [List.getElem?_range hi];by_cases e:v=i
  ·subst e
   rw [if_pos rfl,if_pos (by simp;exact hi),← hx];rfl
  ·rw [if_neg e];show some (f i)=some (g i);rw [h i hi (fun e2=>e e2.symm)]
 ·rw [List.getElem?_eq_none (by simp;omega)];by_cases e:v=i
  ·subst e
   rw [if_pos rfl,if_neg (by simp;omega)];rfl
  ·rw [if_neg e];rfl
section
variable {n:Nat} {lo hi:List Pr} {T:List Int}
theorem wLo_get (v:Nat):(wLo n lo T).getD v (0,0)=if v<n+1 then (if (v:Int)∈T then (0,0) else lo.getD v (0,0)) else (0,0):=rng_get _ _ _ _
theorem wHi_get (v:Nat):(wHi n hi T).getD v (0,0)=if v<n+1 then (if -(v:Int)∈T then (0,0) else hi.getD v (0,0)) else (0,0):=rng_get _ _ _ _
theorem wLo_len:(wLo n lo T).length=n+1:=by simp [wLo]
theorem wHi_len:(wHi n hi T).length=n+1:=by simp [wHi]
theorem wLo_nil (h:lo.length=n+1):wLo n lo []=lo:=by
 refine List.ext_getElem? fun i=>?_;unfold wLo;rw [List.getElem?_map];by_cases hi:i<n+1
 ·rw [List.getElem?_range hi];show some (if (i:Int)∈[] then (0,0) else lo.getD i (0,0))=_
  rw [if_neg (by simp),List.getD_eq_getElem?_getD,List.getElem?_eq_getElem (by omega)];rfl
 ·rw [List.getElem?_eq_none (by simp;omega),List.getElem?_eq_none (by omega)];rfl
theorem wHi_nil (h:hi.length=n+1):wHi n hi []=hi:=wLo_nil h
theorem mem_snoc {T:List Int} {x l:Int}:x∈T++[l]↔x∈T∨x=l:=by simp
theorem ite_snoc {α:Type} {T:List Int} {x l:Int} (h:x≠l) (a b:α):(if x∈T++[l] then a else b)=if x∈T then a else b:=by
 have:x∈T++[l]↔x∈T:=by rw [mem_snoc];exact ⟨fun h2=>h2.resolve_right h,Or.inl⟩
 simp only [this]
theorem wLo_snoc {l:Int} (hl:0<l):wLo n lo (T++[l])=(wLo n lo T).set l.natAbs (0,0) :=
 (rng_set _ _ _ _ _ (fun u hu hne=>(ite_snoc (by omega) _ _).symm) (if_pos (by rw [mem_snoc];exact Or.inr (by omega)))).symm
theorem wHi_same {l:Int} (hl:0<l):wHi n hi (T++[l])=wHi n hi T:=List.map_congr_left fun u hu=>ite_snoc (by omega) _ _
theorem wLo_same {l:Int} (hl:l<0):wLo n lo (T++[l])=wLo n lo T:=List.map_congr_left fun u hu=>ite_snoc (by omega) _ _
theorem wHi_snoc {l:Int} (hl:l<0):wHi n hi (T++[l])=(wHi n hi T).set l.natAbs (0,0) :=
 (rng_set _ _ _ _ _ (fun u hu hne=>(ite_snoc (by omega) _ _).symm) (if_pos (by rw [mem_snoc];exact Or.inr (by omega)))).symm
theorem sumB_le {a b:List Pr} (h:∀ k,pbits (a.getD k (0,0))≤pbits (b.getD k (0,0))):∀ m,sumB a m≤sumB b m
 | 0=>zqn _
 | m+1=>Nat.add_le_add (sumB_le h m) (h (m+1))
theorem pbits_min (p:Pr):pbits (0,0)≤pbits p:=by
 have h:pbits (0,0)=1:=by decide +kernel
 rw [h];exact pbits_pos p
theorem S0.zero:S0 (0,0):=by constructor <;> (show n8 0≤_;rw [n8_zero];omega)
theorem wLo_all {P:Pr→Prop} (h0:P (0,0)) (h:∀ k,P (lo.getD k (0,0))) (k:Nat):P ((wLo n lo T).getD k (0,0)):=by
 rw [wLo_get];split
 ·split
  ·exact h0
  ·exact h k
 ·exact h0
theorem wHi_all {P:Pr→Prop} (h0:P (0,0)) (h:∀ k,P (hi.getD k (0,0))) (k:Nat):P ((wHi n hi T).getD k (0,0)):=by
 rw [wHi_get];split
 ·split
  ·exact h0
  ·exact h k
 ·exact h0
theorem WtIn.under (h:WtIn n lo hi) (T:List Int):WtIn n (wLo n lo T) (wHi n hi T) where
 ll:=wLo_len
 lh:=wHi_len
 pl:=wLo_all Lp.zero h.pl
 ph:=wHi_all Lp.zero h.ph
 l0:=by
  rw [wLo_get,if_pos (by omega)];split
  ·exact S0.zero
  ·exact h.l0
 h0:=by
  rw [wHi_get,if_pos (by omega)];split
  ·exact S0.zero
  ·exact h.h0
 sl:=wLo_all Sp.zero h.sl
 sh:=wHi_all Sp.zero h.sh
theorem sumB_under (T:List Int) (m:Nat):sumB (wLo n lo T) m+sumB (wHi n hi T) m≤sumB lo m+sumB hi m:=by
 refine Nat.add_le_add (sumB_le (fun k=>?_) m) (sumB_le (fun k=>?_) m)
 ·rw [wLo_get];split
  ·split
   ·exact pbits_min _
   ·exact zqn _
  ·exact pbits_min _
 ·rw [wHi_get];split
  ·split
   ·exact pbits_min _
   ·exact zqn _
  ·exact pbits_min _
theorem WtIn.okT (h:WtIn n lo hi) (hb:¬ 16384<sumB lo n+sumB hi n) (T:List Int):WtOk n (wLo n lo T) (wHi n hi T) :=
 (h.under T).ok (by have:=sumB_under (n:=n) (lo:=lo) (hi:=hi) T n;omega)
theorem Agr.symm {α:Type} {R S:Rg α} {v:Nat} (h:Agr R S v):Agr S R v:=⟨h.zero.symm,h.one.symm,h.add.symm,h.mul.symm,fun l hl=>(h.lit l hl).symm,fun u hu=>(h.both u hu).symm⟩
end
end Cs
end
section
open Go Go.RowKit Cs
namespace Cs
open Go.Proofs.YtmhllppjcilllaaGreatDoor
def termB (n:Int) (t:List Int):Bool:=t.all (fun x=>litOk x n) && !decide (∃ x∈t,-x∈t)
theorem litOk_range {l:Int} {n:Int} {k:Nat} (h:litOk l n=true) (hn:n=(k:Int)) (hk:k≤128):(1≤l∧l≤(k:Int))∨(l≤-1∧-l≤(k:Int)):=by
 unfold litOk at h;simp at h;have h0:=h.1;have h1:=h.2;unfold litVar at h0 h1;by_cases c1:1≤l∧l≤128
 ·rw [if_pos c1] at h1;omega
 ·rw [if_neg c1] at h0 h1;by_cases c2:l≤-1∧-128≤l
  ·rw [if_pos c2] at h1;omega
  ·rw [if_neg c2] at h0;exact absurd rfl h0
theorem termB_lits {n:Int} {k:Nat} {t:List Int} (h:termB n t=true) (hn:n=(k:Int)) (hk:k≤128):∀ l∈t,(1≤l∧l≤(k:Int))∨(l≤-1∧-l≤(k:Int)):=fun l hl=>by
 unfold termB at h;rw [Bool.and_eq_true,List.all_eq_true] at h;exact litOk_range (h.1 l hl) hn hk
theorem zz_eq {n:Nat} {lo hi:List Pr} (hl:lo.length=n+1) (hh:hi.length=n+1):∀ (k:Nat) (t:List Int),t.length=k→(∀ l∈t,l≠0)→zlo t lo=wLo n lo t∧zhi t hi=wHi n hi t
 | 0,t,e,_=>by
   obtain rfl:t=[]:=List.eq_nil_of_length_eq_zero e;rw [wLo_nil hl,wHi_nil hh];exact ⟨rfl,rfl⟩
 | k+1,t,e,h=>by
   rcases List.eq_nil_or_concat t with rfl | ⟨S,l,rfl⟩
   ·simp at e
   ·rw [List.concat_eq_append] at e h ⊢;obtain ⟨i1,i2⟩:=zz_eq hl hh k S (by simpa using e) (fun x hx=>h x (by simp [hx]));rw [zlo_snoc,zhi_snoc,i1,i2];have h0:=h l (by simp);rcases Int.lt_or_le 0 l with hp | hp
    ·rw [if_pos hp,if_pos hp,wLo_snoc hp,wHi_same hp,show l.toNat=l.natAbs by omega];exact ⟨rfl,rfl⟩
    ·have hm:l<0:=by omega
     rw [if_neg (by omega),if_neg (by omega),wHi_snoc hm,wLo_same hm,show (-l).toNat=l.natAbs by omega];exact ⟨rfl,rfl⟩
theorem sum_sp {N:Nt} {n:Nat} {lo hi:List Pr} (ok:WtOk n lo hi) (hv:vld N=true) (hd:dcmp N=true) (hs:shortB N=true) (hn:N.n=(n:Int)):Sp ((RP n lo hi).sum N):=by
 obtain ⟨hn0,hn1,hl0,hl1⟩:=vld_bounds hv
 have:=p_wide ok hv hd hs hn N.l.length (zqn _) (N.l.length-1) (by omega) (allTo N.n) (fun x hx=>by
  have:=own_sub hv N.l.length (N.l.length-1) (by omega) (by omega) x hx;rw [allTo_bit]
  exact decide_eq_true (by omega)) 128
 rw [List.take_length,List.take_of_length_le (vl_length _)] at this;exact this
def shareR (N:Nt) (n:Nat) (lo hi:List Pr) (t:List Int):Pr×Int :=
 if termB N.n t=true then (if wfit N n lo hi=0 then (if ((RP n lo hi).sum N).1=0 then ((0,0),3) else (pq (qp ((RP n (wLo n lo t) (wHi n hi t)).sum N) / qp ((RP n lo hi).sum N)),0)) else ((0,0),wfit N n lo hi)) else ((0,0),1)
theorem RW_split {N:Nt} {n:Nat} (hv:vld N=true) (hd:dcmp N=true) (hn:N.n=(n:Int)) (W Wl Wh:Int→Rat) (v:Nat) (h1:1≤v) (h2:v≤n)
  (hl:∀ l,l≠(v:Int)→Wl l=W l) (hl0:Wl (v:Int)=0) (hh:∀ l,l≠-(v:Int)→Wh l=W l) (hh0:Wh (-(v:Int))=0):(RW W).sum N=(RW Wl).sum N+(RW Wh).sum N :=
 sum_parts CQ hv hd W Wl Wh n hn v h1 h2 hl hl0 hh hh0
theorem part_add {N:Nt} {n:Nat} {lo hi:List Pr} (hW:WtIn n lo hi) (hb:¬ 16384<sumB lo n+sumB hi n) (hv:vld N=true) (hd:dcmp N=true) (hn:N.n=(n:Int)) (v:Nat) (h1:1≤v) (h2:v≤n) :
  qp ((RP n lo hi).sum N)=qp ((RP n (wLo n lo [(v:Int)]) (wHi n hi [(v:Int)])).sum N)+qp ((RP n (wLo n lo [-(v:Int)]) (wHi n hi [-(v:Int)])).sum N):=by
 rw [RP_sum (hW.ok hb),RP_sum (hW.okT hb _),RP_sum (hW.okT hb _),Rat.add_comm]
 have hvn:v<n+1:=by omega
 have ev:((v:Nat):Int).natAbs=v:=by omega
 have ev2:(-((v:Nat):Int)).natAbs=v:=by omega
 refine RW_split hv hd hn _ _ _ v h1 h2 (fun l hl=>?_) ?_ (fun l hl=>?_) ?_
 ·show qp (plit n _ _ l)=qp (plit n _ _ l)
  congr 1
  unfold plit;by_cases hr:1≤l.natAbs∧l.natAbs≤n
  ·have hln:l.natAbs<n+1:=by omega
   rw [if_pos hr,if_pos hr];by_cases hneg:l<0
   ·rw [if_pos hneg,if_pos hneg,wLo_get,if_pos hln,if_neg (by rw [List.mem_singleton];omega)]
   ·rw [if_neg hneg,if_neg hneg,wHi_get,if_pos hln,if_neg (by rw [List.mem_singleton];omega)]
  ·rw [if_neg hr,if_neg hr]
 ·show qp (plit n _ _ (v:Int))=0;unfold plit;rw [ev,if_pos ⟨h1,h2⟩,if_neg (by omega),wHi_get,if_pos hvn,if_pos (by rw [List.mem_singleton]),qp_zero]
 ·show qp (plit n _ _ l)=qp (plit n _ _ l)
  congr 1
  unfold plit;by_cases hr:1≤l.natAbs∧l.natAbs≤n
  ·have hln:l.natAbs<n+1:=by omega
   rw [if_pos hr,if_pos hr];by_cases hneg:l<0
   ·rw [if_pos hneg,if_pos hneg,wLo_get,if_pos hln,if_neg (by rw [List.mem_singleton];omega)]
   ·rw [if_neg hneg,if_neg hneg,wHi_get,if_pos hln,if_neg (by rw [List.mem_singleton];omega)]
  ·rw [if_neg hr,if_neg hr]
 ·show qp (plit n _ _ (-(v:Int)))=0;unfold plit;rw [ev2,if_pos ⟨h1,h2⟩,if_pos (by omega),wLo_get,if_pos hvn,if_pos (by rw [List.mem_singleton]),qp_zero]
end Cs
end
section
namespace Go.Proofs.YtmhllppjcilllaaGreatDoor
open Go.Shelf
def sortL_ren:Go.Shelf.Ren:=⟨fun | 6=>151 | 15=>173 | 14=>172 | 28=>156 | 29=>184 | 20=>176 | 21=>177 | 22=>178 | 23=>179 | 24=>180 | 25=>181 | 26=>182 | 27=>183 | 46=>185 | 47=>186 | 48=>187 | 49=>188 | 50=>189 | 57=>190 | n=>n,fun | 22=>26 | 24=>3 | 25=>195 | 3=>3 | 39=>61 | 0=>0 | 53=>124 | 55=>64 | 4=>4 | 46=>217 | 45=>216 | 50=>221 | 5=>5 | 9=>9 | 66=>223 | 70=>227 | 76=>229 | 77=>230 | n=>n,fun | n=>n⟩
theorem sortL:Go.Proofs.SlLaysF.n6 Tryz.prog sortL_ren:={
 mixed:=by kernel_rfl
 f6:=⟨Tryz.f151.name,by decide, Tryz.func151.trans (congrArg some (by kernel_rfl))⟩
 f14:=⟨Tryz.f172.name,by decide, Tryz.func172.trans (congrArg some (by kernel_rfl))⟩
 f15:=Tryz.func173.trans (congrArg some (by kernel_rfl))
 f20:=⟨Tryz.f176.name,by decide, Tryz.func176.trans (congrArg some (by kernel_rfl))⟩
 f21:=⟨Tryz.f177.name,by decide, Tryz.func177.trans (congrArg some (by kernel_rfl))⟩
 f22:=⟨Tryz.f178.name,by decide, Tryz.func178.trans (congrArg some (by kernel_rfl))⟩
 f23:=⟨Tryz.f179.name,by decide, Tryz.func179.trans (congrArg some (by kernel_rfl))⟩
 f24:=⟨Tryz.f180.name,by decide, Tryz.func180.trans (congrArg some (by kernel_rfl))⟩
 f25:=⟨Tryz.f181.name,by decide, Tryz.func181.trans (congrArg some (by kernel_rfl))⟩
 f26:=⟨Tryz.f182.name,by decide, Tryz.func182.trans (congrArg some (by kernel_rfl))⟩
 f27:=⟨Tryz.f183.name,by decide, Tryz.func183.trans (congrArg some (by kernel_rfl))⟩
 f28:=Tryz.func156.trans (congrArg some (by kernel_rfl))
 f29:=Tryz.func184.trans (congrArg some (by kernel_rfl))
 f46:=⟨Tryz.f185.name,by decide, Tryz.func185.trans (congrArg some (by kernel_rfl))⟩
 f47:=Tryz.func186.trans (congrArg some (by kernel_rfl))
 f48:=Tryz.func187.trans (congrArg some (by kernel_rfl))
 f49:=⟨Tryz.f188.name,by decide, Tryz.func188.trans (congrArg some (by kernel_rfl))⟩
 f50:=⟨Tryz.f189.name,by decide, Tryz.func189.trans (congrArg some (by kernel_rfl))⟩
 f57:=⟨Tryz.f190.name,by decide, Tryz.func190.trans (congrArg some (by kernel_rfl))⟩
 t0:=Tryz.underlying0
 a0:=Tryz.isAgg0
 z0:=Tryz.sizeOf0
 v0:=Tryz.zeroValue0
 t3:=Tryz.underlying3
 a3:=Tryz.isAgg3
 z3:=Tryz.sizeOf3
 v3:=Tryz.zeroValue3
 t4:=Tryz.underlying4
 a4:=Tryz.isAgg4
 z4:=Tryz.sizeOf4
 v4:=Tryz.zeroValue4
 t5:=Tryz.underlying5
 a5:=Tryz.isAgg5
 z5:=Tryz.sizeOf5
 v5:=Tryz.zeroValue5
 t9:=Tryz.underlying9
 a9:=Tryz.isAgg9
 z9:=Tryz.sizeOf9
 v9:=Tryz.zeroValue9
 t22:=Tryz.underlying26
 a22:=Tryz.isAgg26
 z22:=Tryz.sizeOf26
 v22:=Tryz.zeroValue26
 a24:=Tryz.isAgg3
 z24:=Tryz.sizeOf3
 t25:=Tryz.underlying195
 a25:=Tryz.isAgg195
 z25:=Tryz.sizeOf195
 v25:=Tryz.zeroValue195
 t39:=Tryz.underlying61
 a39:=Tryz.isAgg61
 z39:=Tryz.sizeOf61
 v39:=Tryz.zeroValue61
 t45:=Tryz.underlying216
 a45:=Tryz.isAgg216
 z45:=Tryz.sizeOf216
 v45:=Tryz.zeroValue216
 t46:=Tryz.underlying217
 a46:=Tryz.isAgg217
 z46:=Tryz.sizeOf217
 v46:=Tryz.zeroValue217
 t50:=Tryz.underlying221
 a50:=Tryz.isAgg221
 z50:=Tryz.sizeOf221
 v50:=Tryz.zeroValue221
 t53:=Tryz.underlying124
 a53:=Tryz.isAgg124
 z53:=Tryz.sizeOf124
 v53:=Tryz.zeroValue124
 t55:=Tryz.underlying64
 a55:=Tryz.isAgg64
 z55:=Tryz.sizeOf64
 v55:=Tryz.zeroValue64
 t66:=Tryz.underlying223
 a66:=Tryz.isAgg223
 z66:=Tryz.sizeOf223
 v66:=Tryz.zeroValue223
 t70:=Tryz.underlying227
 a70:=Tryz.isAgg227
 z70:=Tryz.sizeOf227
 v70:=Tryz.zeroValue227
 t76:=Tryz.underlying229
 a76:=Tryz.isAgg229
 z76:=Tryz.sizeOf229
 v76:=Tryz.zeroValue229
 t77:=Tryz.underlying230
 a77:=Tryz.isAgg230
 z77:=Tryz.sizeOf230
 v77:=Tryz.zeroValue230 }
def compL_ren:Go.Shelf.Ren:=⟨fun | 43=>154 | n=>n,fun | 22=>26 | 23=>3 | 3=>3 | 4=>4 | 0=>0 | n=>n,fun | n=>n⟩
theorem compL:Go.Proofs.SlLaysE.n43 Tryz.prog compL_ren:={
 mixed:=by kernel_rfl
 f43:=⟨Tryz.f154.name,by decide, Tryz.func154.trans (congrArg some (by kernel_rfl))⟩
 t0:=Tryz.underlying0
 a0:=Tryz.isAgg0
 z0:=Tryz.sizeOf0
 v0:=Tryz.zeroValue0
 t3:=Tryz.underlying3
 a3:=Tryz.isAgg3
 z3:=Tryz.sizeOf3
 v3:=Tryz.zeroValue3
 t4:=Tryz.underlying4
 a4:=Tryz.isAgg4
 z4:=Tryz.sizeOf4
 v4:=Tryz.zeroValue4
 t22:=Tryz.underlying26
 a22:=Tryz.isAgg26
 z22:=Tryz.sizeOf26
 v22:=Tryz.zeroValue26
 a23:=Tryz.isAgg3
 z23:=Tryz.sizeOf3 }
def contL_ren:Go.Shelf.Ren:=⟨fun | 8=>94 | 6=>139 | n=>n,fun | 22=>26 | 23=>3 | 25=>152 | 4=>4 | 3=>3 | 0=>0 | n=>n,fun | n=>n⟩
theorem contL:Go.Proofs.SlLaysH.n8 Tryz.prog contL_ren:={
 mixed:=by kernel_rfl
 f6:=⟨Tryz.f139.name,by decide, Tryz.func139.trans (congrArg some (by kernel_rfl))⟩
 f8:=⟨Tryz.f94.name,by decide, Tryz.func94.trans (congrArg some (by kernel_rfl))⟩
 t0:=Tryz.underlying0
 a0:=Tryz.isAgg0
 z0:=Tryz.sizeOf0
 v0:=Tryz.zeroValue0
 t3:=Tryz.underlying3
 a3:=Tryz.isAgg3
 z3:=Tryz.sizeOf3
 v3:=Tryz.zeroValue3
 t4:=Tryz.underlying4
 a4:=Tryz.isAgg4
 z4:=Tryz.sizeOf4
 v4:=Tryz.zeroValue4
 t22:=Tryz.underlying26
 a22:=Tryz.isAgg26
 z22:=Tryz.sizeOf26
 v22:=Tryz.zeroValue26
 a23:=Tryz.isAgg3
 z23:=Tryz.sizeOf3
 t25:=Tryz.underlying152
 a25:=Tryz.isAgg152
 z25:=Tryz.sizeOf152
 v25:=Tryz.zeroValue152 }
end Go.Proofs.YtmhllppjcilllaaGreatDoor
end
