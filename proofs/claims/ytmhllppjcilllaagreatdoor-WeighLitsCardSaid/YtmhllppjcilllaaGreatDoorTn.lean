import Derived.Test.YtmhllppjcilllaaGreatDoorQ1
import Derived.Test.YtmhllppjcilllaaGreatDoorZa
import Derived.Test.YtmhllppjcilllaaGreatDoorDt
import Derived.Test.YtmhllppjcilllaaGreatDoorDv
import Derived.Test.YtmhllppjcilllaaGreatDoorChecked
import Derived.Shelf.SlSortCmp.NoneTotal
import Derived.Shelf.SlicesE.Compact
import Derived.Shelf.SlicesE.IndexFunc
import Derived.Sort.Statements
import Derived.Lib.SlicesCompact
import Derived.Test.YtmhllppjcilllaaGreatDoorV1
import Derived.Test.YtmhllppjcilllaaGreatDoorBq
set_option linter.unusedSimpArgs false
set_option linter.unusedVariables false
section
open Go Go.RowKit Cs
namespace Cs
section
variable {α:Type} {R:Rg α}
theorem zeE (C:CR R) (W:Int→α) (s j:Nat) (hj:(if s.testBit j then W ((j:Int)+1) else W (-((j:Int)+1)))=R.zero):∀ k,j<k→R.term W k s=R.zero
 | 0,h=>absurd h (by omega)
 | k+1,h=>by
   show R.mul (R.term W k s) _=_;rcases Nat.lt_or_ge j k with h1 | h1
   ·rw [zeE C W s j hj k h1,C.zmul]
   ·obtain rfl:j=k:=by omega
    rw [hj,C.mulc,C.zmul]
theorem zeF (W V:Int→α) (s:Nat):∀ k,(∀ i,i<k→(if s.testBit i then W ((i:Int)+1) else W (-((i:Int)+1)))=(if s.testBit i then V ((i:Int)+1) else V (-((i:Int)+1))))→R.term W k s=R.term V k s
 | 0,_=>rfl
 | k+1,h=>by
   show R.mul (R.term W k s) _=R.mul (R.term V k s) _;rw [zeF W V s k (fun i hi=>h i (by omega)),h k (by omega)]
theorem xx (C:CR R) {N:Nt} (hv:zG N=true) (hd:qt N=true) (W Wl Wh:Int→α) (n:Nat) (hn:N.n=(n:Int)) (v:Nat) (h1:1≤v) (h2:v≤n)
  (hl:∀ l,l≠(v:Int)→Wl l=W l) (hl0:Wl (v:Int)=R.zero) (hh:∀ l,l≠-(v:Int)→Wh l=W l) (hh0:Wh (-(v:Int))=R.zero) :
  (R.wit W).sum N=R.add ((R.wit Wl).sum N) ((R.wit Wh).sum N):=by
 rw [jH C hv hd W n hn,jH C hv hd Wl n hn,jH C hv hd Wh n hn,← zeH C];refine zcc _ _ _ fun s _=>?_;have ev:((v-1:Nat):Int)+1=(v:Int):=by omega
 cases hb:s.testBit (v-1)
 ·have e1:R.term Wh n s=R.zero:=zeE C Wh s (v-1) (by rw [hb,ev];exact hh0) n (by omega);have e2:R.term Wl n s=R.term W n s:=zeF Wl W s n fun i hi=>by
   split
   ·rename_i h;refine hl _ fun e=>?_;have:i=v-1:=by omega
    rw [this,hb] at h;cases h
   ·exact hl _ (by omega)
  rw [e1,e2,C.zmul,C.addc,C.zadd]
 ·have e1:R.term Wl n s=R.zero:=zeE C Wl s (v-1) (by rw [hb,ev];exact hl0) n (by omega);have e2:R.term Wh n s=R.term W n s:=zeF Wh W s n fun i hi=>by
   split
   ·exact hh _ (by omega)
   ·rename_i h;refine hh _ fun e=>?_;have:i=v-1:=by omega
    rw [this,hb] at h;exact h rfl
  rw [e1,e2,C.zmul,C.zadd]
end
end Cs
end
section
open Go Go.RowKit Cs Go.Proofs.YtmhllppjcilllaaGreatDoor
namespace Cs
structure Agr {α:Type} (R S:Rg α) (v:Nat):Prop where
 zero:R.zero=S.zero
 one:R.one=S.one
 add:R.add=S.add
 mul:R.mul=S.mul
 lit:∀ l:Int,l.natAbs≠v→R.lit l=S.lit l
 both:∀ u:Int,u.natAbs≠v→R.both u=S.both u
end Cs
namespace Cs
def nlit (n:Nat) (lo hi:List Nat) (l:Int):Nat:=if 1≤l.natAbs∧l.natAbs≤n then (if l<0 then lo.getD l.natAbs 0 else hi.getD l.natAbs 0) else 0
def RL (n:Nat) (lo hi:List Nat):Rg Nat:=⟨0,1,(·+·),(·*·),nlit n lo hi,fun v=>nlit n lo hi (-v)+nlit n lo hi v⟩
end Cs
end
section
open Go Go.RowKit Cs Go.Proofs.YtmhllppjcilllaaGreatDoor
namespace Cs
def z6 (n:Nat) (lo:List Pr) (T:List Int):List Pr:=(List.range (n+1)).map fun (v:Nat)=>if (v:Int)∈T then (0,0) else lo.getD v (0,0)
def z8 (n:Nat) (hi:List Pr) (T:List Int):List Pr:=(List.range (n+1)).map fun (v:Nat)=>if -(v:Int)∈T then (0,0) else hi.getD v (0,0)
theorem zdq {α:Type} (f:Nat→α) (z:α) (m v:Nat):((List.range m).map f).getD v z=if v<m then f v else z:=by
 rw [List.getD_eq_getElem?_getD];by_cases h:v<m
 ·rw [if_pos h,List.getElem?_map,List.getElem?_range h];rfl
 ·rw [if_neg h,List.getElem?_eq_none (by simp;omega)];rfl
theorem gi {α:Type} (f g:Nat→α) (m v:Nat) (x:α) (h:∀ u,u<m→u≠v→f u=g u) (hx:g v=x):((List.range m).map f).set v x=(List.range m).map g:=by
 refine List.ext_getElem? fun i=>?_;rw [List.getElem?_set,List.getElem?_map,List.getElem?_map];by_cases hi:i<m
 ·rw [List.getElem?_range hi];by_cases e:v=i
  ·subst e;rw [if_pos rfl,if_pos (by simp;exact hi),← hx];rfl
  ·rw [if_neg e];show some (f i)=some (g i);rw [h i hi (fun e2=>e e2.symm)]
 ·rw [List.getElem?_eq_none (by simp;omega)];by_cases e:v=i
  ·subst e;rw [if_pos rfl,if_neg (by simp;omega)];rfl
  ·rw [if_neg e];rfl
section
variable {n:Nat} {lo hi:List Pr} {T:List Int}
theorem zdQ (v:Nat):(z6 n lo T).getD v (0,0)=if v<n+1 then (if (v:Int)∈T then (0,0) else lo.getD v (0,0)) else (0,0):=zdq _ _ _ _
theorem zdR (v:Nat):(z8 n hi T).getD v (0,0)=if v<n+1 then (if -(v:Int)∈T then (0,0) else hi.getD v (0,0)) else (0,0):=zdq _ _ _ _
theorem jW:(z6 n lo T).length=n+1:=by simp [z6]
theorem jY:(z8 n hi T).length=n+1:=by simp [z8]
theorem zhQ (h:lo.length=n+1):z6 n lo []=lo:=by
 refine List.ext_getElem? fun i=>?_;unfold z6;rw [List.getElem?_map];by_cases hi:i<n+1
 ·rw [List.getElem?_range hi];show some (if (i:Int)∈[] then (0,0) else lo.getD i (0,0))=_;rw [if_neg (by simp),List.getD_eq_getElem?_getD,List.getElem?_eq_getElem (by omega)];rfl
 ·rw [List.getElem?_eq_none (by simp;omega),List.getElem?_eq_none (by omega)];rfl
theorem jX (h:hi.length=n+1):z8 n hi []=hi:=zhQ h
theorem zgx {T:List Int} {x l:Int}:x∈T++[l]↔x∈T∨x=l:=by simp
theorem ze1 {α:Type} {T:List Int} {x l:Int} (h:x≠l) (a b:α):(if x∈T++[l] then a else b)=if x∈T then a else b:=by
 have:x∈T++[l]↔x∈T:=by rw [zgx];exact ⟨fun h2=>h2.resolve_right h,Or.inl⟩
 simp only [this]
theorem ziC {l:Int} (hl:0<l):z6 n lo (T++[l])=(z6 n lo T).set l.natAbs (0,0) :=
 (gi _ _ _ _ _ (fun u hu hne=>(ze1 (by omega) _ _).symm) (if_pos (by rw [zgx];exact Or.inr (by omega)))).symm
theorem ziF {l:Int} (hl:0<l):z8 n hi (T++[l])=z8 n hi T:=List.map_congr_left fun u hu=>ze1 (by omega) _ _
theorem ziD {l:Int} (hl:l<0):z6 n lo (T++[l])=z6 n lo T:=List.map_congr_left fun u hu=>ze1 (by omega) _ _
theorem ziE {l:Int} (hl:l<0):z8 n hi (T++[l])=(z8 n hi T).set l.natAbs (0,0) :=
 (gi _ _ _ _ _ (fun u hu hne=>(ze1 (by omega) _ _).symm) (if_pos (by rw [zgx];exact Or.inr (by omega)))).symm
theorem zhY {a b:List Pr} (h:∀ k,yR (a.getD k (0,0))≤yR (b.getD k (0,0))):∀ m,zK a m≤zK b m
 | 0=>zu _
 | m+1=>Nat.add_le_add (zhY h m) (h (m+1))
theorem zdD (p:Pr):yR (0,0)≤yR p:=by
 have h:yR (0,0)=1:=by decide +kernel
 rw [h];exact xT p
theorem S0.zero:S0 (0,0):=by constructor <;> (show n8 0≤_;rw [oW];omega)
theorem zhR {P:Pr→Prop} (h0:P (0,0)) (h:∀ k,P (lo.getD k (0,0))) (k:Nat):P ((z6 n lo T).getD k (0,0)):=by
 rw [zdQ];split
 ·split
  ·exact h0
  ·exact h k
 ·exact h0
theorem zhS {P:Pr→Prop} (h0:P (0,0)) (h:∀ k,P (hi.getD k (0,0))) (k:Nat):P ((z8 n hi T).getD k (0,0)):=by
 rw [zdR];split
 ·split
  ·exact h0
  ·exact h k
 ·exact h0
theorem WtIn.under (h:WtIn n lo hi) (T:List Int):WtIn n (z6 n lo T) (z8 n hi T) where
 ll:=jW
 lh:=jY
 pl:=zhR Lp.zero h.pl
 ph:=zhS Lp.zero h.ph
 l0:=by
  rw [zdQ,if_pos (by omega)];split
  ·exact S0.zero
  ·exact h.l0
 h0:=by
  rw [zdR,if_pos (by omega)];split
  ·exact S0.zero
  ·exact h.h0
 sl:=zhR Sp.zero h.sl
 sh:=zhS Sp.zero h.sh
theorem zjS (T:List Int) (m:Nat):zK (z6 n lo T) m+zK (z8 n hi T) m≤zK lo m+zK hi m:=by
 refine Nat.add_le_add (zhY (fun k=>?_) m) (zhY (fun k=>?_) m)
 ·rw [zdQ];split
  ·split
   ·exact zdD _
   ·exact zu _
  ·exact zdD _
 ·rw [zdR];split
  ·split
   ·exact zdD _
   ·exact zu _
  ·exact zdD _
theorem WtIn.okT (h:WtIn n lo hi) (hb:¬ 16384<zK lo n+zK hi n) (T:List Int):WtOk n (z6 n lo T) (z8 n hi T) :=
 (h.under T).ok (by have:=zjS (n:=n) (lo:=lo) (hi:=hi) T n;omega)
theorem Agr.symm {α:Type} {R S:Rg α} {v:Nat} (h:Agr R S v):Agr S R v:=⟨h.zero.symm,h.one.symm,h.add.symm,h.mul.symm,fun l hl=>(h.lit l hl).symm,fun u hu=>(h.both u hu).symm⟩
end
end Cs
end
section
open Go Go.RowKit Cs
namespace Cs
open Go.Proofs.YtmhllppjcilllaaGreatDoor
def yj (n:Int) (t:List Int):Bool:=t.all (fun x=>qh x n) && !decide (∃ x∈t,-x∈t)
theorem zc2 {l:Int} {n:Int} {k:Nat} (h:qh l n=true) (hn:n=(k:Int)) (hk:k≤128):(1≤l∧l≤(k:Int))∨(l≤-1∧-l≤(k:Int)):=by
 unfold qh at h;simp at h;have h0:=h.1;have h1:=h.2;unfold zQ at h0 h1;by_cases c1:1≤l∧l≤128
 ·rw [if_pos c1] at h1;omega
 ·rw [if_neg c1] at h0 h1;by_cases c2:l≤-1∧-128≤l
  ·rw [if_pos c2] at h1;omega
  ·rw [if_neg c2] at h0;exact absurd rfl h0
theorem zjQ {n:Int} {k:Nat} {t:List Int} (h:yj n t=true) (hn:n=(k:Int)) (hk:k≤128):∀ l∈t,(1≤l∧l≤(k:Int))∨(l≤-1∧-l≤(k:Int)):=fun l hl=>by
 unfold yj at h;rw [Bool.and_eq_true,List.all_eq_true] at h;exact zc2 (h.1 l hl) hn hk
theorem pW {n:Nat} {lo hi:List Pr} (hl:lo.length=n+1) (hh:hi.length=n+1):∀ (k:Nat) (t:List Int),t.length=k→(∀ l∈t,l≠0)→oL t lo=z6 n lo t∧oO t hi=z8 n hi t
 | 0,t,e,_=>by
   obtain rfl:t=[]:=List.eq_nil_of_length_eq_zero e;rw [zhQ hl,jX hh];exact ⟨rfl,rfl⟩
 | k+1,t,e,h=>by
   rcases List.eq_nil_or_concat t with rfl | ⟨S,l,rfl⟩
   ·simp at e
   ·rw [List.concat_eq_append] at e h ⊢;obtain ⟨i1,i2⟩:=pW hl hh k S (by simpa using e) (fun x hx=>h x (by simp [hx]));rw [zi9,ziA,i1,i2];have h0:=h l (by simp);rcases Int.lt_or_le 0 l with hp | hp
    ·rw [if_pos hp,if_pos hp,ziC hp,ziF hp,show l.toNat=l.natAbs by omega];exact ⟨rfl,rfl⟩
    ·have hm:l<0:=by omega
     rw [if_neg (by omega),if_neg (by omega),ziE hm,ziD hm,show (-l).toNat=l.natAbs by omega];exact ⟨rfl,rfl⟩
theorem zeG {N:Nt} {n:Nat} {lo hi:List Pr} (ok:WtOk n lo hi) (hv:zG N=true) (hd:qt N=true) (hs:qJ N=true) (hn:N.n=(n:Int)):Sp ((RP n lo hi).sum N):=by
 obtain ⟨hn0,hn1,hl0,hl1⟩:=qN hv;have:=p_wide ok hv hd hs hn N.l.length (zu _) (N.l.length-1) (by omega) (qo N.n) (fun x hx=>by
  have:=zds hv N.l.length (N.l.length-1) (by omega) (by omega) x hx;rw [p6];exact decide_eq_true (by omega)) 128
 rw [List.take_length,List.take_of_length_le (zct _)] at this;exact this
def yE (N:Nt) (n:Nat) (lo hi:List Pr) (t:List Int):Pr×Int :=
 if yj N.n t=true then (if yc N n lo hi=0 then (if ((RP n lo hi).sum N).1=0 then ((0,0),3) else (pq (qp ((RP n (z6 n lo t) (z8 n hi t)).sum N) / qp ((RP n lo hi).sum N)),0)) else ((0,0),yc N n lo hi)) else ((0,0),1)
theorem RW_split {N:Nt} {n:Nat} (hv:zG N=true) (hd:qt N=true) (hn:N.n=(n:Int)) (W Wl Wh:Int→Rat) (v:Nat) (h1:1≤v) (h2:v≤n)
  (hl:∀ l,l≠(v:Int)→Wl l=W l) (hl0:Wl (v:Int)=0) (hh:∀ l,l≠-(v:Int)→Wh l=W l) (hh0:Wh (-(v:Int))=0):(RW W).sum N=(RW Wl).sum N+(RW Wh).sum N :=
 xx CQ hv hd W Wl Wh n hn v h1 h2 hl hl0 hh hh0
theorem zgs {N:Nt} {n:Nat} {lo hi:List Pr} (hW:WtIn n lo hi) (hb:¬ 16384<zK lo n+zK hi n) (hv:zG N=true) (hd:qt N=true) (hn:N.n=(n:Int)) (v:Nat) (h1:1≤v) (h2:v≤n) :
  qp ((RP n lo hi).sum N)=qp ((RP n (z6 n lo [(v:Int)]) (z8 n hi [(v:Int)])).sum N)+qp ((RP n (z6 n lo [-(v:Int)]) (z8 n hi [-(v:Int)])).sum N):=by
 rw [zhM (hW.ok hb),zhM (hW.okT hb _),zhM (hW.okT hb _),Rat.add_comm];have hvn:v<n+1:=by omega
 have ev:((v:Nat):Int).natAbs=v:=by omega
 have ev2:(-((v:Nat):Int)).natAbs=v:=by omega
 refine RW_split hv hd hn _ _ _ v h1 h2 (fun l hl=>?_) ?_ (fun l hl=>?_) ?_
 ·show qp (qC n _ _ l)=qp (qC n _ _ l);congr 1;unfold qC;by_cases hr:1≤l.natAbs∧l.natAbs≤n
  ·have hln:l.natAbs<n+1:=by omega
   rw [if_pos hr,if_pos hr];by_cases hneg:l<0
   ·rw [if_pos hneg,if_pos hneg,zdQ,if_pos hln,if_neg (by rw [List.mem_singleton];omega)]
   ·rw [if_neg hneg,if_neg hneg,zdR,if_pos hln,if_neg (by rw [List.mem_singleton];omega)]
  ·rw [if_neg hr,if_neg hr]
 ·show qp (qC n _ _ (v:Int))=0;unfold qC;rw [ev,if_pos ⟨h1,h2⟩,if_neg (by omega),zdR,if_pos hvn,if_pos (by rw [List.mem_singleton]),qp_zero]
 ·show qp (qC n _ _ l)=qp (qC n _ _ l);congr 1;unfold qC;by_cases hr:1≤l.natAbs∧l.natAbs≤n
  ·have hln:l.natAbs<n+1:=by omega
   rw [if_pos hr,if_pos hr];by_cases hneg:l<0
   ·rw [if_pos hneg,if_pos hneg,zdQ,if_pos hln,if_neg (by rw [List.mem_singleton];omega)]
   ·rw [if_neg hneg,if_neg hneg,zdR,if_pos hln,if_neg (by rw [List.mem_singleton];omega)]
  ·rw [if_neg hr,if_neg hr]
 ·show qp (qC n _ _ (-(v:Int)))=0;unfold qC;rw [ev2,if_pos ⟨h1,h2⟩,if_pos (by omega),zdQ,if_pos hvn,if_pos (by rw [List.mem_singleton]),qp_zero]
end Cs
end
section
namespace Go.Proofs.YtmhllppjcilllaaGreatDoor
open Go.Shelf
def xA:Go.Shelf.Ren:=⟨fun | 6=>151 | 15=>173 | 14=>172 | 28=>156 | 29=>184 | 20=>176 | 21=>177 | 22=>178 | 23=>179 | 24=>180 | 25=>181 | 26=>182 | 27=>183 | 46=>185 | 47=>186 | 48=>187 | 49=>188 | 50=>189 | 57=>190 | n=>n,fun | 22=>26 | 24=>3 | 25=>195 | 3=>3 | 39=>61 | 0=>0 | 53=>124 | 55=>64 | 4=>4 | 46=>217 | 45=>216 | 50=>221 | 5=>5 | 9=>9 | 66=>223 | 70=>227 | 76=>229 | 77=>230 | n=>n,fun | n=>n⟩
theorem sortL:Go.Proofs.SlLaysF.n6 Tryz.prog xA:={
 mixed:=by kernel_rfl
 f6:=⟨Tryz.f151.name,by decide, Tryz.func151.trans (congrArg some (by kernel_rfl))⟩
 f14:=⟨Tryz.f172.name,by decide, Tryz.func172.trans (congrArg some (by kernel_rfl))⟩
 f15:=Tryz.func173.trans (congrArg some (by kernel_rfl))
 f20:=⟨Tryz.f176.name,by decide, Tryz.func176.trans (congrArg some (by kernel_rfl))⟩
 f21:=⟨Tryz.f177.name,by decide, Tryz.func177.trans (congrArg some (by kernel_rfl))⟩
 f22:=⟨Tryz.f178.name,by decide, Tryz.func178.trans (congrArg some (by kernel_rfl))⟩
 f23:=⟨Tryz.f179.name,by decide, Tryz.func179.trans (congrArg some (by kernel_rfl))⟩
 f24:=⟨Tryz.f180.name,by decide, Tryz.func180.trans (congrArg some (by kernel_rfl))⟩
 f25:=⟨Tryz.f181.name,by decide, Tryz.func181.trans (congrArg some (by kernel_rfl))⟩
 f26:=⟨Tryz.f182.name,by decide, Tryz.func182.trans (congrArg some (by kernel_rfl))⟩
 f27:=⟨Tryz.f183.name,by decide, Tryz.func183.trans (congrArg some (by kernel_rfl))⟩
 f28:=Tryz.func156.trans (congrArg some (by kernel_rfl))
 f29:=Tryz.func184.trans (congrArg some (by kernel_rfl))
 f46:=⟨Tryz.f185.name,by decide, Tryz.func185.trans (congrArg some (by kernel_rfl))⟩
 f47:=Tryz.func186.trans (congrArg some (by kernel_rfl))
 f48:=Tryz.func187.trans (congrArg some (by kernel_rfl))
 f49:=⟨Tryz.f188.name,by decide, Tryz.func188.trans (congrArg some (by kernel_rfl))⟩
 f50:=⟨Tryz.f189.name,by decide, Tryz.func189.trans (congrArg some (by kernel_rfl))⟩
 f57:=⟨Tryz.f190.name,by decide, Tryz.func190.trans (congrArg some (by kernel_rfl))⟩
 t0:=Tryz.underlying0
 a0:=Tryz.isAgg0
 z0:=Tryz.sizeOf0
 v0:=Tryz.zeroValue0
 t3:=Tryz.underlying3
 a3:=Tryz.isAgg3
 z3:=Tryz.sizeOf3
 v3:=Tryz.zeroValue3
 t4:=Tryz.underlying4
 a4:=Tryz.isAgg4
 z4:=Tryz.sizeOf4
 v4:=Tryz.zeroValue4
 t5:=Tryz.underlying5
 a5:=Tryz.isAgg5
 z5:=Tryz.sizeOf5
 v5:=Tryz.zeroValue5
 t9:=Tryz.underlying9
 a9:=Tryz.isAgg9
 z9:=Tryz.sizeOf9
 v9:=Tryz.zeroValue9
 t22:=Tryz.underlying26
 a22:=Tryz.isAgg26
 z22:=Tryz.sizeOf26
 v22:=Tryz.zeroValue26
 a24:=Tryz.isAgg3
 z24:=Tryz.sizeOf3
 t25:=Tryz.underlying195
 a25:=Tryz.isAgg195
 z25:=Tryz.sizeOf195
 v25:=Tryz.zeroValue195
 t39:=Tryz.underlying61
 a39:=Tryz.isAgg61
 z39:=Tryz.sizeOf61
 v39:=Tryz.zeroValue61
 t45:=Tryz.underlying216
 a45:=Tryz.isAgg216
 z45:=Tryz.sizeOf216
 v45:=Tryz.zeroValue216
 t46:=Tryz.underlying217
 a46:=Tryz.isAgg217
 z46:=Tryz.sizeOf217
 v46:=Tryz.zeroValue217
 t50:=Tryz.underlying221
 a50:=Tryz.isAgg221
 z50:=Tryz.sizeOf221
 v50:=Tryz.zeroValue221
 t53:=Tryz.underlying124
 a53:=Tryz.isAgg124
 z53:=Tryz.sizeOf124
 v53:=Tryz.zeroValue124
 t55:=Tryz.underlying64
 a55:=Tryz.isAgg64
 z55:=Tryz.sizeOf64
 v55:=Tryz.zeroValue64
 t66:=Tryz.underlying223
 a66:=Tryz.isAgg223
 z66:=Tryz.sizeOf223
 v66:=Tryz.zeroValue223
 t70:=Tryz.underlying227
 a70:=Tryz.isAgg227
 z70:=Tryz.sizeOf227
 v70:=Tryz.zeroValue227
 t76:=Tryz.underlying229
 a76:=Tryz.isAgg229
 z76:=Tryz.sizeOf229
 v76:=Tryz.zeroValue229
 t77:=Tryz.underlying230
 a77:=Tryz.isAgg230
 z77:=Tryz.sizeOf230
 v77:=Tryz.zeroValue230 }
def pu:Go.Shelf.Ren:=⟨fun | 43=>154 | n=>n,fun | 22=>26 | 23=>3 | 3=>3 | 4=>4 | 0=>0 | n=>n,fun | n=>n⟩
theorem compL:Go.Proofs.SlLaysE.n43 Tryz.prog pu:={
 mixed:=by kernel_rfl
 f43:=⟨Tryz.f154.name,by decide, Tryz.func154.trans (congrArg some (by kernel_rfl))⟩
 t0:=Tryz.underlying0
 a0:=Tryz.isAgg0
 z0:=Tryz.sizeOf0
 v0:=Tryz.zeroValue0
 t3:=Tryz.underlying3
 a3:=Tryz.isAgg3
 z3:=Tryz.sizeOf3
 v3:=Tryz.zeroValue3
 t4:=Tryz.underlying4
 a4:=Tryz.isAgg4
 z4:=Tryz.sizeOf4
 v4:=Tryz.zeroValue4
 t22:=Tryz.underlying26
 a22:=Tryz.isAgg26
 z22:=Tryz.sizeOf26
 v22:=Tryz.zeroValue26
 a23:=Tryz.isAgg3
 z23:=Tryz.sizeOf3 }
def pt:Go.Shelf.Ren:=⟨fun | 8=>94 | 6=>139 | n=>n,fun | 22=>26 | 23=>3 | 25=>152 | 4=>4 | 3=>3 | 0=>0 | n=>n,fun | n=>n⟩
theorem contL:Go.Proofs.SlLaysH.n8 Tryz.prog pt:={
 mixed:=by kernel_rfl
 f6:=⟨Tryz.f139.name,by decide, Tryz.func139.trans (congrArg some (by kernel_rfl))⟩
 f8:=⟨Tryz.f94.name,by decide, Tryz.func94.trans (congrArg some (by kernel_rfl))⟩
 t0:=Tryz.underlying0
 a0:=Tryz.isAgg0
 z0:=Tryz.sizeOf0
 v0:=Tryz.zeroValue0
 t3:=Tryz.underlying3
 a3:=Tryz.isAgg3
 z3:=Tryz.sizeOf3
 v3:=Tryz.zeroValue3
 t4:=Tryz.underlying4
 a4:=Tryz.isAgg4
 z4:=Tryz.sizeOf4
 v4:=Tryz.zeroValue4
 t22:=Tryz.underlying26
 a22:=Tryz.isAgg26
 z22:=Tryz.sizeOf26
 v22:=Tryz.zeroValue26
 a23:=Tryz.isAgg3
 z23:=Tryz.sizeOf3
 t25:=Tryz.underlying152
 a25:=Tryz.isAgg152
 z25:=Tryz.sizeOf152
 v25:=Tryz.zeroValue152 }
end Go.Proofs.YtmhllppjcilllaaGreatDoor
end
section
open Go
namespace Cs
def qH (a:Int):Int:=if a<0 then -(2*a) else 2*a+1
theorem keyL_inj {a b:Int} (h:qH a=qH b):a=b:=by
 unfold qH at h;split at h <;> split at h <;> omega
def zdI (a b:Int):Int:=if a.natAbs≠b.natAbs then (a.natAbs:Int)-b.natAbs else a-b
theorem zgG (a b:Int):zdI a b<0↔qH a<qH b:=by
 unfold zdI qH;split <;> split <;> split <;> omega
abbrev VL:={x:Int // x.natAbs≤128}
instance:Inhabited VL:=⟨⟨1,by decide⟩⟩
theorem opp_iff {C:List Int} (hs:C.Pairwise fun x y=>qH x<qH y) (h0:∀ x∈C,x≠0):(∃ i,i+1<C.length∧C.getD (i+1) 0 = -C.getD i 0)↔∃ x∈C,-x∈C:=by
 have gm:∀ i,i<C.length→C.getD i 0∈C:=fun i hi=>by
  rw [List.getD_eq_getElem?_getD,List.getElem?_eq_getElem hi];exact List.getElem_mem hi
 have hp:∀ i j,i<j→j<C.length→qH (C.getD i 0)<qH (C.getD j 0):=fun i j hij hj=>by
  have:=List.pairwise_iff_getElem.1 hs i j (by omega) hj hij;rw [List.getD_eq_getElem?_getD,List.getElem?_eq_getElem (by omega),List.getD_eq_getElem?_getD,List.getElem?_eq_getElem hj];exact this
 constructor
 ·rintro ⟨i,hi,e⟩;exact ⟨C.getD i 0,gm i (by omega),by rw [← e];exact gm _ hi⟩
 ·rintro ⟨x,hx,hy⟩;have main:∀ y:Int,0<y→y∈C→-y∈C→∃ i,i+1<C.length∧C.getD (i+1) 0 = -C.getD i 0:=fun y hy0 h1 h2=>by
   obtain ⟨j,hj,ej⟩:=List.mem_iff_getElem.1 h1;obtain ⟨i,hi,ei⟩:=List.mem_iff_getElem.1 h2;have dj:C.getD j 0=y:=by rw [List.getD_eq_getElem?_getD,List.getElem?_eq_getElem hj];exact ej
   have di:C.getD i 0 = -y:=by rw [List.getD_eq_getElem?_getD,List.getElem?_eq_getElem hi];exact ei
   have ky:qH y=2*y+1:=by unfold qH;split <;> omega
   have kn:qH (-y)=2*y:=by unfold qH;split <;> omega
   have hij:i<j:=by
    rcases Nat.lt_trichotomy i j with h | h | h
    ·exact h
    ·subst h;rw [di] at dj;omega
    ·have:=hp j i h hi;rw [di,dj] at this;omega
   have hnext:i+1=j:=by
    rcases Nat.lt_or_ge (i+1) j with h | h
    ·have a:=hp i (i+1) (by omega) (by omega);have b:=hp (i+1) j h hj;rw [di] at a;rw [dj] at b;omega
    ·omega
   exact ⟨i,by omega,by rw [hnext,dj,di];omega⟩
  have hx0:=h0 x hx;rcases Int.lt_or_le 0 x with h | h
  ·exact main x h hx hy
  ·exact main (-x) (by omega) hy (by rw [Int.neg_neg];exact hx)
section
open Go.Lib Go.Sort
variable {d:Array VL}
theorem get_mem (i:Nat) (hi:i<d.size):d[i]! ∈ d.toList:=by
 rw [getElem!_pos d i hi];exact Array.getElem_mem_toList hi
theorem zfj (x:VL):x∈compactUpTo d d.size↔x∈d.toList:=by
 unfold compactUpTo;rw [List.mem_map];constructor
 ·rintro ⟨i,hi,rfl⟩;rw [List.mem_filter,List.mem_range] at hi;exact get_mem i hi.1
 ·intro hx;obtain ⟨i,hi,e⟩:=List.mem_iff_getElem.1 hx;have hi':i<d.size:=by simpa using hi
  have ei:d[i]! = x:=by rw [getElem!_pos d i hi'];simpa using e
  have:∀ m i,i≤m→i<d.size→d[i]! = x→∃ j,j<d.size∧keeps d j=true∧d[j]! = x:=fun m=>by
   induction m with
   | zero =>
     intro i h1 h2 h3;obtain rfl:i=0:=by omega
     exact ⟨0,h2,decide_eq_true (Or.inl rfl),h3⟩
   | succ m ih =>
     intro i h1 h2 h3;by_cases hk:keeps d i=true
     ·exact ⟨i,h2,hk,h3⟩
     ·unfold keeps at hk;rw [decide_eq_true_eq,not_or] at hk;have:d[i]! = d[i-1]! := Classical.byContradiction fun h=>hk.2 h;exact ih (i-1) (by omega) (by omega) (by rw [← this];exact h3)
  obtain ⟨j,hj,hk,e2⟩:=this i i (Nat.le_refl _) hi' ei;exact ⟨j,List.mem_filter.2 ⟨List.mem_range.2 hj,hk⟩,e2⟩
theorem zfy (hs:∀ i j,i<j→j<d.size→qH d[i]!.1≤qH d[j]!.1):((compactUpTo d d.size).map (·.1)).Pairwise fun x y=>qH x<qH y:=by
 rw [List.pairwise_map];unfold compactUpTo;rw [List.pairwise_map];have hr:((List.range d.size).filter (keeps d)).Pairwise (·<·):=List.Pairwise.filter _ List.pairwise_lt_range;refine hr.imp_of_mem ?_;intro i j hi hj hij;rw [List.mem_filter,List.mem_range] at hi hj;have hk:=hj.2;unfold keeps at hk;rw [decide_eq_true_eq] at hk;have hne:d[j]! ≠ d[j-1]! := hk.resolve_left (by omega);have h1:qH d[j-1]!.1≤qH d[j]!.1:=hs (j-1) j (by omega) hj.1;have h2:qH d[i]!.1≤qH d[j-1]!.1:=by
  rcases Nat.lt_or_ge i (j-1) with h | h
  ·exact hs i (j-1) h (by omega)
  ·rw [show i=j-1 by omega];exact Int.le_refl _
 have h3:qH d[j-1]!.1≠qH d[j]!.1:=fun h=>hne (Subtype.ext (keyL_inj h.symm));omega
end
def jM (x:Int):VL:=if h:x.natAbs≤128 then ⟨x,h⟩ else ⟨1,by decide⟩
theorem zgf {x:Int} (h:x.natAbs≤128):(jM x).1=x:=by
 unfold jM;rw [dif_pos h]
abbrev R64:={x:Int // -9223372036854775808≤x∧x≤9223372036854775807}
instance:Inhabited R64:=⟨⟨0,by decide⟩⟩
def gC (x:Int):R64:=if h : -9223372036854775808≤x∧x≤9223372036854775807 then ⟨x,h⟩ else ⟨0,by decide⟩
theorem zhm {x:Int} (h : -9223372036854775808≤x∧x≤9223372036854775807):(gC x).1=x:=by
 unfold gC;rw [dif_pos h]
end Cs
end
section
set_option maxRecDepth 100000
set_option maxHeartbeats 1000000
open Go Go.RowKit Cs Go.Sort Go.Lib
namespace Go.Proofs.YtmhllppjcilllaaGreatDoor
theorem zfN {x:Int} (h:x.natAbs≤128):zQ x=(x.natAbs:Int):=by
 unfold zQ;split
 ·omega
 ·split <;> omega
theorem zkr (W:World) (x y:Int) (hx:x.natAbs≤128) (hy:y.natAbs≤128) :
  Calls Tryz.prog 153 #[.int .i64 x,.int .i64 y] W fun e w'=>e = .returned (.int .i64 (zdI x y))∧w'=W:=by
 have h1:∀ V,Calls Tryz.prog 117 #[.int .i64 x] V fun e w'=>e = .returned (.int .i64 (x.natAbs:Int))∧V=w':=fun V=>by
  have:=zda V x (by omega) (by omega);rw [zfN hx] at this;exact this
 have h2:∀ V,Calls Tryz.prog 117 #[.int .i64 y] V fun e w'=>e = .returned (.int .i64 (y.natAbs:Int))∧V=w':=fun V=>by
  have:=zda V y (by omega) (by omega);rw [zfN hy] at this;exact this
 have H1:=zb h1;have H2:=zb h2;have wr1:IntKind.i64.wrap ((x.natAbs:Int)-(y.natAbs:Int))=(x.natAbs:Int)-(y.natAbs:Int):=by rw [IntKind.wrap_i64];omega
 have wr2:IntKind.i64.wrap (x-y)=x-y:=by rw [IntKind.wrap_i64];omega
 unfold zdI;by_cases h:x.natAbs=y.natAbs
 ·rw [if_neg (by omega)];obtain ⟨a,ha⟩:∃ a:Int,(x.natAbs:Int)=a:=⟨_,rfl⟩;have hb:(y.natAbs:Int)=a:=by omega
  simp only [ha] at H1;simp only [hb] at H2;have hne:(a != a)=false:=by simp
  clear h1 h2 h hx hy ha hb wr1;go_enter Tryz.func153, Tryz.ntmps153;go_wp2_with (go_at_call 117;(with_reducible first | refine (H1.out _).mono ?_ | refine (H2.out _).mono ?_);rintro e w1 ⟨rfl,rfl⟩)
  all_goals
   go_ret;exact ⟨rfl,rfl⟩
 ·rw [if_pos h];obtain ⟨a,ha⟩:∃ a:Int,(x.natAbs:Int)=a:=⟨_,rfl⟩;obtain ⟨b,hb⟩:∃ b:Int,(y.natAbs:Int)=b:=⟨_,rfl⟩;have hab:a≠b:=by omega
  simp only [ha] at H1;simp only [hb] at H2;rw [ha,hb] at wr1;rw [ha,hb];have hne:(a != b)=true:=bne_iff_ne.2 hab;have hne2:(a==b)=false:=by simpa using hab
  clear h1 h2 h hx hy ha hb wr2;go_enter Tryz.func153, Tryz.ntmps153;go_wp2_with (go_at_call 117;(with_reducible first | refine (H1.out _).mono ?_ | refine (H2.out _).mono ?_);rintro e w1 ⟨rfl,rfl⟩)
  all_goals
   go_ret;exact ⟨rfl,rfl⟩
theorem zkp (W:World) (x y:VL):Calls Tryz.prog 152 #[.int .i64 x.1,.int .i64 y.1] W fun e w'=>e = .returned (.int .i64 (zdI x.1 y.1))∧∃ q,w'=W.drewN q:=by
 have h1:=zkr W x.1 y.1 x.2 y.2;generalize zdI x.1 y.1=r at h1 ⊢;obtain ⟨x,_⟩:=x;obtain ⟨y,_⟩:=y;simp only at h1 ⊢;go_enter Tryz.func152, Tryz.ntmps152;go_wp2_with (go_at_call 153;refine h1.mono ?_;rintro e w1 ⟨rfl,rfl⟩)
 go_ret;exact ⟨rfl,0,rfl⟩
theorem swoL:SWO (ltOf fun x y:VL=>zdI x.1 y.1) where
 irrefl x:=by unfold ltOf;rw [decide_eq_false_iff_not,zgG];omega
 trans x y z h1 h2:=by
  unfold ltOf at *
  rw [decide_eq_true_eq,zgG] at *
  omega
 ntrans x y z h1 h2:=by
  unfold ltOf at *
  rw [decide_eq_false_iff_not,zgG] at *
  omega
theorem xZ (W:World) (p:Addr) (n x:Int) (h0 : -9223372036854775808≤x) (h1:x≤9223372036854775807) (hp:W.cell? p=some (.int .i64 n)) :
  Calls Tryz.prog 149 #[.int .i64 x,.pointer (some p)] W fun e w'=>e = .returned (.bool (!qh x n))∧∃ q,w'=W.drewN q:=by
 have hv:=fun V=>zeh V x n h0 h1;generalize qh x n=r at hv ⊢;have HV:=zb hv;clear hv h0 h1;go_enter Tryz.func149, Tryz.ntmps149;go_wp2_with (go_at_call 134;(with_reducible refine (HV.out _).mono ?_);rintro e w1 ⟨rfl,rfl⟩)
 go_ret;exact ⟨rfl,0,rfl⟩
theorem oE (n:Int):∀ l:List Int,(∀ x∈l,-9223372036854775808≤x∧x≤9223372036854775807)→(l.map gC).any (fun x=>!qh x.1 n) = !(l.all fun x=>qh x n)
 | [],_=>rfl
 | a::l,h=>by
   rw [List.map_cons,List.any_cons,List.all_cons,oE n l (fun x hx=>h x (List.mem_cons_of_mem _ hx)),zhm (h a (List.mem_cons_self ..)),Bool.not_and]
theorem zks (w:World) (A:Option Addr) (c:Nat) (l:List Int) (n:Int) (hl:l.length≤1000000) (hr:∀ x∈l,-9223372036854775808≤x∧x≤9223372036854775807) (hA:Rd w w.heap.size A l.length (zO l)) :
  Calls Tryz.prog 111 #[.slice A l.length c,.int .i64 n] w fun e w'=>e = .returned (.bool (l.all fun x=>qh x n))∧Below w.heap.size w w':=by
 have hb0:Below w.heap.size w (w.alloc (.cells #[.int .i64 n] 3)):=(zx _ _).alloc (zu _) _;have r0:=zF w #[.int .i64 n] 3 w.heap.size 1 rfl rfl;have eg:∀ args w,(callFunc 149 args).run Tryz.prog w = .ok (.enter 149 args) w:=enters_of Tryz.func149 (by kernel_rfl) rfl;have hcon:Calls Tryz.prog 94 #[.slice A l.length c,.func (.func 149) #[] #[.pointer (some ⟨w.heap.size,0,none⟩)]] (w.alloc (.cells #[.int .i64 n] 3)) fun e w'=>e = .returned (.bool (!(l.all fun x=>qh x n)))∧Below w.heap.size w w':=by
  rcases l with _ | ⟨a,l⟩
  ·refine (AnyE.slices_ContainsFunc_empty contL A c _ _).mono ?_;rintro e w' ⟨rfl,rfl⟩;exact ⟨rfl,hb0⟩
  ·obtain ⟨b,o,rfl,hb,hc⟩:=hA (by simp);have:=AnyE.slices_ContainsFunc contL (fun x:R64=>Value.int .i64 x.1) (fun x=>!qh x.1 n) 149 #[.pointer (some ⟨w.heap.size,0,none⟩)] eg b o (a::l).length c ((a::l).map gC) (w.alloc (.cells #[.int .i64 n] 3))
    (fun W x hW=>xZ W ⟨w.heap.size,0,none⟩ n x.1 x.2.1 x.2.2 ((zo r0 hW).cell (i:=0) (by decide))) (by simp) (by omega) (fun j hj=>by
     rw [List.length_map] at hj;rw [hb0.cell (p:=⟨b,o+j,none⟩) hb,hc j hj];unfold zO;rw [getElem!_pos _ j (by simpa using hj),List.getElem_map,zhm (hr _ (List.getElem_mem hj)),List.getD_eq_getElem?_getD,List.getElem?_eq_getElem hj];rfl)
   refine (show Calls Tryz.prog 94 _ _ _ from this).mono ?_;rintro e w' ⟨rfl,q,rfl⟩;refine ⟨?_,qV hb0 q⟩;rw [List.take_of_length_le (by simp),oE n _ hr]
 obtain ⟨r,hr2⟩:∃ r,(l.all fun x=>qh x n)=r:=⟨_,rfl⟩;rw [hr2] at hcon ⊢;obtain ⟨m,hm⟩:∃ m,l.length=m:=⟨_,rfl⟩;rw [hm] at hcon ⊢;have HC:=zb hcon;clear hcon hr2 hr hA hl r0 eg hb0 hm;go_enter Tryz.func111, Tryz.ntmps111;go_wp2_with (go_at_call 94;(with_reducible refine HC.out.mono ?_);rintro e w1 ⟨rfl,hb⟩)
 go_ret;exact ⟨by simp,hb⟩
end Go.Proofs.YtmhllppjcilllaaGreatDoor
end
