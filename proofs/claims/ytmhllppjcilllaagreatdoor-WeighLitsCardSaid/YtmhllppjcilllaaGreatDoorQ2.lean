import Derived.Test.YtmhllppjcilllaaGreatDoorHp
import Derived.Test.YtmhllppjcilllaaGreatDoorBq
import Derived.Test.YtmhllppjcilllaaGreatDoorN1
import Derived.Laws.AppendOwn
import Derived.Test.YtmhllppjcilllaaGreatDoorShort
import Derived.Test.YtmhllppjcilllaaGreatDoorM1
import Derived.Test.YtmhllppjcilllaaGreatDoorS1
import Derived.Test.YtmhllppjcilllaaGreatDoorQ1
set_option linter.unusedSimpArgs false
set_option linter.unusedVariables false
section
open Go Go.RowKit Cs
namespace Go
section
variable {P:Program} {ops:Array Oper} {Q:Exit→Act→World→Prop} {md:Region.Mode}
def StepR (P:Program) (ops:Array Oper) (Iv:World→Prop) (Rl:Nat→Value→World→World→Prop) (a:Act) (Px:Nat→List Value→Value→World→Prop) (dp:Nat→List Nat) (i:Nat):Prop :=
 ∀ o,ops[i]?=some o→∀ (vs:Nat→Value) (w:World),Iv w→(∀ j∈dp i,Px j ((dp j).map vs) (vs j) w) →
  ∀ K:Act→World→Prop,Shut (∀ v w',Px i ((dp i).map vs) v w'→Rl i v w w'→K (Act.put ⟨zH ops vs a.tmps (dp i),a.defers⟩ o.dst v) w') →
   if Region.wanted o (yielded ops (Act.mk (zH ops vs a.tmps (dp i)) a.defers).tmps)=true then Oper.wp P o ⟨zH ops vs a.tmps (dp i),a.defers⟩ w K (fun _ _ _=>False) else K (Act.put ⟨zH ops vs a.tmps (dp i),a.defers⟩ o.dst undef) w
theorem StepR.wpOp {Iv:World→Prop} {Rl:Nat→Value→World→World→Prop} {a0:Act} {Px:Nat→List Value→Value→World→Prop} {dp:Nat→List Nat} {i:Nat} {o:Oper} (h:StepR P ops Iv Rl a0 Px dp i) (ho:ops[i]?=some o) (hsel:∀ cs b,o.op≠.select cs b)
  {vs:Nat→Value} {w:World} {l:List Nat} (hb:Iv w) (hd:∀ j∈dp i,Px j ((dp j).map vs) (vs j) w)
  (hl:∀ s∈o.looksAt ops,(zH ops vs a0.tmps l)[s]?=(zH ops vs a0.tmps (dp i))[s]?) {K:Act→World→Prop}
  (hK:∀ v w',Px i ((dp i).map vs) v w'→Rl i v w w'→K (Act.put ⟨zH ops vs a0.tmps l,a0.defers⟩ o.dst v) w') :
  Go.wpOp P ops Q i K ⟨zH ops vs a0.tmps l,a0.defers⟩ w:=by
 obtain ⟨B,hB⟩:∃ B:Act,B=⟨zH ops vs a0.tmps (dp i),a0.defers⟩:=⟨_,rfl⟩;obtain ⟨C,hC⟩:∃ C:Act,C=⟨zH ops vs a0.tmps l,a0.defers⟩:=⟨_,rfl⟩;have hsz:C.tmps.size=B.tmps.size:=by rw [hB,hC];show (zH ..).size=(zH ..).size;rw [zbr,zbr]
 have hdf:C.defers=B.defers:=by rw [hB,hC]
 have hl':∀ s∈o.looksAt ops,C.tmps[s]?=B.tmps[s]?:=by rw [hB,hC];exact hl
 have hk:∀ u w' v,B.put o.dst u=B.put o.dst v→Px i ((dp i).map vs) v w'→Rl i v w w'→K (C.put o.dst u) w':=fun u w' v e h1 h2=>by
  rw [zgq hsz e,hC];exact hK v w' h1 h2
 have hstep:=h o ho vs w hb hd (fun a' w'=>∃ v,a'=B.put o.dst v∧Px i ((dp i).map vs) v w'∧Rl i v w w')
  (fun v w' h1 h2=>⟨v,by rw [hB],h1,h2⟩)
 rw [← hB] at hstep;rw [← hC];clear hK hl;unfold Go.wpOp;rw [ho];simp only [];rw [zcj o C.tmps B.tmps hl'];split
 ·rename_i hw;rw [if_pos hw] at hstep;refine .inl ?_;unfold Oper.wp at *
  rw [zde o hsel C B hl'];generalize (execOp B.eval o).run P w=r at *
  cases r with
  | ok n w' =>
    cases n <;> simp only [Oper.upon] at hstep ⊢
    case value u=>obtain ⟨v,e,h1,h2⟩:=hstep;exact hk u w' v e h1 h2
    case skip=>obtain ⟨v,e,h1,h2⟩:=hstep;exact hk _ w' v e h1 h2
    case defer d =>
     obtain ⟨v,e,_⟩:=hstep
     exfalso
     have:(Act.put { B with defers:=d::B.defers } o.dst undef).defers=(B.put o.dst v).defers:=by rw [e]
     have e1:∀ (x:Act) (d:Option Tmp) (v:Value),(x.put d v).defers=x.defers:=fun x d v=>by cases d <;> rfl
     rw [e1,e1] at this;exact absurd this (List.cons_ne_self _ _)
    case enter f args =>
     refine Calls.mono hstep fun e w'' he=>?_;cases e with
     | returned u=>obtain ⟨v,e,h1,h2⟩:=he;exact hk u w'' v e h1 h2
     | panicked c=>exact he.elim
     | outgrown=>obtain ⟨_,_,h⟩:=he;exact h.elim
    case row row args=>exact Rows.mono hstep fun u w'' he=>by obtain ⟨v,e,h1,h2⟩:=he;exact hk u w'' v e h1 h2
    all_goals exact hstep
  | halt x w' =>
    cases x <;> simp only [Oper.upon] at hstep
 ·rename_i hw;rw [if_neg hw] at hstep;obtain ⟨v,e,h1,h2⟩:=hstep;exact hk _ w v e h1 h2
theorem zd3 {Cx:Nat→Nat→Value→Value→Prop} {Px:Nat→List Value→Value→World→Prop} {dp:Nat→List Nat} {L1 ex:List Nat} {Iv:World→Prop} {a0:Act}
  (hok:Region.PropsOk md ops L1 (L1++ex) dp a0.tmps.size)
  (hfin:∀ bs:List Bool,bs.length=ex.length→∀ (vs:Nat→Value) (w:World),Iv w→(∀ i∈L1++zU ex bs,Px i ((dp i).map vs) (vs i) w)→(∀ i∈L1++zU ex bs,∀ j∈L1++zU ex bs,i≠j→Cx i j (vs i) (vs j)) →
    ∀ fuel,qA (zY ops.size (L1++zU ex bs)) ops.size≤fuel→wpAny P md ops Q fuel (zY ops.size (L1++zU ex bs)) ⟨zH ops vs a0.tmps (L1++zU ex bs),a0.defers⟩ w)
  {fuel:Nat} {listed:Array Bool} {l:List Nat} {vs:Nat→Value} {w:World} (hz:listed.size=ops.size) (hu:qA listed ops.size≤fuel) (hl:∀ i,i∈l↔listed.getD i false=true) (hA:∀ i∈l,i∈L1++ex)
  (hb:Iv w) (hp:∀ i∈l,Px i ((dp i).map vs) (vs i) w) (hcx:∀ i∈l,∀ j∈l,i≠j→Cx i j (vs i) (vs j))
  (hall:∀ i∈L1,listed.getD i false=true):wpAny P md ops Q fuel listed ⟨zH ops vs a0.tmps l,a0.defers⟩ w:=by
 have hmem:∀ i,i∈L1++zU ex (ex.map fun i=>listed.getD i false)↔i∈l:=fun i=>by
  rw [zdC,List.mem_append,List.mem_filter,hl i];constructor
  ·rintro (h | h)
   ·exact hall i h
   ·exact h.2
  ·intro h;rcases List.mem_append.1 (hA i ((hl i).2 h)) with h' | h'
   ·exact .inl h'
   ·exact .inr ⟨h',h⟩
 have hli:zY ops.size (L1++zU ex (ex.map fun i=>listed.getD i false))=listed:=by
  refine Array.ext (by simp [zY,hz]) fun i h1 h2=>?_;have e1:(zY ops.size (L1++zU ex (ex.map fun i=>listed.getD i false)))[i]=(L1++zU ex (ex.map fun i=>listed.getD i false)).contains i:=by simp [zY]
  rw [e1];have e2:listed.getD i false=listed[i]:=by simp [h2]
  rw [← e2];cases hc:listed.getD i false with
  | true=>rw [List.contains_iff_mem];exact (hmem i).2 ((hl i).2 hc)
  | false =>
    refine Bool.eq_false_iff.2 fun h=>?_;rw [List.contains_iff_mem] at h;rw [(hl i).1 ((hmem i).1 h)] at hc;cases hc
 have hact:zH ops vs a0.tmps (L1++zU ex (ex.map fun i=>listed.getD i false))=zH ops vs a0.tmps l:=by
  refine Array.ext_getElem? fun s=>?_;by_cases hex:∃ j,j∈l∧qi ops j=some s
  ·obtain ⟨j,hj,hjs⟩:=hex;have hsz:=hok.dst j (hA j hj) s hjs;rw [yz vs s j hjs l _ hj (fun m hm e=>hok.uniq m (hA m hm) j (hA j hj) s e hjs) hsz,yz vs s j hjs _ _ ((hmem j).2 hj) (fun m hm e=>hok.uniq m (hA m ((hmem m).1 hm)) j (hA j hj) s e hjs) hsz]
  ·rw [yC vs s l _ fun j hj e=>hex ⟨j,hj,e⟩,yC vs s _ _ fun j hj e=>hex ⟨j,(hmem j).1 hj,e⟩]
 have h:=hfin (ex.map fun i=>listed.getD i false) (by simp) vs w hb (fun i hi=>hp i ((hmem i).1 hi)) (fun i hi j hj=>hcx i ((hmem i).1 hi) j ((hmem j).1 hj)) fuel (by rw [hli];exact hu);rw [hli,hact] at h;exact h
theorem oY {Cx:Nat→Nat→Value→Value→Prop} {Px:Nat→List Value→Value→World→Prop} {dp:Nat→List Nat} {L1 ex:List Nat} {Iv:World→Prop} {Rl:Nat→Value→World→World→Prop} {a0:Act}
  (hok:Region.PropsOk md ops L1 (L1++ex) dp a0.tmps.size) (hmono:∀ i j l v v' w w',i≠j→Px i l v w→Rl j v' w w'→Px i l v w') (hinv:∀ j v w w',Iv w→Rl j v w w'→Iv w')
  (hcross:∀ i j l v v' w w',i≠j→Px i l v w→Rl j v' w w'→Cx i j v v'∧Cx j i v' v)
  (hstep:∀ i∈L1++ex,StepR P ops Iv Rl a0 Px dp i)
  (hfin:∀ bs:List Bool,bs.length=ex.length→∀ (vs:Nat→Value) (w:World),Iv w→(∀ i∈L1++zU ex bs,Px i ((dp i).map vs) (vs i) w)→(∀ i∈L1++zU ex bs,∀ j∈L1++zU ex bs,i≠j→Cx i j (vs i) (vs j)) →
    ∀ fuel,qA (zY ops.size (L1++zU ex bs)) ops.size≤fuel→wpAny P md ops Q fuel (zY ops.size (L1++zU ex bs)) ⟨zH ops vs a0.tmps (L1++zU ex bs),a0.defers⟩ w) :
  ∀ (fuel:Nat) (listed:Array Bool) (l:List Nat) (vs:Nat→Value) (w:World),listed.size=ops.size→Region.shutL md ops listed→qA listed ops.size≤fuel→(∀ i,i∈l↔listed.getD i false=true)→(∀ i∈l,i∈L1++ex) →
   Iv w→(∀ i∈l,Px i ((dp i).map vs) (vs i) w)→(∀ i∈l,∀ j∈l,i≠j→Cx i j (vs i) (vs j))→wpAny P md ops Q fuel listed ⟨zH ops vs a0.tmps l,a0.defers⟩ w:=by
 intro fuel
 induction fuel with
 | zero =>
   intro listed l vs w hz hcl hu hl hA hb hp hcx;exact zd3 hok hfin hz hu hl hA hb hp hcx fun i hi=>zep _ (by omega) i (hok.lt i (List.mem_append_left _ hi))
 | succ fuel ih =>
   intro listed l vs w hz hcl hu hl hA hb hp hcx;by_cases hall:∀ i∈L1,listed.getD i false=true
   ·exact zd3 hok hfin hz hu hl hA hb hp hcx hall
   ·have hall':∃ i,i∈L1∧listed.getD i false=false:=by
     refine Classical.byContradiction fun hne=>hall fun i hi=>?_;cases hc:listed.getD i false with
     | true=>rfl
     | false=>exact absurd ⟨i,hi,hc⟩ hne
    obtain ⟨k,hk,hkf⟩:=hall';have hkn:=hok.lt k (List.mem_append_left _ hk);refine ⟨fun hr=>absurd hr (zgm hz hok.back hkn hkf),fun i hi=>?_⟩;have hi':=hi;obtain ⟨hun,o,ho,hafter⟩:=mem_ready.1 hi;have hin:i<ops.size:=(Array.getElem?_eq_some_iff.1 ho).1;have hunf:listed.getD i false=false:=by
     have:i<listed.size:=by omega
     simp [this] at hun ⊢;exact hun
    have hiA:i∈L1++ex:=by
     refine Classical.byContradiction fun hne=>?_;have:=Region.coverOf_spec hcl hi (hok.last i hin hne k hk);rw [this] at hkf;cases hkf
    have hdl:∀ j∈dp i,j∈l:=fun j hj=>(hl j).2 (Region.coverOf_spec hcl hi (hok.dep i hiA j hj).1);have hil:i ∉ l:=fun h=>by rw [(hl i).1 h] at hunf;cases hunf
    refine (hstep i hiA).wpOp ho (Region.noSelect_spec hok.sel i o · · ho) hb (fun j hj=>hp j (hdl j hj)) (fun s hs=>?_) fun v w' h1 h2=>?_
    ·by_cases hex:∃ j,j∈l∧qi ops j=some s
     ·obtain ⟨j,hj,hjs⟩:=hex;have hjA:=hA j hj;have hjd:=hok.looks i hiA o ho s hs j hjA hjs;have hsz:=hok.dst j hjA s hjs;rw [yz vs s j hjs l _ hj (fun m hm e=>hok.uniq m (hA m hm) j hjA s e hjs) hsz,yz vs s j hjs (dp i) _ hjd (fun m hm e=>hok.uniq m (hok.dep i hiA m hm).2 j hjA s e hjs) hsz]
     ·rw [yC vs s l _ fun j hj e=>hex ⟨j,hj,e⟩,yC vs s (dp i) _ fun j hj e=>hex ⟨j,hdl j hj,e⟩]
    ·obtain ⟨vs',hvs⟩:∃ vs':Nat→Value,vs'=fun j=>if j=i then v else vs j:=⟨_,rfl⟩
     have hsame:∀ j,j∈l→vs' j=vs j:=fun j hj=>by rw [hvs];simp only [];rw [if_neg fun e=>hil (by rw [← e];exact hj)]
     have hnew:vs' i=v:=by rw [hvs];simp
     have hmap:∀ m,(∀ j∈dp m,j∈l)→(dp m).map vs'=(dp m).map vs:=fun m hm=>List.map_congr_left fun j hj=>hsame j (hm j hj);have hdm:∀ j∈l,∀ m∈dp j,m∈l:=fun j hj m hm=>(hl m).2 (Region.coverOf_in hcl ((hl j).1 hj) (hok.dep j (hA j hj) m hm).1);have hact:=zdA (a0:=a0) ho hok.uniq hok.dst hA hiA hsame hnew;rw [hact];refine ih (listed.setIfInBounds i true) (l++[i]) vs' w' (by simp [hz]) (Region.shutL_set hcl hi') ?_ ?_ ?_ (hinv i v w w' hb h2) ?_ ?_
     ·have:=(zeD (listed:=listed) (i:=i) ops.size).2 hin (by omega) hunf;omega
     ·intro j;rw [List.mem_append,List.mem_singleton,hl j];by_cases e:i=j
      ·subst e;have hlt:i<listed.size:=by omega
       simp [hlt]
      ·rw [getD_set_ne false e];exact ⟨fun h=>h.resolve_right (fun e'=>e e'.symm),.inl⟩
     ·intro j hj;rcases List.mem_append.1 hj with hj | hj
      ·exact hA j hj
      ·simp at hj;subst hj;exact hiA
     ·intro j hj;rcases List.mem_append.1 hj with hj | hj
      ·rw [hmap j (hdm j hj),hsame j hj];exact hmono j i _ _ v w w' (fun e=>hil (by rw [← e];exact hj)) (hp j hj) h2
      ·simp at hj;subst hj;rw [hmap j hdl,hnew];exact h1
     ·intro j hj m hm hne;rcases List.mem_append.1 hj with hj' | hj' <;> rcases List.mem_append.1 hm with hm' | hm'
      ·rw [hsame j hj',hsame m hm'];exact hcx j hj' m hm' hne
      ·simp at hm';subst hm';rw [hsame j hj',hnew];exact (hcross j m _ _ v w w' hne (hp j hj') h2).1
      ·simp at hj';subst hj';rw [hsame m hm',hnew];exact (hcross m j _ _ v w w' (Ne.symm hne) (hp m hm') h2).2
      ·simp at hj' hm';subst hj' hm';exact absurd rfl hne
def FinR (P:Program) (ops:Array Oper) (Q:Exit→Act→World→Prop) (Iv:World→Prop) (Cx:Nat→Nat→Value→Value→Prop) (a:Act) (Px:Nat→List Value→Value→World→Prop) (dp:Nat→List Nat) (L:List Nat):Prop :=
 ∀ (vs:Nat→Value) (w:World),Iv w→(∀ i∈L,Px i ((dp i).map vs) (vs i) w)→(∀ i∈L,∀ j∈L,i≠j→Cx i j (vs i) (vs j))→∀ fuel,qA (zY ops.size L) ops.size≤fuel→wpAny P .any ops Q fuel (zY ops.size L) ⟨zH ops vs a.tmps L,a.defers⟩ w
theorem FinR.intro {Iv:World→Prop} {Cx:Nat→Nat→Value→Value→Prop} {a:Act} {Px:Nat→List Value→Value→World→Prop} {dp:Nat→List Nat} {L:List Nat} (DS:List (Nat×Option Tmp)) (ARR:Array Bool) (m:Nat)
  (hds:L.map (fun j=>(j,qi ops j))=DS) (harr:zY ops.size L=ARR) (hun:qA ARR ops.size=m)
  (h:∀ (vs:Nat→Value) (w:World),Iv w→(∀ i∈L,Px i ((dp i).map vs) (vs i) w)→(∀ i∈L,∀ j∈L,i≠j→Cx i j (vs i) (vs j))→∀ k,wpAny P .any ops Q (k+m) ARR ⟨zm vs a.tmps DS,a.defers⟩ w):FinR P ops Q Iv Cx a Px dp L:=by
 intro vs w h1 h2 h3 fuel hf;rw [harr,hun] at hf;have:=h vs w h1 h2 h3 (fuel-m);rw [show fuel-m+m=fuel by omega] at this;rw [harr,zcG,hds];exact this
theorem StepR.intro {Iv:World→Prop} {Rl:Nat→Value→World→World→Prop} {a:Act} {Px:Nat→List Value→Value→World→Prop} {dp:Nat→List Nat} {i:Nat} {o:Oper} (ho:ops[i]?=some o) (DS:List (Nat×Option Tmp)) (hds:(dp i).map (fun j=>(j,qi ops j))=DS)
  (h:∀ (vs:Nat→Value) (w:World),Iv w→(∀ j∈dp i,Px j ((dp j).map vs) (vs j) w) →
    ∀ K:Act→World→Prop,Shut (∀ v w',Px i ((dp i).map vs) v w'→Rl i v w w'→K (Act.put ⟨zm vs a.tmps DS,a.defers⟩ o.dst v) w') →
     if Region.wanted o (yielded ops (Act.mk (zm vs a.tmps DS) a.defers).tmps)=true then Oper.wp P o ⟨zm vs a.tmps DS,a.defers⟩ w K (fun _ _ _=>False) else K (Act.put ⟨zm vs a.tmps DS,a.defers⟩ o.dst undef) w):StepR P ops Iv Rl a Px dp i:=by
 intro o' ho' vs w hb hd K hK;rw [ho] at ho';cases ho';have:=h vs w hb hd K;rw [← hds,← zcG] at this;exact this hK
theorem zgd (Iv:World→Prop) (Rl:Nat→Value→World→World→Prop) (Cx:Nat→Nat→Value→Value→Prop) (PX:List (List Value→Value→World→Prop)) (DP:List (List Nat)) (L1 ex:List Nat) (n:Nat) {id:Nat} {a:Act} {w:World} (hm:P.follows .mixedOrders=true)
  (hn:a.tmps.size=n) (hok:Region.propsB .any ops L1 (L1++ex) (fun i=>DP.getD i []) n=true) (hI:Iv w.drew) (hinv:∀ j v w w',Iv w→Rl j v w w'→Iv w')
  (hmono:∀ i j l v v' w w',i≠j→(PX.getD i fun _ _ _=>True) l v w→Rl j v' w w'→(PX.getD i fun _ _ _=>True) l v w')
  (hcross:∀ i j l v v' w w',i≠j→(PX.getD i fun _ _ _=>True) l v w→Rl j v' w w'→Cx i j v v'∧Cx j i v' v)
  (hstep:∀ i∈L1++ex,StepR P ops Iv Rl a (fun i=>PX.getD i fun _ _ _=>True) (fun i=>DP.getD i []) i)
  (hfin:∀ bs:List Bool,bs.length=ex.length→FinR P ops Q Iv Cx a (fun i=>PX.getD i fun _ _ _=>True) (fun i=>DP.getD i []) (L1++zU ex bs)):(Code.region id ops true).wp P Q a w:=by
 subst hn;refine wp_region_any hm ?_;have:=oY (P:=P) (Q:=Q) (md:=.any) (Cx:=Cx) (Region.propsB_spec hok) hmono hinv hcross hstep hfin ops.size (Array.replicate ops.size false) [] (fun _=>undef) w.drew (by simp)
  (fun k o ho hk=>by simp [Array.getD_eq_getD_getElem?,Array.getElem?_replicate] at hk;split at hk <;> simp at hk) ?_ (fun i=>⟨fun h=>(by cases h),fun h=>by simp [Array.getD_eq_getD_getElem?,Array.getElem?_replicate] at h;split at h <;> simp at h⟩) (fun _ h=>by cases h) hI (fun _ h=>by cases h) (fun _ h=>by cases h)
 ·exact this
 ·have:∀ (l:Array Bool) n,qA l n≤n:=fun l n=>by
   induction n with
   | zero=>exact zu _
   | succ n ih=>unfold qA;split <;> omega
  exact this _ _
end
end Go
end
section
open Go Go.RowKit Cs
namespace Go
structure Far2 (V:World) (r1 r2:Option Nat) (W:World):Prop where
 os:W.os=V.os
 tape:W.tape=V.tape
 output:W.output=V.output
 size:V.heap.size≤W.heap.size
 block:∀ k,k<V.heap.size→some k≠r1→some k≠r2→W.heap[k]?=V.heap[k]?
theorem Far2.below {V W:World} {r1 r2:Option Nat} (h:Far2 V r1 r2 W) {w:World} {B:Nat} (hb:Below B w V) (hB:B≤V.heap.size) (h1:∀ k,r1=some k→B≤k) (h2:∀ k,r2=some k→B≤k):Below B w W :=
 hb.trans ⟨h.os,h.tape,h.output,h.size,fun k hk=>h.block k (by omega) (fun e=>by have:=h1 k e.symm;omega) (fun e=>by have:=h2 k e.symm;omega)⟩
structure NewKept (V W W':World):Prop where
 size:W.heap.size≤W'.heap.size
 block:∀ k,V.heap.size≤k→k<W.heap.size→W'.heap[k]?=W.heap[k]?
theorem NewKept.row {V W W':World} (h:NewKept V W W') {g n:Nat} {t:TypeId} {f:Nat→Value} (hr:W.rowIs g t n f) (hg:V.heap.size≤g):W'.rowIs g t n f :=
 hr.of_block (h.block g hg hr.lt)
structure Two (V:World) (base:Nat) (e:TypeId) (size:Nat) (s1:Value) (k:Nat) (xs:List Value) (s2:Value) (m:Nat) (ys:List Value) (W:World):Prop where
 far:Far2 V s1.ownBlock s2.ownBlock W
 o1:W.ownsRow base e size s1 k xs
 o2:W.ownsRow base e size s2 m ys
def ApR (base:Nat) (e:TypeId) (size:Nat) (s:Value) (k:Nat) (xs:List Value) (v:Value) (W W':World):Prop :=
 W.grownBy W' s.ownBlock∧W'.ownsRow base e size s k xs∧(v.ownBlock=s.ownBlock∨v.ownBlock=some W.heap.size)
def ApP (V:World) (base:Nat) (e:TypeId) (size:Nat) (s:Value) (k:Nat) (xs:List Value) (v:Value) (W:World):Prop :=
 W.ownsRow base e size v k xs∧(v.ownBlock=s.ownBlock∨∃ b,v.ownBlock=some b∧V.heap.size≤b)
def RlTwo (a1 a2:Nat) (base:Nat) (e:TypeId) (size:Nat) (s1:Value) (k:Nat) (xs:List Value) (s2:Value) (m:Nat) (ys:List Value) (i:Nat) (v:Value) (W W':World):Prop :=
 (i=a1→ApR base e size s1 k xs v W W')∧(i=a2→ApR base e size s2 m ys v W W')∧(i≠a1→i≠a2→Below W.heap.size W W')
theorem Two.refl {V:World} {base:Nat} {e:TypeId} {size:Nat} {s1:Value} {k:Nat} {xs:List Value} {s2:Value} {m:Nat} {ys:List Value} (o1:V.ownsRow base e size s1 k xs) (o2:V.ownsRow base e size s2 m ys):Two V base e size s1 k xs s2 m ys V :=
 ⟨⟨rfl,rfl,rfl,zu _,fun _ _ _ _=>rfl⟩,o1,o2⟩
theorem Two.drew {V:World} {base:Nat} {e:TypeId} {size:Nat} {s1:Value} {k:Nat} {xs:List Value} {s2:Value} {m:Nat} {ys:List Value} {W:World} (h:Two V base e size s1 k xs s2 m ys W):Two V base e size s1 k xs s2 m ys W.drew :=
 ⟨⟨h.far.os,h.far.tape,h.far.output,h.far.size,h.far.block⟩,h.o1,h.o2⟩
section
variable {P:Program} {ops:Array Oper} {Q:Exit→Act→World→Prop} {V:World} {base:Nat} {e:TypeId} {size:Nat} {s1:Value} {k:Nat} {xs:List Value} {s2:Value} {m:Nat} {ys:List Value} {a1 a2:Nat}
theorem RlTwo.new {W W':World} {i:Nat} {v:Value} (o1:V.ownsRow base e size s1 k xs) (o2:V.ownsRow base e size s2 m ys) (h:RlTwo a1 a2 base e size s1 k xs s2 m ys i v W W'):NewKept V W W':=by
 by_cases h1:i=a1
 ·obtain ⟨g,_,_⟩:=h.1 h1;exact ⟨g.size,fun b hb hbw=>g.block b hbw fun he=>by have:=(o1.lt b he.symm).2;omega⟩
 ·by_cases h2:i=a2
  ·obtain ⟨g,_,_⟩:=h.2.1 h2;exact ⟨g.size,fun b hb hbw=>g.block b hbw fun he=>by have:=(o2.lt b he.symm).2;omega⟩
  ·have g:=h.2.2 h1 h2;exact ⟨g.size,fun b _ hbw=>g.block b hbw⟩
theorem ApP.kept {s:Value} {j:Nat} {zs:List Value} {v:Value} {W W':World} {r:Option Nat} (h:ApP V base e size s j zs v W) (hg:W.grownBy W' r) (hr:∀ b,r=some b→b<V.heap.size) (hd:∀ b,s.ownBlock=some b→r≠some b):ApP V base e size s j zs v W':=by
 refine ⟨h.1.kept hg ?_,h.2⟩;cases hv:v.ownBlock with
 | none=>exact Or.inl rfl
 | some b =>
   refine Or.inr fun he=>?_;rcases h.2 with h2 | ⟨b',h2,hb'⟩
   ·rw [hv] at h2;exact hd b h2.symm he.symm
   ·rw [hv] at h2;have:=hr b he.symm;simp only [Option.some.injEq] at h2;omega
theorem ApP.below {s:Value} {j:Nat} {zs:List Value} {v:Value} {W W':World} (h:ApP V base e size s j zs v W) (hb:Below W.heap.size W W'):ApP V base e size s j zs v W':=by
 refine ⟨h.1.kept (row:=none) ⟨hb.os,hb.tape,hb.output,hb.size,fun b hbk _=>hb.block b hbk⟩ ?_,h.2⟩;cases hv:v.ownBlock
 ·exact Or.inl rfl
 ·exact Or.inr (by simp)
theorem zd1 (n1 n2:List Value) (PX:List (List Value→Value→World→Prop)) (DP:List (List Nat)) (L1 ex:List Nat) (n:Nat) {id:Nat} {a:Act}
  (o1:V.ownsRow base e size s1 k xs) (o2:V.ownsRow base e size s2 m ys) (hdis:∀ b,s1.ownBlock=some b→s2.ownBlock≠some b) (h12:a1≠a2) (hm:P.follows .mixedOrders=true)
  (hn:a.tmps.size=n) (hok:Region.propsB .any ops L1 (L1++ex) (fun i=>DP.getD i []) n=true)
  (p1:PX.getD a1 (fun _ _ _=>True)=fun _ v W=>ApP V base e size s1 (k+1) (xs++n1) v W) (p2:PX.getD a2 (fun _ _ _=>True)=fun _ v W=>ApP V base e size s2 (m+1) (ys++n2) v W)
  (hne1:∀ (W:World) (v:Value) (zs:List Value) (j:Nat),W.ownsRow base e size v (j+1) zs→v.ownBlock≠none)
  (hst:∀ i,i≠a1→i≠a2→∀ l v W W',(PX.getD i fun _ _ _=>True) l v W→NewKept V W W'→(PX.getD i fun _ _ _=>True) l v W')
  (hstep:∀ i∈L1++ex,StepR P ops (Two V base e size s1 k xs s2 m ys) (RlTwo a1 a2 base e size s1 k xs s2 m ys) a (fun i=>PX.getD i fun _ _ _=>True) (fun i=>DP.getD i []) i)
  (hfin:∀ bs:List Bool,bs.length=ex.length→FinR P ops Q (Two V base e size s1 k xs s2 m ys) (fun i j v v'=>(i=a1∧j=a2)∨(i=a2∧j=a1)→v.ownBlock≠v'.ownBlock) a (fun i=>PX.getD i fun _ _ _=>True) (fun i=>DP.getD i []) (L1++zU ex bs)):(Code.region id ops true).wp P Q a V:=by
 have l1:∀ b,s1.ownBlock=some b→b<V.heap.size:=fun b hb=>(o1.lt b hb).2;have l2:∀ b,s2.ownBlock=some b→b<V.heap.size:=fun b hb=>(o2.lt b hb).2;have hdis':∀ b,s2.ownBlock=some b→s1.ownBlock≠some b:=fun b hb he=>hdis b he hb;refine zgd (Two V base e size s1 k xs s2 m ys) (RlTwo a1 a2 base e size s1 k xs s2 m ys) _ PX DP L1 ex n hm hn hok (Two.refl o1 o2).drew ?_ ?_ ?_ hstep hfin
 ·intro j v W W' hI hr;by_cases h1:j=a1
  ·obtain ⟨g,o,_⟩:=hr.1 h1;refine ⟨⟨g.os.trans hI.far.os,g.tape.trans hI.far.tape,g.output.trans hI.far.output,Nat.le_trans hI.far.size g.size,fun b hb x1 x2=>(g.block b (Nat.lt_of_lt_of_le hb hI.far.size) x1).trans (hI.far.block b hb x1 x2)⟩,o,hI.o2.kept g ?_⟩;cases hv:s2.ownBlock with
   | none=>exact Or.inl rfl
   | some b=>exact Or.inr fun he=>hdis' b hv he.symm
  ·by_cases h2:j=a2
   ·obtain ⟨g,o,_⟩:=hr.2.1 h2;refine ⟨⟨g.os.trans hI.far.os,g.tape.trans hI.far.tape,g.output.trans hI.far.output,Nat.le_trans hI.far.size g.size,fun b hb x1 x2=>(g.block b (Nat.lt_of_lt_of_le hb hI.far.size) x2).trans (hI.far.block b hb x1 x2)⟩,hI.o1.kept g ?_,o⟩;cases hv:s1.ownBlock with
    | none=>exact Or.inl rfl
    | some b=>exact Or.inr fun he=>hdis b hv he.symm
   ·have g:=hr.2.2 h1 h2;have gg:W.grownBy W' none:=⟨g.os,g.tape,g.output,g.size,fun b hb _=>g.block b hb⟩;refine ⟨⟨g.os.trans hI.far.os,g.tape.trans hI.far.tape,g.output.trans hI.far.output,Nat.le_trans hI.far.size g.size,fun b hb x1 x2=>(g.block b (Nat.lt_of_lt_of_le hb hI.far.size)).trans (hI.far.block b hb x1 x2)⟩,hI.o1.kept gg ?_,hI.o2.kept gg ?_⟩
    ·cases s1.ownBlock <;> simp
    ·cases s2.ownBlock <;> simp
 ·intro i j l v v' W W' hij hp hr;by_cases i1:i=a1
  ·subst i1;rw [p1] at hp ⊢;by_cases h2:j=a2
   ·exact hp.kept (hr.2.1 h2).1 l2 fun b hb he=>hdis b hb he
   ·exact hp.below (hr.2.2 (fun e=>hij e.symm) h2)
  ·by_cases i2:i=a2
   ·subst i2;rw [p2] at hp ⊢;by_cases h1:j=a1
    ·exact hp.kept (hr.1 h1).1 l1 fun b hb he=>hdis' b hb he
    ·exact hp.below (hr.2.2 h1 (fun e=>hij e.symm))
   ·exact hst i i1 i2 l v W W' hp (hr.new o1 o2)
 ·intro i j l v v' W W' hij hp hr;have key:(i=a1∧j=a2)∨(i=a2∧j=a1)→v.ownBlock≠v'.ownBlock:=by
   rintro (⟨rfl,rfl⟩ | ⟨rfl,rfl⟩) he
   ·rw [p1] at hp;have hnn:=hne1 _ _ _ _ hp.1;obtain ⟨b,hb⟩:∃ b,v.ownBlock=some b:=Option.ne_none_iff_exists'.1 hnn;have hlt:=(hp.1.lt b hb).2;have hb':v'.ownBlock=some b:=he.symm.trans hb;rcases (hr.2.1 rfl).2.2 with h2 | h2
    ·have hs2:s2.ownBlock=some b:=h2.symm.trans hb';rcases hp.2 with h3 | ⟨b3,h3,h4⟩
     ·exact hdis b (h3.symm.trans hb) hs2
     ·rw [hb] at h3;have:=l2 b hs2;simp only [Option.some.injEq] at h3;omega
    ·rw [hb'] at h2;simp only [Option.some.injEq] at h2;omega
   ·rw [p2] at hp;have hnn:=hne1 _ _ _ _ hp.1;obtain ⟨b,hb⟩:∃ b,v.ownBlock=some b:=Option.ne_none_iff_exists'.1 hnn;have hlt:=(hp.1.lt b hb).2;have hb':v'.ownBlock=some b:=he.symm.trans hb;rcases (hr.1 rfl).2.2 with h2 | h2
    ·have hs1:s1.ownBlock=some b:=h2.symm.trans hb';rcases hp.2 with h3 | ⟨b3,h3,h4⟩
     ·exact hdis' b (h3.symm.trans hb) hs1
     ·rw [hb] at h3;have:=l1 b hs1;simp only [Option.some.injEq] at h3;omega
    ·rw [hb'] at h2;simp only [Option.some.injEq] at h2;omega
  exact ⟨key,fun h he=>key (h.elim (fun ⟨h1,h2⟩=>Or.inr ⟨h2,h1⟩) fun ⟨h1,h2⟩=>Or.inl ⟨h2,h1⟩) he.symm⟩
end
theorem zef {W:World} {base:Nat} {e:TypeId} {size:Nat} {v:Value} {zs:List Value} {j:Nat} (h:W.ownsRow base e size v (j+1) zs):v.ownBlock≠none:=by
 rcases h.2 with ⟨_,h0⟩ | ⟨g,cap,cur,rfl,_⟩
 ·omega
 ·simp [Value.ownBlock]
end Go
end
section
set_option maxRecDepth 100000
set_option maxHeartbeats 400000
section
open Go Go.RowKit Cs
namespace Cs
def wt (nt l:Int):Nat:=if l=nt then 0 else 1
def qu (N:Nt):Int:=if zG N then (if qt N then (if qJ N then 0 else 2) else 210) else 1
end Cs
namespace Go.Proofs.YtmhllppjcilllaaGreatDoor
theorem zfw (w:World) (N:Nt) (A:Option Addr) (c:Nat) (hlen:N.l.length≤140737488355328) (hN:NtAt w w.heap.size A N.l) (hT:Tab w) :
  Calls Tryz.prog 79 #[qg N A c] w fun e w'=>e = .returned (.int .i64 (qu N))∧Below w.heap.size w w':=by
 have hbox:=yQ w N A c 24 _ rfl;have hbl:Below w.heap.size w (w.alloc (.cells #[.int .i64 N.n,.slice A N.l.length c] 24)):=(zx _ _).alloc (zu _) _;cases hv:zG N
 ·have hck:qu N=1:=by unfold qu;rw [hv];rfl
  have hnc:∀ W,NtAt W W.heap.size A N.l→Calls Tryz.prog 46 #[qg N A c] W fun e w'=>e = .returned (.int .i64 1)∧Below W.heap.size W w':=fun W h=>by
   have:=zbs W N A c hlen h;have h2:je N=1:=by unfold je;rw [hv];rfl
   rwa [h2] at this
  rw [hck];have HNC:=zb hnc;clear hck hnc hv;obtain ⟨n,l⟩:=N;go_enter Tryz.func79, Tryz.ntmps79;go_wp2_with (
   go_at_call 46;(with_reducible refine (HNC.out _ ((hN.below hbl).more hbl.size)).mono ?_);rintro e w5 ⟨rfl,hb5⟩;have hbl5:=zw hbl hb5 hbl.size)
  go_ret;exact ⟨rfl,hbl5⟩
 ·have hck:qu N=if qt N then (if qJ N then 0 else 2) else 210:=by unfold qu;rw [hv];rfl
  have hnc:∀ W,NtAt W W.heap.size A N.l→Calls Tryz.prog 46 #[qg N A c] W fun e w'=>e = .returned (.int .i64 0)∧Below W.heap.size W w':=fun W h=>by
   have:=zbs W N A c hlen h;have h2:je N=0:=by unfold je;rw [hv];rfl
   rwa [h2] at this
  have hdc:=fun W h=>zen W N A c h hv;have hsh:=fun W h hT=>xE W N A c h hv hT;rw [hck];have HNC:=zb hnc;clear hck hnc hv;cases hd:qt N
  ·rw [hd] at hdc;have HDC:=zb hdc;clear hdc hd hsh;obtain ⟨n,l⟩:=N;go_enter Tryz.func79, Tryz.ntmps79;go_wp2_with (first
    | (go_at_call 46
       (with_reducible refine (HNC.out _ ((hN.below hbl).more hbl.size)).mono ?_);rintro e w5 ⟨rfl,hb5⟩;have hbl5:=zw hbl hb5 hbl.size;have hbox5:=zo hbox hb5;obtain ⟨hc1,hc2⟩:=qy hbox5)
    | (go_at_call 25
       (with_reducible refine (HDC.out _ ((hN.below hbl5).more hbl5.size)).mono ?_);rintro e w6 ⟨rfl,hb6⟩;have hbl6:=zw hbl5 hb6 hbl5.size))
   go_ret;exact ⟨rfl,hbl6⟩
  ·rw [hd] at hdc;have HDC:=zb hdc;clear hdc hd;cases hs:qJ N
   all_goals
    rw [hs] at hsh;have HSH:=zb hsh;clear hsh hs;obtain ⟨n,l⟩:=N;go_enter Tryz.func79, Tryz.ntmps79;go_wp2_with (first
     | (go_at_call 46
        (with_reducible refine (HNC.out _ ((hN.below hbl).more hbl.size)).mono ?_);rintro e w5 ⟨rfl,hb5⟩;have hbl5:=zw hbl hb5 hbl.size;have hbox5:=zo hbox hb5;obtain ⟨hc1,hc2⟩:=qy hbox5)
     | (go_at_call 25
        (with_reducible refine (HDC.out _ ((hN.below hbl5).more hbl5.size)).mono ?_);rintro e w6 ⟨rfl,hb6⟩;have hbl6:=zw hbl5 hb6 hbl5.size;have hbox6:=zo hbox5 hb6;obtain ⟨hc3,hc4⟩:=qy hbox6)
     | (go_at_call 122
        (with_reducible refine (HSH.out _ ((hN.below hbl6).more hbl6.size) (hT.below hbl6)).mono ?_);rintro e w7 ⟨rfl,hb7⟩;have hbl7:=zw hbl6 hb7 hbl6.size))
    go_ret;exact ⟨rfl,hbl7⟩
end Go.Proofs.YtmhllppjcilllaaGreatDoor
end
section
open Go Go.RowKit Cs
namespace Cs
theorem o9 (s:Nat):∀ v∈vl s,1≤v∧v≤128:=by
 intro v hv;rw [zjL,List.mem_map] at hv;obtain ⟨u,hu,rfl⟩:=hv;unfold zgW at hu;simp at hu;omega
end Cs
end
end
section
section
open Go Go.RowKit Cs
namespace Cs
def jp (s:Nat) (l:Int):Bool:=decide (zQ l≠0)&&(s.testBit ((zQ l).toNat-1)==decide (0<l))
end Cs
namespace Cs
def b1 (b:Bool):Nat:=if b then 1 else 0
end Cs
end
end
