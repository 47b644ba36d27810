import Derived.Test.YtmhllppjcilllaaGreatDoorQ2
import Derived.Test.YtmhllppjcilllaaGreatDoorBq
import Derived.Test.YtmhllppjcilllaaGreatDoorN1
import Derived.Laws.AppendOwn
import Derived.Laws.OwnMore
import Derived.Maps.AppendAt
set_option linter.unusedSimpArgs false
set_option linter.unusedVariables false
section
open Go Go.RowKit Cs
namespace Go
section
variable {P:Program} {ops:Array Oper} {Q:Exit→Act→World→Prop} {md:Region.Mode}
def StepO (P:Program) (ops:Array Oper) (Iv:World→Prop) (Rl:Nat→List Value→Value→World→World→Prop) (a:Act) (Px:Nat→List Value→Value→World→Prop) (dp:Nat→List Nat) (i:Nat):Prop :=
 ∀ o,ops[i]?=some o→∀ (vs:Nat→Value) (w:World),Iv w→(∀ j∈dp i,Px j ((dp j).map vs) (vs j) w) →
  ∀ K:Act→World→Prop,Shut (∀ v w',Px i ((dp i).map vs) v w'→Rl i ((dp i).map vs) v w w'→K (Act.put ⟨zH ops vs a.tmps (dp i),a.defers⟩ o.dst v) w') →
   if Region.wanted o (yielded ops (Act.mk (zH ops vs a.tmps (dp i)) a.defers).tmps)=true then Oper.wp P o ⟨zH ops vs a.tmps (dp i),a.defers⟩ w K (fun _ _ _=>False) else K (Act.put ⟨zH ops vs a.tmps (dp i),a.defers⟩ o.dst undef) w
theorem StepO.wpOp {Iv:World→Prop} {Rl:Nat→List Value→Value→World→World→Prop} {a0:Act} {Px:Nat→List Value→Value→World→Prop} {dp:Nat→List Nat} {i:Nat} {o:Oper} (h:StepO P ops Iv Rl a0 Px dp i) (ho:ops[i]?=some o) (hsel:∀ cs b,o.op≠.select cs b)
  {vs:Nat→Value} {w:World} {l:List Nat} (hb:Iv w) (hd:∀ j∈dp i,Px j ((dp j).map vs) (vs j) w)
  (hl:∀ s∈o.looksAt ops,(zH ops vs a0.tmps l)[s]?=(zH ops vs a0.tmps (dp i))[s]?) {K:Act→World→Prop}
  (hK:∀ v w',Px i ((dp i).map vs) v w'→Rl i ((dp i).map vs) v w w'→K (Act.put ⟨zH ops vs a0.tmps l,a0.defers⟩ o.dst v) w') :
  Go.wpOp P ops Q i K ⟨zH ops vs a0.tmps l,a0.defers⟩ w:=by
 obtain ⟨B,hB⟩:∃ B:Act,B=⟨zH ops vs a0.tmps (dp i),a0.defers⟩:=⟨_,rfl⟩;obtain ⟨C,hC⟩:∃ C:Act,C=⟨zH ops vs a0.tmps l,a0.defers⟩:=⟨_,rfl⟩;have hsz:C.tmps.size=B.tmps.size:=by rw [hB,hC];show (zH ..).size=(zH ..).size;rw [zbr,zbr]
 have hdf:C.defers=B.defers:=by rw [hB,hC]
 have hl':∀ s∈o.looksAt ops,C.tmps[s]?=B.tmps[s]?:=by rw [hB,hC];exact hl
 have hk:∀ u w' v,B.put o.dst u=B.put o.dst v→Px i ((dp i).map vs) v w'→Rl i ((dp i).map vs) v w w'→K (C.put o.dst u) w':=fun u w' v e h1 h2=>by
  rw [zgq hsz e,hC];exact hK v w' h1 h2
 have hstep:=h o ho vs w hb hd (fun a' w'=>∃ v,a'=B.put o.dst v∧Px i ((dp i).map vs) v w'∧Rl i ((dp i).map vs) v w w')
  (fun v w' h1 h2=>⟨v,by rw [hB],h1,h2⟩)
 rw [← hB] at hstep;rw [← hC];clear hK hl;unfold Go.wpOp;rw [ho];simp only [];rw [zcj o C.tmps B.tmps hl'];split
 ·rename_i hw;rw [if_pos hw] at hstep;refine .inl ?_;unfold Oper.wp at *
  rw [zde o hsel C B hl'];generalize (execOp B.eval o).run P w=r at *
  cases r with
  | ok n w' =>
    cases n <;> simp only [Oper.upon] at hstep ⊢
    case value u=>obtain ⟨v,e,h1,h2⟩:=hstep;exact hk u w' v e h1 h2
    case skip=>obtain ⟨v,e,h1,h2⟩:=hstep;exact hk _ w' v e h1 h2
    case defer d =>
     obtain ⟨v,e,_⟩:=hstep
     exfalso
     have:(Act.put { B with defers:=d::B.defers } o.dst undef).defers=(B.put o.dst v).defers:=by rw [e]
     have e1:∀ (x:Act) (d:Option Tmp) (v:Value),(x.put d v).defers=x.defers:=fun x d v=>by cases d <;> rfl
     rw [e1,e1] at this;exact absurd this (List.cons_ne_self _ _)
    case enter f args =>
     refine Calls.mono hstep fun e w'' he=>?_;cases e with
     | returned u=>obtain ⟨v,e,h1,h2⟩:=he;exact hk u w'' v e h1 h2
     | panicked c=>exact he.elim
     | outgrown=>obtain ⟨_,_,h⟩:=he;exact h.elim
    case row row args=>exact Rows.mono hstep fun u w'' he=>by obtain ⟨v,e,h1,h2⟩:=he;exact hk u w'' v e h1 h2
    all_goals exact hstep
  | halt x w' =>
    cases x <;> simp only [Oper.upon] at hstep
 ·rename_i hw;rw [if_neg hw] at hstep;obtain ⟨v,e,h1,h2⟩:=hstep;exact hk _ w v e h1 h2
theorem StepO.intro {Iv:World→Prop} {Rl:Nat→List Value→Value→World→World→Prop} {a:Act} {Px:Nat→List Value→Value→World→Prop} {dp:Nat→List Nat} {i:Nat} {o:Oper} (ho:ops[i]?=some o) (DS:List (Nat×Option Tmp)) (hds:(dp i).map (fun j=>(j,qi ops j))=DS)
  (h:∀ (vs:Nat→Value) (w:World),Iv w→(∀ j∈dp i,Px j ((dp j).map vs) (vs j) w) →
    ∀ K:Act→World→Prop,Shut (∀ v w',Px i ((dp i).map vs) v w'→Rl i ((dp i).map vs) v w w'→K (Act.put ⟨zm vs a.tmps DS,a.defers⟩ o.dst v) w') →
     if Region.wanted o (yielded ops (Act.mk (zm vs a.tmps DS) a.defers).tmps)=true then Oper.wp P o ⟨zm vs a.tmps DS,a.defers⟩ w K (fun _ _ _=>False) else K (Act.put ⟨zm vs a.tmps DS,a.defers⟩ o.dst undef) w):StepO P ops Iv Rl a Px dp i:=by
 intro o' ho' vs w hb hd K hK;rw [ho] at ho';cases ho';have:=h vs w hb hd K;rw [← hds,← zcG] at this;exact this hK
def RlO (al:Nat→Bool) (kl:Nat→Option Nat) (j:Nat) (dv:List Value) (v:Value) (w w':World):Prop :=
 (kl j=none→Below w.heap.size w w'∧(al j=true→∀ b,z7 v=some b→w.heap.size≤b∧b<w'.heap.size)) ∧
 (kl j≠none→w.grownBy w' (z7 (dv.headD undef))∧∀ b,z7 v=some b→(w.heap.size≤b∨z7 (dv.headD undef)=some b)∧b<w'.heap.size)
def pL (kl:Nat→Option Nat) (l:List Nat) (i:Nat):Prop:=∀ j∈l,kl j≠some i
structure KillOk (md:Region.Mode) (ops:Array Oper) (A:List Nat) (dp:Nat→List Nat) (al:Nat→Bool) (kl:Nat→Option Nat):Prop where
 head:∀ j∈A,∀ d,kl j=some d→(dp j).head?=some d∧al d=true∧al j=true
 dep:∀ j∈A,∀ d∈dp j,∀ k∈A,kl k=some d→k=j∨(Region.coverOf md ops k).getD j false=true
structure jK (V:World) (Px:Nat→List Value→Value→World→Prop) (al:Nat→Bool) (kl:Nat→Option Nat) (dp:Nat→List Nat) (l:List Nat) (vs:Nat→Value) (w:World):Prop where
 bl:Below V.heap.size V w
 px:∀ i∈l,pL kl l i→Px i ((dp i).map vs) (vs i) w
 bk:∀ i∈l,al i=true→pL kl l i→∀ b,z7 (vs i)=some b→V.heap.size≤b∧b<w.heap.size
 dis:∀ i∈l,∀ j∈l,i≠j→al i=true→al j=true→pL kl l i→pL kl l j→∀ b,z7 (vs i)=some b→z7 (vs j)≠some b
theorem zd4 {V:World} {Px:Nat→List Value→Value→World→Prop} {al:Nat→Bool} {kl:Nat→Option Nat} {dp:Nat→List Nat} {L1 ex:List Nat} {a0:Act}
  (hok:Region.PropsOk md ops L1 (L1++ex) dp a0.tmps.size)
  (hfin:∀ bs:List Bool,bs.length=ex.length→∀ (vs:Nat→Value) (w:World),jK V Px al kl dp (L1++zU ex bs) vs w →
    ∀ fuel,qA (zY ops.size (L1++zU ex bs)) ops.size≤fuel→wpAny P md ops Q fuel (zY ops.size (L1++zU ex bs)) ⟨zH ops vs a0.tmps (L1++zU ex bs),a0.defers⟩ w)
  {fuel:Nat} {listed:Array Bool} {l:List Nat} {vs:Nat→Value} {w:World} (hz:listed.size=ops.size) (hu:qA listed ops.size≤fuel) (hl:∀ i,i∈l↔listed.getD i false=true) (hA:∀ i∈l,i∈L1++ex)
  (hI:jK V Px al kl dp l vs w)
  (hall:∀ i∈L1,listed.getD i false=true):wpAny P md ops Q fuel listed ⟨zH ops vs a0.tmps l,a0.defers⟩ w:=by
 have hmem:∀ i,i∈L1++zU ex (ex.map fun i=>listed.getD i false)↔i∈l:=fun i=>by
  rw [zdC,List.mem_append,List.mem_filter,hl i];constructor
  ·rintro (h | h)
   ·exact hall i h
   ·exact h.2
  ·intro h;rcases List.mem_append.1 (hA i ((hl i).2 h)) with h' | h'
   ·exact .inl h'
   ·exact .inr ⟨h',h⟩
 have hli:zY ops.size (L1++zU ex (ex.map fun i=>listed.getD i false))=listed:=by
  refine Array.ext (by simp [zY,hz]) fun i h1 h2=>?_;have e1:(zY ops.size (L1++zU ex (ex.map fun i=>listed.getD i false)))[i]=(L1++zU ex (ex.map fun i=>listed.getD i false)).contains i:=by simp [zY]
  rw [e1];have e2:listed.getD i false=listed[i]:=by simp [h2]
  rw [← e2];cases hc:listed.getD i false with
  | true=>rw [List.contains_iff_mem];exact (hmem i).2 ((hl i).2 hc)
  | false =>
    refine Bool.eq_false_iff.2 fun h=>?_;rw [List.contains_iff_mem] at h;rw [(hl i).1 ((hmem i).1 h)] at hc;cases hc
 have hact:zH ops vs a0.tmps (L1++zU ex (ex.map fun i=>listed.getD i false))=zH ops vs a0.tmps l:=by
  refine Array.ext_getElem? fun s=>?_;by_cases hex:∃ j,j∈l∧qi ops j=some s
  ·obtain ⟨j,hj,hjs⟩:=hex;have hsz:=hok.dst j (hA j hj) s hjs;rw [yz vs s j hjs l _ hj (fun m hm e=>hok.uniq m (hA m hm) j (hA j hj) s e hjs) hsz,yz vs s j hjs _ _ ((hmem j).2 hj) (fun m hm e=>hok.uniq m (hA m ((hmem m).1 hm)) j (hA j hj) s e hjs) hsz]
  ·rw [yC vs s l _ fun j hj e=>hex ⟨j,hj,e⟩,yC vs s _ _ fun j hj e=>hex ⟨j,(hmem j).1 hj,e⟩]
 have hI2:jK V Px al kl dp (L1++zU ex (ex.map fun i=>listed.getD i false)) vs w:=by
  have ha:∀ i,pL kl (L1++zU ex (ex.map fun i=>listed.getD i false)) i→pL kl l i:=fun i h j hj=>h j ((hmem j).2 hj);exact ⟨hI.bl,fun i hi h=>hI.px i ((hmem i).1 hi) (ha i h),fun i hi h1 h=>hI.bk i ((hmem i).1 hi) h1 (ha i h),fun i hi j hj hne h1 h2 h3 h4=>hI.dis i ((hmem i).1 hi) j ((hmem j).1 hj) hne h1 h2 (ha i h3) (ha j h4)⟩
 have h:=hfin (ex.map fun i=>listed.getD i false) (by simp) vs w hI2 fuel (by rw [hli];exact hu);rw [hli,hact] at h;exact h
theorem oZ {V:World} {Px:Nat→List Value→Value→World→Prop} {al:Nat→Bool} {kl:Nat→Option Nat} {dp:Nat→List Nat} {L1 ex:List Nat} {a0:Act}
  (hok:Region.PropsOk md ops L1 (L1++ex) dp a0.tmps.size) (hkill:KillOk md ops (L1++ex) dp al kl)
  (hfree:∀ i,al i=false→∀ l v w w',Px i l v w→Px i l v w') (hloc:∀ i,al i=true→∀ l v (w w':World),Px i l v w→w.heap.size≤w'.heap.size→(∀ b,z7 v=some b→w'.heap[b]?=w.heap[b]?)→Px i l v w')
  (hstep:∀ i∈L1++ex,StepO P ops (fun w=>Below V.heap.size V w) (RlO al kl) a0 Px dp i)
  (hfin:∀ bs:List Bool,bs.length=ex.length→∀ (vs:Nat→Value) (w:World),jK V Px al kl dp (L1++zU ex bs) vs w →
    ∀ fuel,qA (zY ops.size (L1++zU ex bs)) ops.size≤fuel→wpAny P md ops Q fuel (zY ops.size (L1++zU ex bs)) ⟨zH ops vs a0.tmps (L1++zU ex bs),a0.defers⟩ w) :
  ∀ (fuel:Nat) (listed:Array Bool) (l:List Nat) (vs:Nat→Value) (w:World),listed.size=ops.size→Region.shutL md ops listed→qA listed ops.size≤fuel→(∀ i,i∈l↔listed.getD i false=true)→(∀ i∈l,i∈L1++ex) →
   jK V Px al kl dp l vs w→wpAny P md ops Q fuel listed ⟨zH ops vs a0.tmps l,a0.defers⟩ w:=by
 intro fuel
 induction fuel with
 | zero =>
   intro listed l vs w hz hcl hu hl hA hI;exact zd4 hok hfin hz hu hl hA hI fun i hi=>zep _ (by omega) i (hok.lt i (List.mem_append_left _ hi))
 | succ fuel ih =>
   intro listed l vs w hz hcl hu hl hA hI;by_cases hall:∀ i∈L1,listed.getD i false=true
   ·exact zd4 hok hfin hz hu hl hA hI hall
   ·have hall':∃ i,i∈L1∧listed.getD i false=false:=by
     refine Classical.byContradiction fun hne=>hall fun i hi=>?_;cases hc:listed.getD i false with
     | true=>rfl
     | false=>exact absurd ⟨i,hi,hc⟩ hne
    obtain ⟨k,hk,hkf⟩:=hall';have hkn:=hok.lt k (List.mem_append_left _ hk);refine ⟨fun hr=>absurd hr (zgm hz hok.back hkn hkf),fun i hi=>?_⟩;have hi':=hi;obtain ⟨hun,o,ho,hafter⟩:=mem_ready.1 hi;have hin:i<ops.size:=(Array.getElem?_eq_some_iff.1 ho).1;have hunf:listed.getD i false=false:=by
     have:i<listed.size:=by omega
     simp [this] at hun ⊢;exact hun
    have hiA:i∈L1++ex:=by
     refine Classical.byContradiction fun hne=>?_;have:=Region.coverOf_spec hcl hi (hok.last i hin hne k hk);rw [this] at hkf;cases hkf
    have hdl:∀ j∈dp i,j∈l:=fun j hj=>(hl j).2 (Region.coverOf_spec hcl hi (hok.dep i hiA j hj).1);have hil:i ∉ l:=fun h=>by rw [(hl i).1 h] at hunf;cases hunf
    have hali:∀ j∈dp i,pL kl l j:=fun j hj k hk he=>by
     rcases hkill.dep i hiA j hj k (hA k hk) he with e | e
     ·exact hil (e▸hk)
     ·exact hil ((hl i).2 (Region.coverOf_in hcl ((hl k).1 hk) e))
    refine (hstep i hiA).wpOp ho (Region.noSelect_spec hok.sel i o · · ho) hI.bl (fun j hj=>hI.px j (hdl j hj) (hali j hj)) (fun s hs=>?_) fun v w' h1 h2=>?_
    ·by_cases hex:∃ j,j∈l∧qi ops j=some s
     ·obtain ⟨j,hj,hjs⟩:=hex;have hjA:=hA j hj;have hjd:=hok.looks i hiA o ho s hs j hjA hjs;have hsz:=hok.dst j hjA s hjs;rw [yz vs s j hjs l _ hj (fun m hm e=>hok.uniq m (hA m hm) j hjA s e hjs) hsz,yz vs s j hjs (dp i) _ hjd (fun m hm e=>hok.uniq m (hok.dep i hiA m hm).2 j hjA s e hjs) hsz]
     ·rw [yC vs s l _ fun j hj e=>hex ⟨j,hj,e⟩,yC vs s (dp i) _ fun j hj e=>hex ⟨j,hdl j hj,e⟩]
    ·obtain ⟨vs',hvs⟩:∃ vs':Nat→Value,vs'=fun j=>if j=i then v else vs j:=⟨_,rfl⟩
     have hsame:∀ j,j∈l→vs' j=vs j:=fun j hj=>by rw [hvs];simp only [];rw [if_neg fun e=>hil (by rw [← e];exact hj)]
     have hnew:vs' i=v:=by rw [hvs];simp
     have hmap:∀ m,(∀ j∈dp m,j∈l)→(dp m).map vs'=(dp m).map vs:=fun m hm=>List.map_congr_left fun j hj=>hsame j (hm j hj);have hdm:∀ j∈l,∀ m∈dp j,m∈l:=fun j hj m hm=>(hl m).2 (Region.coverOf_in hcl ((hl j).1 hj) (hok.dep j (hA j hj) m hm).1);have hact:=zdA (a0:=a0) ho hok.uniq hok.dst hA hiA hsame hnew;rw [hact];refine ih (listed.setIfInBounds i true) (l++[i]) vs' w' (by simp [hz]) (Region.shutL_set hcl hi') ?_ ?_ ?_ ?_
     ·have:=(zeD (listed:=listed) (i:=i) ops.size).2 hin (by omega) hunf;omega
     ·intro j;rw [List.mem_append,List.mem_singleton,hl j];by_cases e:i=j
      ·subst e;have hlt:i<listed.size:=by omega
       simp [hlt]
      ·rw [getD_set_ne false e];exact ⟨fun h=>h.resolve_right (fun e'=>e e'.symm),.inl⟩
     ·intro j hj;rcases List.mem_append.1 hj with hj | hj
      ·exact hA j hj
      ·simp at hj;subst hj;exact hiA
     ·have hold:∀ j,j∈l→pL kl (l++[i]) j→pL kl l j:=fun j _ h m hm=>h m (List.mem_append_left _ hm);have hnk:∀ j,pL kl (l++[i]) j→kl i≠some j:=fun j h=>h i (by simp);have hstay:∀ j∈l,pL kl (l++[i]) j→al j=true→∀ b,z7 (vs j)=some b→w'.heap[b]?=w.heap[b]?∧(∀ b',z7 v=some b'→al i=true→b≠b'):=by
       intro j hj hal haj b hb;have hbw:=hI.bk j hj haj (hold j hj hal) b hb;cases hk:kl i with
       | none =>
         obtain ⟨g,g2⟩:=h2.1 hk;exact ⟨g.block b hbw.2,fun b' hb' ha=>by have:=(g2 ha b' hb').1;omega⟩
       | some d =>
         obtain ⟨g,g2⟩:=h2.2 (by rw [hk];simp);obtain ⟨hd1,hd2,_⟩:=hkill.head i hiA d hk;have hdd:d∈dp i:=List.mem_of_mem_head? hd1;have hhead:((dp i).map vs).headD undef=vs d:=by
          cases hq:dp i with
          | nil=>rw [hq] at hd1;cases hd1
          | cons x xs=>rw [hq] at hd1;simp at hd1;subst hd1;rfl
         rw [hhead] at g g2;have hjd:j≠d:=fun e=>hnk j hal (by rw [hk,e]);have hne:=hI.dis j hj d (hdl d hdd) hjd haj hd2 (hold j hj hal) (hali d hdd) b hb;refine ⟨g.block b hbw.2 (fun e=>hne e.symm),fun b' hb' _ e=>?_⟩;subst e;rcases (g2 b hb').1 with h | h
         ·omega
         ·exact hne h
      have hsz:w.heap.size≤w'.heap.size:=by
       cases hk:kl i with
       | none=>exact (h2.1 hk).1.size
       | some d=>exact (h2.2 (by rw [hk];simp)).1.size
      have hnewb:al i=true→∀ b,z7 v=some b→V.heap.size≤b∧b<w'.heap.size:=by
       intro ha b hb;cases hk:kl i with
       | none=>exact ⟨Nat.le_trans hI.bl.size ((h2.1 hk).2 ha b hb).1,((h2.1 hk).2 ha b hb).2⟩
       | some d =>
         obtain ⟨g,g2⟩:=h2.2 (by rw [hk];simp);obtain ⟨hd1,hd2,_⟩:=hkill.head i hiA d hk;have hdd:d∈dp i:=List.mem_of_mem_head? hd1;have hhead:((dp i).map vs).headD undef=vs d:=by
          cases hq:dp i with
          | nil=>rw [hq] at hd1;cases hd1
          | cons x xs=>rw [hq] at hd1;simp at hd1;subst hd1;rfl
         rw [hhead] at g2;refine ⟨?_,(g2 b hb).2⟩;rcases (g2 b hb).1 with h | h
         ·exact Nat.le_trans hI.bl.size h
         ·exact (hI.bk d (hdl d hdd) hd2 (hali d hdd) b h).1
      have hbl':Below V.heap.size V w':=by
       cases hk:kl i with
       | none=>exact hI.bl.trans ((h2.1 hk).1.mono hI.bl.size)
       | some d =>
         obtain ⟨g,g2⟩:=h2.2 (by rw [hk];simp);obtain ⟨hd1,hd2,_⟩:=hkill.head i hiA d hk;have hdd:d∈dp i:=List.mem_of_mem_head? hd1;have hhead:((dp i).map vs).headD undef=vs d:=by
          cases hq:dp i with
          | nil=>rw [hq] at hd1;cases hd1
          | cons x xs=>rw [hq] at hd1;simp at hd1;subst hd1;rfl
         rw [hhead] at g;exact hI.bl.grown g hI.bl.size fun b hb=>(hI.bk d (hdl d hdd) hd2 (hali d hdd) b hb).1
      refine ⟨hbl',?_,?_,?_⟩
      ·intro j hj hal;rcases List.mem_append.1 hj with hj | hj
       ·rw [hmap j (hdm j hj),hsame j hj];have hp:=hI.px j hj (hold j hj hal);cases haj:al j with
        | false=>exact hfree j haj _ _ w w' hp
        | true=>exact hloc j haj _ _ w w' hp hsz fun b hb=>(hstay j hj hal haj b hb).1
       ·simp at hj;subst hj;rw [hmap j hdl,hnew];exact h1
      ·intro j hj haj hal b hb;rcases List.mem_append.1 hj with hj | hj
       ·rw [hsame j hj] at hb;have:=hI.bk j hj haj (hold j hj hal) b hb;exact ⟨this.1,by omega⟩
       ·simp at hj;subst hj;rw [hnew] at hb;exact hnewb haj b hb
      ·intro j hj m hm hne haj ham hal1 hal2 b hb1 hb2;rcases List.mem_append.1 hj with hj' | hj' <;> rcases List.mem_append.1 hm with hm' | hm'
       ·rw [hsame j hj'] at hb1;rw [hsame m hm'] at hb2;exact hI.dis j hj' m hm' hne haj ham (hold j hj' hal1) (hold m hm' hal2) b hb1 hb2
       ·simp at hm';subst hm';rw [hsame j hj'] at hb1;rw [hnew] at hb2;exact (hstay j hj' hal1 haj b hb1).2 b hb2 ham rfl
       ·simp at hj';subst hj';rw [hsame m hm'] at hb2;rw [hnew] at hb1;exact (hstay m hm' hal2 ham b hb2).2 b hb1 haj rfl
       ·simp at hj' hm';subst hj' hm';exact absurd rfl hne
def killB (md:Region.Mode) (ops:Array Oper) (A:List Nat) (dp:Nat→List Nat) (AL:List Nat) (KL:List (Nat×Nat)):Bool :=
 (A.all fun j=>match KL.lookup j with | some d=>(dp j).head?==some d&&AL.contains d&&AL.contains j | none=>true) &&
 (A.all fun j=>(dp j).all fun d=>A.all fun k=>KL.lookup k != some d||k==j||(Region.coverOf md ops k).getD j false)
theorem zkt {A:List Nat} {dp:Nat→List Nat} {AL:List Nat} {KL:List (Nat×Nat)} (h:killB md ops A dp AL KL=true):KillOk md ops A dp (fun i=>AL.contains i) (fun j=>KL.lookup j):=by
 unfold killB at h;simp only [Bool.and_eq_true,List.all_eq_true] at h;obtain ⟨h1,h2⟩:=h;refine ⟨fun j hj d hd=>?_,fun j hj d hd k hk he=>?_⟩
 ·have:=h1 j hj;rw [show KL.lookup j=some d from hd] at this;simp only [Bool.and_eq_true,beq_iff_eq] at this;exact ⟨this.1.1,this.1.2,this.2⟩
 ·have:=h2 j hj d hd k hk;rw [show KL.lookup k=some d from he] at this;simpa using this
def FinO (P:Program) (ops:Array Oper) (Q:Exit→Act→World→Prop) (V:World) (a:Act) (Px:Nat→List Value→Value→World→Prop) (al:Nat→Bool) (kl:Nat→Option Nat) (dp:Nat→List Nat) (L:List Nat):Prop :=
 ∀ (vs:Nat→Value) (w:World),jK V Px al kl dp L vs w→∀ fuel,qA (zY ops.size L) ops.size≤fuel→wpAny P .any ops Q fuel (zY ops.size L) ⟨zH ops vs a.tmps L,a.defers⟩ w
theorem FinO.intro {V:World} {a:Act} {Px:Nat→List Value→Value→World→Prop} {al:Nat→Bool} {kl:Nat→Option Nat} {dp:Nat→List Nat} {L:List Nat} (DS:List (Nat×Option Tmp)) (ARR:Array Bool) (m:Nat)
  (hds:L.map (fun j=>(j,qi ops j))=DS) (harr:zY ops.size L=ARR) (hun:qA ARR ops.size=m)
  (h:∀ (vs:Nat→Value) (w:World),jK V Px al kl dp L vs w→∀ k,wpAny P .any ops Q (k+m) ARR ⟨zm vs a.tmps DS,a.defers⟩ w):FinO P ops Q V a Px al kl dp L:=by
 intro vs w h1 fuel hf;rw [harr,hun] at hf;have:=h vs w h1 (fuel-m);rw [show fuel-m+m=fuel by omega] at this;rw [harr,zcG,hds];exact this
theorem zd2 (PX:List (List Value→Value→World→Prop)) (AL:List Nat) (KL:List (Nat×Nat)) (DP:List (List Nat)) (L1 ex:List Nat) (n:Nat) {id:Nat} {a:Act} {w:World} (hm:P.follows .mixedOrders=true)
  (hn:a.tmps.size=n) (hok:Region.propsB .any ops L1 (L1++ex) (fun i=>DP.getD i []) n=true) (hk:killB .any ops (L1++ex) (fun i=>DP.getD i []) AL KL=true)
  (hfree:∀ i,AL.contains i=false→∀ l v w w',(PX.getD i fun _ _ _=>True) l v w→(PX.getD i fun _ _ _=>True) l v w')
  (hloc:∀ i,AL.contains i=true→∀ l v (w w':World),(PX.getD i fun _ _ _=>True) l v w→w.heap.size≤w'.heap.size→(∀ b,z7 v=some b→w'.heap[b]?=w.heap[b]?)→(PX.getD i fun _ _ _=>True) l v w')
  (hstep:∀ i∈L1++ex,StepO P ops (fun u=>Below w.drew.heap.size w.drew u) (RlO (fun i=>AL.contains i) (fun j=>KL.lookup j)) a (fun i=>PX.getD i fun _ _ _=>True) (fun i=>DP.getD i []) i)
  (hfin:∀ bs:List Bool,bs.length=ex.length→FinO P ops Q w.drew a (fun i=>PX.getD i fun _ _ _=>True) (fun i=>AL.contains i) (fun j=>KL.lookup j) (fun i=>DP.getD i []) (L1++zU ex bs)):(Code.region id ops true).wp P Q a w:=by
 subst hn;refine wp_region_any hm ?_;have:=oZ (P:=P) (Q:=Q) (md:=.any) (Region.propsB_spec hok) (zkt hk) hfree hloc hstep hfin ops.size (Array.replicate ops.size false) [] (fun _=>undef) w.drew (by simp)
  (fun k o ho hk=>by simp [Array.getD_eq_getD_getElem?,Array.getElem?_replicate] at hk;split at hk <;> simp at hk) ?_ (fun i=>⟨fun h=>(by cases h),fun h=>by simp [Array.getD_eq_getD_getElem?,Array.getElem?_replicate] at h;split at h <;> simp at h⟩) (fun _ h=>by cases h) ⟨zx _ _,fun _ h=>(nomatch h),fun _ h=>(nomatch h),fun _ h=>(nomatch h)⟩
 ·exact this
 ·have:∀ (l:Array Bool) n,qA l n≤n:=fun l n=>by
   induction n with
   | zero=>exact zu _
   | succ n ih=>unfold qA;split <;> omega
  exact this _ _
end
end Go
end
section
open Go Go.RowKit Cs
namespace Go
theorem qW {kl:Nat→Option Nat} {l:List Nat} {i:Nat} (h:(l.all fun j=>kl j != some i)=true):pL kl l i:=fun j hj=>by
 have:=List.all_eq_true.1 h j hj;simpa using this
theorem gI {w:World} {base:Nat} {e:TypeId} {sz:Nat} {v:Value} {n:Nat} {xs:List Value} (h:w.ownsRow base e sz v n xs):v.ownBlock=z7 v:=by
 rcases h.2 with ⟨rfl,_⟩ | ⟨g,cap,cur,rfl,_⟩ <;> rfl
theorem zgu {w w':World} {base:Nat} {e:TypeId} {sz:Nat} {v:Value} {n:Nat} {xs:List Value} (h:w.ownsRow base e sz v n xs) (hb:∀ b,z7 v=some b→w'.heap[b]?=w.heap[b]?):w'.ownsRow base e sz v n xs:=by
 refine ⟨h.1,?_⟩;rcases h.2 with hn | ⟨g,cap,cur,rfl,hg,hgg,rest⟩
 ·exact .inl hn
 ·exact .inr ⟨g,cap,cur,rfl,hg,(hb g rfl).trans hgg,rest⟩
theorem zgi {w w':World} {g n:Nat} {t:TypeId} {f:Nat→Value} (h:w.rowIs g t n f) (hb:∀ b,z7 (.pointer (some ⟨g,0,none⟩))=some b→w'.heap[b]?=w.heap[b]?):w'.rowIs g t n f:=h.of_block (hb g rfl)
section
variable {al:Nat→Bool} {kl:Nat→Option Nat} {j:Nat} {dv:List Value} {v v':Value} {W W':World}
theorem yU (h:kl j=none) (ha:al j=false):RlO al kl j dv v W W:=⟨fun _=>⟨zx _ _,fun h=>by rw [ha] at h;cases h⟩,fun h'=>absurd h h'⟩
theorem zgj (h:kl j=none) (ha:al j=false) (hb:Below W.heap.size W W'):RlO al kl j dv v W W':=⟨fun _=>⟨hb,fun h=>by rw [ha] at h;cases h⟩,fun h'=>absurd h h'⟩
theorem ziY (h:kl j=none) (o:Obj) (hv:z7 v=some W.heap.size):RlO al kl j dv v W (W.alloc o) :=
 ⟨fun _=>⟨(zx _ _).alloc (zu _) _,fun _ b hb=>by rw [hv] at hb;cases hb;exact ⟨zu _,by simp⟩⟩,fun h'=>absurd h h'⟩
theorem rl_app {base base':Nat} {e:TypeId} {sz n n':Nat} {xs ys:List Value} {v1:Value} (h:kl j≠none) (hd:dv.headD undef=v1) (o1:W.ownsRow base e sz v1 n xs) (t1:W'.ownsRow base' e sz v' n' ys) (t2:W.grownBy W' v1.ownBlock) (t3:v'.ownBlock=v1.ownBlock∨v'.ownBlock=some W.heap.size) :
  RlO al kl j dv v' W W':=by
 refine ⟨fun h'=>absurd h' h,fun _=>?_⟩;rw [hd,← gI o1];refine ⟨t2,fun b hb=>?_⟩;rw [← gI t1] at hb;refine ⟨?_,(t1.lt b hb).2⟩;rcases t3 with h3 | h3
 ·exact Or.inr (h3▸hb)
 ·rw [h3] at hb;cases hb;exact Or.inl (zu _)
theorem zdK (W:World) (g i:Nat) (v:Value):W.grownBy (W.setCell ⟨g,i,none⟩ v) (some g) :=
 ⟨rfl,rfl,rfl,by simp [World.setCell],fun k _ hk=>Below.heap_setCell W ⟨g,i,none⟩ v k (fun e=>hk (by rw [e]))⟩
theorem ziX {g:Nat} (h:kl j≠none) (hd:dv.headD undef = .pointer (some ⟨g,0,none⟩)) (hv:v = .pointer (some ⟨g,0,none⟩)) (hg:W.grownBy W' (some g)) (hl:g<W'.heap.size):RlO al kl j dv v W W':=by
 refine ⟨fun h'=>absurd h' h,fun _=>?_⟩;rw [hd,hv];exact ⟨hg,fun b hb=>⟨Or.inr hb,by cases hb;exact hl⟩⟩
end
end Go
end
