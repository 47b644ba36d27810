import Derived.Test.YtmhllppjcilllaaGreatDoorM1
set_option linter.unusedSimpArgs false
set_option linter.unusedVariables false
section
open Go
namespace Go
section
variable {P:Program} {ops:Array Oper} {Q:Exit→Act→World→Prop} {md:Region.Mode} {S S0:World→Prop} {st:Nat}
def Region.coverOf (md:Region.Mode) (ops:Array Oper) (k:Nat):Array Bool:=Region.cover md ops ops.size (Region.mark md ops k (Array.replicate ops.size false))
theorem Region.coverOf_spec {listed:Array Bool} (hcl:Region.shutL md ops listed) {k:Nat} (hk:k∈Region.ready md ops listed) {m:Nat} (hm:(Region.coverOf md ops k).getD m false=true):listed.getD m false=true:=by
 obtain ⟨_,os,hos,hall⟩:=mem_ready.1 hk;exact Region.cover_spec hcl _ _ (Region.mark_spec (c:=Array.replicate ops.size false) (fun m hm=>by simp [Array.getD_eq_getD_getElem?,Array.getElem?_replicate] at hm;split at hm <;> simp at hm) fun o' ho' e he hb=>by
  rw [hos] at ho';cases ho';exact hall e he hb) m hm
theorem Region.coverOf_in {listed:Array Bool} (hcl:Region.shutL md ops listed) {k:Nat} (hk:listed.getD k false=true) {m:Nat} (hm:(Region.coverOf md ops k).getD m false=true):listed.getD m false=true :=
 Region.cover_spec hcl _ _ (Region.mark_spec (c:=Array.replicate ops.size false) (fun m hm=>by simp [Array.getD_eq_getD_getElem?,Array.getElem?_replicate] at hm;split at hm <;> simp at hm) fun o ho e he hb=>hcl k o ho hk e he hb) m hm
end
end Go
end
section
open Go Go.RowKit
namespace Go
section
variable {P:Program} {ops:Array Oper} {Q:Exit→Act→World→Prop} {md:Region.Mode}
def qi (ops:Array Oper) (i:Nat):Option Tmp:=(ops[i]?).bind (·.dst)
def zH (ops:Array Oper) (vs:Nat→Value) (t:Array Value):List Nat→Array Value
 | []=>t
 | i::l=>zH ops vs (match qi ops i with | some d=>t.setIfInBounds d (vs i) | none=>t) l
def zm (vs:Nat→Value) (t:Array Value):List (Nat×Option Tmp)→Array Value
 | []=>t
 | (i,d)::l=>zm vs (match d with | some d=>t.setIfInBounds d (vs i) | none=>t) l
theorem zcG (vs:Nat→Value):∀ (l:List Nat) (t:Array Value),zH ops vs t l=zm vs t (l.map fun i=>(i,qi ops i))
 | [],t=>rfl
 | i::l,t=>zcG vs l _
theorem zbr (vs:Nat→Value):∀ (l:List Nat) (t:Array Value),(zH ops vs t l).size=t.size
 | [],t=>rfl
 | i::l,t=>by
   unfold zH;rw [zbr vs l];split <;> simp
theorem yC (vs:Nat→Value) (s:Tmp):∀ (l:List Nat) (t:Array Value),(∀ i∈l,qi ops i≠some s)→(zH ops vs t l)[s]?=t[s]?
 | [],t,_=>rfl
 | i::l,t,h=>by
   unfold zH;rw [yC vs s l _ fun j hj=>h j (List.mem_cons_of_mem _ hj)];have:=h i (List.mem_cons_self ..);split
   ·rename_i d hd;rw [hd] at this;exact Array.getElem?_setIfInBounds_ne fun e=>this (by rw [e])
   ·rfl
theorem yz (vs:Nat→Value) (s:Tmp) (i:Nat) (hi:qi ops i=some s):∀ (l:List Nat) (t:Array Value),i∈l→(∀ j∈l,qi ops j=some s→j=i)→s<t.size→(zH ops vs t l)[s]?=some (vs i)
 | [],t,h,_,_=>by cases h
 | k::l,t,h,hu,hs=>by
   unfold zH;by_cases hl:i∈l
   ·refine yz vs s i hi l _ hl (fun j hj=>hu j (List.mem_cons_of_mem _ hj)) ?_;split <;> simpa using hs
   ·obtain rfl:i=k:=by
     rcases List.mem_cons.1 h with h | h
     ·exact h
     ·exact absurd h hl
    rw [yC vs s l _ fun j hj hd=>hl (by rw [← hu j (List.mem_cons_of_mem _ hj) hd];exact hj),hi];simp [Array.getElem?_setIfInBounds,hs]
def z7:Value→Option Nat
 | .pointer (some a)=>some a.block
 | .slice (some a) _ _=>some a.block
 | _=>none
def zU:List Nat→List Bool→List Nat
 | i::l,b::bs=>if b then i::zU l bs else zU l bs
 | _,_=>[]
theorem zdC (f:Nat→Bool):∀ l:List Nat,zU l (l.map f)=l.filter f
 | []=>rfl
 | i::l=>by
   simp only [List.map_cons,zU,List.filter_cons,zdC f l]
def zY (n:Nat) (l:List Nat):Array Bool:=((List.range n).map fun i=>l.contains i).toArray
def Region.propsB (md:Region.Mode) (ops:Array Oper) (L1 A:List Nat) (dp:Nat→List Nat) (n:Nat):Bool :=
 Region.noSelect ops&&(A.all fun i=>decide (i<ops.size)) &&
 (A.all fun i=>A.all fun j=>i==j||qi ops i==none||qi ops i != qi ops j) &&
 (A.all fun i=>match qi ops i with | some d=>decide (d<n) | none=>true) &&
 (A.all fun i=>(dp i).all fun j=>(Region.coverOf md ops i).getD j false&&A.contains j) &&
 (A.all fun i=>match ops[i]? with | some o=>(o.looksAt ops).all fun t=>A.all fun j=>qi ops j != some t||(dp i).contains j | none=>false) &&
 ((List.range ops.size).all fun i=>A.contains i||L1.all fun k=>(Region.coverOf md ops i).getD k false) &&
 ((List.range ops.size).all fun i=>match ops[i]? with | some o=>o.after.all fun e=>!Region.binds md e||decide (e.on<i) | none=>true)
structure Region.PropsOk (md:Region.Mode) (ops:Array Oper) (L1 A:List Nat) (dp:Nat→List Nat) (n:Nat):Prop where
 sel:Region.noSelect ops=true
 lt:∀ i∈A,i<ops.size
 uniq:∀ i∈A,∀ j∈A,∀ s,qi ops i=some s→qi ops j=some s→i=j
 dst:∀ i∈A,∀ d,qi ops i=some d→d<n
 dep:∀ i∈A,∀ j∈dp i,(Region.coverOf md ops i).getD j false=true∧j∈A
 looks:∀ i∈A,∀ o,ops[i]?=some o→∀ t∈o.looksAt ops,∀ j∈A,qi ops j=some t→j∈dp i
 last:∀ i,i<ops.size→i ∉ A→∀ k∈L1,(Region.coverOf md ops i).getD k false=true
 back:∀ i o,ops[i]?=some o→∀ e∈o.after,Region.binds md e=true→e.on<i
theorem Region.propsB_spec {L1 A:List Nat} {dp:Nat→List Nat} {n:Nat} (h:Region.propsB md ops L1 A dp n=true):Region.PropsOk md ops L1 A dp n:=by
 unfold Region.propsB at h;simp only [Bool.and_eq_true,List.all_eq_true,List.mem_range] at h;obtain ⟨⟨⟨⟨⟨⟨⟨h1,h2⟩,h3⟩,h4⟩,h5⟩,h6⟩,h7⟩,h8⟩:=h;refine ⟨h1,fun i hi=>by simpa using h2 i hi,fun i hi j hj s e1 e2=>?_,fun i hi d hd=>?_,fun i hi j hj=>?_,fun i hi o ho t ht j hj hd=>?_,fun i hi hA k hk=>?_,fun i o ho e he hb=>?_⟩
 ·have:=h3 i hi j hj;rw [e1,e2] at this;simpa using this
 ·have:=h4 i hi;rw [hd] at this;simpa using this
 ·have:=h5 i hi j hj;simpa using this
 ·have:=h6 i hi;rw [ho] at this;simp only [List.all_eq_true] at this;have:=this t ht j hj;rw [hd] at this;simpa using this
 ·have:=h7 i hi;have hc:A.contains i=false:=by simpa using hA
  rw [hc,Bool.false_or,List.all_eq_true] at this;exact this k hk
 ·have hlt:i<ops.size:=(Array.getElem?_eq_some_iff.1 ho).1;have:=h8 i hlt;rw [ho] at this;simp only [Array.all_eq_true'] at this;have:=this e he;rw [hb] at this;simpa using this
theorem zcj (o:Oper) (t t':Array Value) (h:∀ s∈o.looksAt ops,t[s]?=t'[s]?):Region.wanted o (yielded ops t)=Region.wanted o (yielded ops t'):=by
 unfold Region.wanted;cases hg:o.guard with
 | none=>rfl
 | some gw =>
   obtain ⟨g,want⟩:=gw;have hy:yielded ops t g=yielded ops t' g:=by
    unfold yielded;cases ht:(ops[g]?).bind (·.dst) with
    | none=>rfl
    | some s =>
      have:=h s (by simp [Oper.looksAt,hg,ht]);simp [this]
   simp only [hy]
theorem zde (o:Oper) (hs:∀ cs b,o.op≠.select cs b) (a b:Act) (h:∀ s∈o.looksAt ops,a.tmps[s]?=b.tmps[s]?):execOp a.eval o=execOp b.eval o :=
 execOp_congr o hs fun x hx=>by
  cases x with
  | tmp t =>
    have:=h t (List.mem_append_left _ (List.mem_filterMap.2 ⟨.tmp t,by simpa using hx,rfl⟩));show a.tmps.getD t undef=b.tmps.getD t undef;rw [Array.getD_eq_getD_getElem?,Array.getD_eq_getD_getElem?,this]
  | _=>rfl
def StepOk (P:Program) (ops:Array Oper) (V:World) (a:Act) (Px:Nat→List Value→Value→World→Prop) (al:Nat→Bool) (dp:Nat→List Nat) (i:Nat):Prop :=
 ∀ o,ops[i]?=some o→∀ (vs:Nat→Value) (w:World),Below V.heap.size V w→(∀ j∈dp i,Px j ((dp j).map vs) (vs j) w) →
  ∀ K:Act→World→Prop,Shut (∀ v w',Px i ((dp i).map vs) v w'→Below w.heap.size w w'→(al i=true→∀ b,z7 v=some b→w.heap.size≤b∧b<w'.heap.size)→K (Act.put ⟨zH ops vs a.tmps (dp i),a.defers⟩ o.dst v) w') →
   if Region.wanted o (yielded ops (Act.mk (zH ops vs a.tmps (dp i)) a.defers).tmps)=true then Oper.wp P o ⟨zH ops vs a.tmps (dp i),a.defers⟩ w K (fun _ _ _=>False) else K (Act.put ⟨zH ops vs a.tmps (dp i),a.defers⟩ o.dst undef) w
theorem zgq {a b:Act} {d:Option Tmp} {u v:Value} (hs:a.tmps.size=b.tmps.size) (h:b.put d u=b.put d v):a.put d u=a.put d v:=by
 cases d with
 | none=>rfl
 | some d =>
   by_cases hd:d<b.tmps.size
   ·have h1:(b.put (some d) u).tmps[d]?=(b.put (some d) v).tmps[d]?:=by rw [h]
    simp [Act.put,Array.getElem?_setIfInBounds,hd] at h1;rw [h1]
   ·simp only [Act.put];have h2:¬ d<a.tmps.size:=by rw [hs];exact hd
    simp [Array.setIfInBounds,h2]
theorem StepOk.wpOp {V:World} {a0:Act} {Px:Nat→List Value→Value→World→Prop} {al:Nat→Bool} {dp:Nat→List Nat} {i:Nat} {o:Oper} (h:StepOk P ops V a0 Px al dp i) (ho:ops[i]?=some o) (hsel:∀ cs b,o.op≠.select cs b)
  {vs:Nat→Value} {w:World} {l:List Nat} (hb:Below V.heap.size V w) (hd:∀ j∈dp i,Px j ((dp j).map vs) (vs j) w)
  (hl:∀ s∈o.looksAt ops,(zH ops vs a0.tmps l)[s]?=(zH ops vs a0.tmps (dp i))[s]?) {K:Act→World→Prop}
  (hK:∀ v w',Px i ((dp i).map vs) v w'→Below w.heap.size w w'→(al i=true→∀ b,z7 v=some b→w.heap.size≤b∧b<w'.heap.size)→K (Act.put ⟨zH ops vs a0.tmps l,a0.defers⟩ o.dst v) w') :
  Go.wpOp P ops Q i K ⟨zH ops vs a0.tmps l,a0.defers⟩ w:=by
 obtain ⟨B,hB⟩:∃ B:Act,B=⟨zH ops vs a0.tmps (dp i),a0.defers⟩:=⟨_,rfl⟩;obtain ⟨C,hC⟩:∃ C:Act,C=⟨zH ops vs a0.tmps l,a0.defers⟩:=⟨_,rfl⟩;have hsz:C.tmps.size=B.tmps.size:=by rw [hB,hC];show (zH ..).size=(zH ..).size;rw [zbr,zbr]
 have hdf:C.defers=B.defers:=by rw [hB,hC]
 have hl':∀ s∈o.looksAt ops,C.tmps[s]?=B.tmps[s]?:=by rw [hB,hC];exact hl
 have hk:∀ u w' v,B.put o.dst u=B.put o.dst v→Px i ((dp i).map vs) v w'→Below w.heap.size w w'→(al i=true→∀ b,z7 v=some b→w.heap.size≤b∧b<w'.heap.size)→K (C.put o.dst u) w':=fun u w' v e h1 h2 h3=>by
  rw [zgq hsz e,hC];exact hK v w' h1 h2 h3
 have hstep:=h o ho vs w hb hd (fun a' w'=>∃ v,a'=B.put o.dst v∧Px i ((dp i).map vs) v w'∧Below w.heap.size w w'∧(al i=true→∀ b,z7 v=some b→w.heap.size≤b∧b<w'.heap.size))
  (fun v w' h1 h2 h3=>⟨v,by rw [hB],h1,h2,h3⟩)
 rw [← hB] at hstep;rw [← hC];clear hK hl;unfold Go.wpOp;rw [ho];simp only [];rw [zcj o C.tmps B.tmps hl'];split
 ·rename_i hw;rw [if_pos hw] at hstep;refine .inl ?_;unfold Oper.wp at *
  rw [zde o hsel C B hl'];generalize (execOp B.eval o).run P w=r at *
  cases r with
  | ok n w' =>
    cases n <;> simp only [Oper.upon] at hstep ⊢
    case value u=>obtain ⟨v,e,h1,h2,h3⟩:=hstep;exact hk u w' v e h1 h2 h3
    case skip=>obtain ⟨v,e,h1,h2,h3⟩:=hstep;exact hk _ w' v e h1 h2 h3
    case defer d =>
     obtain ⟨v,e,_⟩:=hstep
     exfalso
     have:(Act.put { B with defers:=d::B.defers } o.dst undef).defers=(B.put o.dst v).defers:=by rw [e]
     have e1:∀ (x:Act) (d:Option Tmp) (v:Value),(x.put d v).defers=x.defers:=fun x d v=>by cases d <;> rfl
     rw [e1,e1] at this;exact absurd this (List.cons_ne_self _ _)
    case enter f args =>
     refine Calls.mono hstep fun e w'' he=>?_;cases e with
     | returned u=>obtain ⟨v,e,h1,h2,h3⟩:=he;exact hk u w'' v e h1 h2 h3
     | panicked c=>exact he.elim
     | outgrown=>obtain ⟨_,_,h⟩:=he;exact h.elim
    case row row args=>exact Rows.mono hstep fun u w'' he=>by obtain ⟨v,e,h1,h2,h3⟩:=he;exact hk u w'' v e h1 h2 h3
    all_goals exact hstep
  | halt x w' =>
    cases x <;> simp only [Oper.upon] at hstep
 ·rename_i hw;rw [if_neg hw] at hstep;obtain ⟨v,e,h1,h2,h3⟩:=hstep;exact hk _ w v e h1 h2 h3
def qA (listed:Array Bool):Nat→Nat
 | 0=>0
 | n+1=>qA listed n+(if listed.getD n false then 0 else 1)
theorem zeD {listed:Array Bool} {i:Nat}:∀ n,qA (listed.setIfInBounds i true) n≤qA listed n∧(i<n→i<listed.size→listed.getD i false=false→qA (listed.setIfInBounds i true) n+1≤qA listed n)
 | 0=>⟨Nat.le_refl _,fun h=>by omega⟩
 | n+1=>by
   obtain ⟨h1,h2⟩:=zeD (listed:=listed) (i:=i) n;by_cases hin:i=n
   ·subst hin;refine ⟨?_,fun _ hs hf=>?_⟩
    ·unfold qA;cases hc:listed.getD i false with
     | true=>rw [getD_set_true hc];simpa using h1
     | false=>simp only [Bool.false_eq_true,if_false];split <;> omega
    ·unfold qA;rw [hf];have:(listed.setIfInBounds i true).getD i false=true:=by simp [hs]
     rw [this];simp only [if_true,Bool.false_eq_true,if_false];omega
   ·unfold qA;rw [getD_set_ne false hin];exact ⟨by omega,fun h3 h4 h5=>by have:=h2 (by omega) h4 h5;omega⟩
theorem zep {listed:Array Bool}:∀ n,qA listed n=0→∀ i,i<n→listed.getD i false=true
 | 0,_,i,hi=>by omega
 | n+1,h,i,hi=>by
   unfold qA at h;by_cases hin:i=n
   ·subst hin;cases hc:listed.getD i false with
    | true=>rfl
    | false=>rw [hc] at h;simp at h
   ·exact zep n (by omega) i (by omega)
theorem zgm {listed:Array Bool} (hz:listed.size=ops.size) (hback:∀ i o,ops[i]?=some o→∀ e∈o.after,Region.binds md e=true→e.on<i) {k:Nat} (hk:k<ops.size) (hf:listed.getD k false=false):Region.ready md ops listed≠[]:=by
 have:∀ n,n≤ops.size→(∃ m,m<n∧listed.getD m false=false∧∀ j,j<m→listed.getD j false=true)∨∀ j,j<n→listed.getD j false=true:=by
  intro n
  induction n with
  | zero=>exact fun _=>.inr fun j hj=>by omega
  | succ n ih =>
    intro hn;rcases ih (by omega) with ⟨m,h1,h2,h3⟩ | h
    ·exact .inl ⟨m,by omega,h2,h3⟩
    ·cases hc:listed.getD n false with
     | false=>exact .inl ⟨n,by omega,hc,h⟩
     | true =>
       refine .inr fun j hj=>?_;by_cases e:j=n
       ·subst e;exact hc
       ·exact h j (by omega)
 rcases this ops.size (Nat.le_refl _) with ⟨m,h1,h2,h3⟩ | h
 ·intro he;have hm:m∈Region.ready md ops listed:=by
   rw [mem_ready];refine ⟨?_,ops[m],by simp [h1],fun e he hb=>h3 _ (hback m ops[m] (by simp [h1]) e he hb)⟩;have hm2:m<listed.size:=by omega
   simp [hm2] at h2 ⊢;exact h2
  rw [he] at hm;cases hm
 ·rw [h k hk] at hf;cases hf
theorem zdA {a0:Act} {l:List Nat} {vs vs':Nat→Value} {i:Nat} {o:Oper} {v:Value} {A:List Nat} (ho:ops[i]?=some o)
  (huniq:∀ i∈A,∀ j∈A,∀ s,qi ops i=some s→qi ops j=some s→i=j) (hdst:∀ i∈A,∀ d,qi ops i=some d→d<a0.tmps.size)
  (hA:∀ j∈l,j∈A) (hiA:i∈A) (hsame:∀ j,j∈l→vs' j=vs j) (hnew:vs' i=v) :
  Act.put ⟨zH ops vs a0.tmps l,a0.defers⟩ o.dst v=⟨zH ops vs' a0.tmps (l++[i]),a0.defers⟩:=by
 have hoi:qi ops i=o.dst:=by unfold qi;rw [ho];rfl
 have e1:∀ (x:Act) (d:Option Tmp) (u:Value),x.put d u=⟨(match d with | some d=>x.tmps.setIfInBounds d u | none=>x.tmps),x.defers⟩:=fun x d u=>by cases d <;> rfl
 rw [e1];congr 1;simp only [];have hsz':∀ d,o.dst=some d→d<(zH ops vs a0.tmps l).size:=fun d hd=>by rw [zbr];exact hdst i hiA d (by rw [hoi,hd])
 refine Array.ext_getElem? fun s=>?_;have hL:(match o.dst with | some d=>(zH ops vs a0.tmps l).setIfInBounds d v | none=>zH ops vs a0.tmps l)[s]?=if o.dst=some s then some v else (zH ops vs a0.tmps l)[s]?:=by
  cases hd:o.dst with
  | none=>simp
  | some d =>
    have:=hsz' d hd;simp only [Array.getElem?_setIfInBounds,Option.some.injEq];by_cases e:d=s
    ·subst e;simp [this]
    ·simp [e]
 rw [hL];by_cases hds:o.dst=some s
 ·rw [if_pos hds,yz vs' s i (by rw [hoi,hds]) (l++[i]) _ (by simp) (fun m hm e=>?_) (by have:=hsz' s hds;rwa [zbr] at this),hnew];refine huniq m ?_ i hiA s e (by rw [hoi,hds]);rcases List.mem_append.1 hm with hm | hm
  ·exact hA m hm
  ·simp at hm;subst hm;exact hiA
 ·rw [if_neg hds];by_cases hex:∃ j,j∈l∧qi ops j=some s
  ·obtain ⟨j,hj,hjs⟩:=hex;have hjA:=hA j hj;have hsz:=hdst j hjA s hjs;rw [yz vs s j hjs l _ hj (fun m hm e=>huniq m (hA m hm) j hjA s e hjs) hsz,yz vs' s j hjs (l++[i]) _ (by simp [hj]) (fun m hm e=>?_) hsz,hsame j hj];rcases List.mem_append.1 hm with hm | hm
   ·exact huniq m (hA m hm) j hjA s e hjs
   ·simp at hm;subst hm;exact huniq m hiA j hjA s e hjs
  ·rw [yC vs s l _ fun j hj e=>hex ⟨j,hj,e⟩,yC vs' s (l++[i]) _ fun j hj e=>?_];rcases List.mem_append.1 hj with hj | hj
   ·exact hex ⟨j,hj,e⟩
   ·simp at hj;subst hj;rw [hoi] at e;exact hds e
theorem puts_mem {t:Array Value} {l l':List Nat} {vs:Nat→Value} {A:List Nat} (huniq:∀ i∈A,∀ j∈A,∀ s,qi ops i=some s→qi ops j=some s→i=j) (hdst:∀ i∈A,∀ d,qi ops i=some d→d<t.size)
  (hA:∀ j∈l,j∈A) (hmem:∀ i,i∈l'↔i∈l):zH ops vs t l'=zH ops vs t l:=by
 refine Array.ext_getElem? fun s=>?_;by_cases hex:∃ j,j∈l∧qi ops j=some s
 ·obtain ⟨j,hj,hjs⟩:=hex;have hsz:=hdst j (hA j hj) s hjs;rw [yz vs s j hjs l _ hj (fun m hm e=>huniq m (hA m hm) j (hA j hj) s e hjs) hsz,yz vs s j hjs _ _ ((hmem j).2 hj) (fun m hm e=>huniq m (hA m ((hmem m).1 hm)) j (hA j hj) s e hjs) hsz]
 ·rw [yC vs s l _ fun j hj e=>hex ⟨j,hj,e⟩,yC vs s _ _ fun j hj e=>hex ⟨j,(hmem j).1 hj,e⟩]
theorem zh4 {n:Nat} {l l':List Nat} (hmem:∀ i,i∈l'↔i∈l):zY n l'=zY n l:=by
 unfold zY;congr 1;refine List.map_congr_left fun i _=>?_;cases h:l.contains i with
 | true=>rw [List.contains_iff_mem] at h ⊢;exact (hmem i).2 h
 | false =>
   refine Bool.eq_false_iff.2 fun h'=>?_;rw [List.contains_iff_mem] at h';rw [List.contains_iff_mem.2 ((hmem i).1 h')] at h;cases h
theorem zej {n:Nat} {l:List Nat} {i:Nat} (hi:i<n):(zY n l).getD i false=l.contains i:=by
 unfold zY;simp [hi]
theorem zc3 {n:Nat} {l:List Nat}:(zY n l).size=n:=by simp [zY]
theorem zei {n:Nat} {l:List Nat} {e:Nat}:(zY n l).setIfInBounds e true=zY n (l++[e]):=by
 refine Array.ext (by simp [zY]) fun i h1 h2=>?_;have hin:i<n:=by simpa [zY] using h2
 have e1:(zY n (l++[e]))[i]=(l++[e]).contains i:=by simp [zY]
 have hsz:i<(zY n l).size:=by rw [zc3];exact hin
 have e2:(zY n l)[i]'hsz=l.contains i:=by simp [zY]
 rw [e1,Array.getElem_setIfInBounds hsz];by_cases h:e=i
 ·subst h;simp
 ·rw [if_neg h,e2];simp [show i≠e from fun h'=>h h'.symm]
theorem zfA {t:Array Value} {l d:List Nat} {vs:Nat→Value} {A:List Nat} {s:Tmp} (huniq:∀ i∈A,∀ j∈A,∀ s,qi ops i=some s→qi ops j=some s→i=j) (hdst:∀ i∈A,∀ d,qi ops i=some d→d<t.size)
  (hA:∀ j∈l,j∈A) (hd:∀ j∈d,j∈l) (hs:∀ j∈A,qi ops j=some s→j∈d):(zH ops vs t l)[s]?=(zH ops vs t d)[s]?:=by
 by_cases hex:∃ j,j∈l∧qi ops j=some s
 ·obtain ⟨j,hj,hjs⟩:=hex;have hjA:=hA j hj;have hsz:=hdst j hjA s hjs;rw [yz vs s j hjs l _ hj (fun m hm e=>huniq m (hA m hm) j hjA s e hjs) hsz,yz vs s j hjs d _ (hs j hjA hjs) (fun m hm e=>huniq m (hA m (hd m hm)) j hjA s e hjs) hsz]
 ·rw [yC vs s l _ fun j hj e=>hex ⟨j,hj,e⟩,yC vs s d _ fun j hj e=>hex ⟨j,hd j hj,e⟩]
theorem zcD {Px:Nat→List Value→Value→World→Prop} {al:Nat→Bool} {dp:Nat→List Nat} {L1 ex:List Nat} {V:World} {a0:Act}
  (hok:Region.PropsOk md ops L1 (L1++ex) dp a0.tmps.size)
  (hfin:∀ bs:List Bool,bs.length=ex.length→∀ (vs:Nat→Value) (w:World),Below V.heap.size V w→(∀ i∈L1++zU ex bs,Px i ((dp i).map vs) (vs i) w) →
    (∀ i∈L1++zU ex bs,al i=true→∀ b,z7 (vs i)=some b→V.heap.size≤b∧b<w.heap.size) →
    (∀ i∈L1++zU ex bs,∀ j∈L1++zU ex bs,i≠j→al i=true→al j=true→∀ b,z7 (vs i)=some b→z7 (vs j)≠some b) →
    ∀ fuel,qA (zY ops.size (L1++zU ex bs)) ops.size≤fuel→wpAny P md ops Q fuel (zY ops.size (L1++zU ex bs)) ⟨zH ops vs a0.tmps (L1++zU ex bs),a0.defers⟩ w)
  {fuel:Nat} {listed:Array Bool} {l:List Nat} {vs:Nat→Value} {w:World} (hz:listed.size=ops.size) (hu:qA listed ops.size≤fuel) (hl:∀ i,i∈l↔listed.getD i false=true) (hA:∀ i∈l,i∈L1++ex)
  (hb:Below V.heap.size V w) (hp:∀ i∈l,Px i ((dp i).map vs) (vs i) w) (hbk:∀ i∈l,al i=true→∀ b,z7 (vs i)=some b→V.heap.size≤b∧b<w.heap.size)
  (hdis:∀ i∈l,∀ j∈l,i≠j→al i=true→al j=true→∀ b,z7 (vs i)=some b→z7 (vs j)≠some b)
  (hall:∀ i∈L1,listed.getD i false=true):wpAny P md ops Q fuel listed ⟨zH ops vs a0.tmps l,a0.defers⟩ w:=by
 have hmem:∀ i,i∈L1++zU ex (ex.map fun i=>listed.getD i false)↔i∈l:=fun i=>by
  rw [zdC,List.mem_append,List.mem_filter,hl i];constructor
  ·rintro (h | h)
   ·exact hall i h
   ·exact h.2
  ·intro h;rcases List.mem_append.1 (hA i ((hl i).2 h)) with h' | h'
   ·exact .inl h'
   ·exact .inr ⟨h',h⟩
 have hli:zY ops.size (L1++zU ex (ex.map fun i=>listed.getD i false))=listed:=by
  refine Array.ext (by simp [zY,hz]) fun i h1 h2=>?_;have e1:(zY ops.size (L1++zU ex (ex.map fun i=>listed.getD i false)))[i]=(L1++zU ex (ex.map fun i=>listed.getD i false)).contains i:=by simp [zY]
  rw [e1];have e2:listed.getD i false=listed[i]:=by simp [h2]
  rw [← e2];cases hc:listed.getD i false with
  | true=>rw [List.contains_iff_mem];exact (hmem i).2 ((hl i).2 hc)
  | false =>
    refine Bool.eq_false_iff.2 fun h=>?_;rw [List.contains_iff_mem] at h;rw [(hl i).1 ((hmem i).1 h)] at hc;cases hc
 have hact:zH ops vs a0.tmps (L1++zU ex (ex.map fun i=>listed.getD i false))=zH ops vs a0.tmps l:=by
  refine Array.ext_getElem? fun s=>?_;by_cases hex:∃ j,j∈l∧qi ops j=some s
  ·obtain ⟨j,hj,hjs⟩:=hex;have hsz:=hok.dst j (hA j hj) s hjs;rw [yz vs s j hjs l _ hj (fun m hm e=>hok.uniq m (hA m hm) j (hA j hj) s e hjs) hsz,yz vs s j hjs _ _ ((hmem j).2 hj) (fun m hm e=>hok.uniq m (hA m ((hmem m).1 hm)) j (hA j hj) s e hjs) hsz]
  ·rw [yC vs s l _ fun j hj e=>hex ⟨j,hj,e⟩,yC vs s _ _ fun j hj e=>hex ⟨j,(hmem j).1 hj,e⟩]
 have h:=hfin (ex.map fun i=>listed.getD i false) (by simp) vs w hb (fun i hi=>hp i ((hmem i).1 hi)) (fun i hi=>hbk i ((hmem i).1 hi)) (fun i hi j hj=>hdis i ((hmem i).1 hi) j ((hmem j).1 hj)) fuel (by rw [hli];exact hu);rw [hli,hact] at h;exact h
theorem zhO {Px:Nat→List Value→Value→World→Prop} {al:Nat→Bool} {dp:Nat→List Nat} {L1 ex:List Nat} {V:World} {a0:Act}
  (hok:Region.PropsOk md ops L1 (L1++ex) dp a0.tmps.size) (hmono:∀ i l v w w',Px i l v w→Below w.heap.size w w'→Px i l v w')
  (hstep:∀ i∈L1++ex,StepOk P ops V a0 Px al dp i)
  (hfin:∀ bs:List Bool,bs.length=ex.length→∀ (vs:Nat→Value) (w:World),Below V.heap.size V w→(∀ i∈L1++zU ex bs,Px i ((dp i).map vs) (vs i) w) →
    (∀ i∈L1++zU ex bs,al i=true→∀ b,z7 (vs i)=some b→V.heap.size≤b∧b<w.heap.size) →
    (∀ i∈L1++zU ex bs,∀ j∈L1++zU ex bs,i≠j→al i=true→al j=true→∀ b,z7 (vs i)=some b→z7 (vs j)≠some b) →
    ∀ fuel,qA (zY ops.size (L1++zU ex bs)) ops.size≤fuel→wpAny P md ops Q fuel (zY ops.size (L1++zU ex bs)) ⟨zH ops vs a0.tmps (L1++zU ex bs),a0.defers⟩ w) :
  ∀ (fuel:Nat) (listed:Array Bool) (l:List Nat) (vs:Nat→Value) (w:World),listed.size=ops.size→Region.shutL md ops listed→qA listed ops.size≤fuel→(∀ i,i∈l↔listed.getD i false=true)→(∀ i∈l,i∈L1++ex) →
   Below V.heap.size V w→(∀ i∈l,Px i ((dp i).map vs) (vs i) w)→(∀ i∈l,al i=true→∀ b,z7 (vs i)=some b→V.heap.size≤b∧b<w.heap.size) →
   (∀ i∈l,∀ j∈l,i≠j→al i=true→al j=true→∀ b,z7 (vs i)=some b→z7 (vs j)≠some b) →
   wpAny P md ops Q fuel listed ⟨zH ops vs a0.tmps l,a0.defers⟩ w:=by
 intro fuel
 induction fuel with
 | zero =>
   intro listed l vs w hz hcl hu hl hA hb hp hbk hdis;exact zcD hok hfin hz hu hl hA hb hp hbk hdis fun i hi=>zep _ (by omega) i (hok.lt i (List.mem_append_left _ hi))
 | succ fuel ih =>
   intro listed l vs w hz hcl hu hl hA hb hp hbk hdis;by_cases hall:∀ i∈L1,listed.getD i false=true
   ·exact zcD hok hfin hz hu hl hA hb hp hbk hdis hall
   ·have hall':∃ i,i∈L1∧listed.getD i false=false:=by
     refine Classical.byContradiction fun hne=>hall fun i hi=>?_;cases hc:listed.getD i false with
     | true=>rfl
     | false=>exact absurd ⟨i,hi,hc⟩ hne
    obtain ⟨k,hk,hkf⟩:=hall';have hkn:=hok.lt k (List.mem_append_left _ hk);refine ⟨fun hr=>absurd hr (zgm hz hok.back hkn hkf),fun i hi=>?_⟩;have hi':=hi;obtain ⟨hun,o,ho,hafter⟩:=mem_ready.1 hi;have hin:i<ops.size:=(Array.getElem?_eq_some_iff.1 ho).1;have hunf:listed.getD i false=false:=by
     have:i<listed.size:=by omega
     simp [this] at hun ⊢;exact hun
    have hiA:i∈L1++ex:=by
     refine Classical.byContradiction fun hne=>?_;have:=Region.coverOf_spec hcl hi (hok.last i hin hne k hk);rw [this] at hkf;cases hkf
    have hdl:∀ j∈dp i,j∈l:=fun j hj=>(hl j).2 (Region.coverOf_spec hcl hi (hok.dep i hiA j hj).1);have hil:i ∉ l:=fun h=>by rw [(hl i).1 h] at hunf;cases hunf
    refine (hstep i hiA).wpOp ho (Region.noSelect_spec hok.sel i o · · ho) hb (fun j hj=>hp j (hdl j hj)) (fun s hs=>?_) fun v w' h1 h2 h3=>?_
    ·by_cases hex:∃ j,j∈l∧qi ops j=some s
     ·obtain ⟨j,hj,hjs⟩:=hex;have hjA:=hA j hj;have hjd:=hok.looks i hiA o ho s hs j hjA hjs;have hsz:=hok.dst j hjA s hjs;rw [yz vs s j hjs l _ hj (fun m hm e=>hok.uniq m (hA m hm) j hjA s e hjs) hsz,yz vs s j hjs (dp i) _ hjd (fun m hm e=>hok.uniq m (hok.dep i hiA m hm).2 j hjA s e hjs) hsz]
     ·rw [yC vs s l _ fun j hj e=>hex ⟨j,hj,e⟩,yC vs s (dp i) _ fun j hj e=>hex ⟨j,hdl j hj,e⟩]
    ·obtain ⟨vs',hvs⟩:∃ vs':Nat→Value,vs'=fun j=>if j=i then v else vs j:=⟨_,rfl⟩
     have hsame:∀ j,j∈l→vs' j=vs j:=fun j hj=>by rw [hvs];simp only [];rw [if_neg fun e=>hil (by rw [← e];exact hj)]
     have hnew:vs' i=v:=by rw [hvs];simp
     have hmap:∀ m,(∀ j∈dp m,j∈l)→(dp m).map vs'=(dp m).map vs:=fun m hm=>List.map_congr_left fun j hj=>hsame j (hm j hj);have hdm:∀ j∈l,∀ m∈dp j,m∈l:=fun j hj m hm=>(hl m).2 (Region.coverOf_in hcl ((hl j).1 hj) (hok.dep j (hA j hj) m hm).1);have hact:=zdA (a0:=a0) ho hok.uniq hok.dst hA hiA hsame hnew;rw [hact];have hbw:=h2.size;refine ih (listed.setIfInBounds i true) (l++[i]) vs' w' (by simp [hz]) (Region.shutL_set hcl hi') ?_ ?_ ?_ (hb.trans (h2.mono hb.size)) ?_ ?_ ?_
     ·have:=(zeD (listed:=listed) (i:=i) ops.size).2 hin (by omega) hunf;omega
     ·intro j;rw [List.mem_append,List.mem_singleton,hl j];by_cases e:i=j
      ·subst e;have hlt:i<listed.size:=by omega
       simp [hlt]
      ·rw [getD_set_ne false e];exact ⟨fun h=>h.resolve_right (fun e'=>e e'.symm),.inl⟩
     ·intro j hj;rcases List.mem_append.1 hj with hj | hj
      ·exact hA j hj
      ·simp at hj;subst hj;exact hiA
     ·intro j hj;rcases List.mem_append.1 hj with hj | hj
      ·rw [hmap j (hdm j hj),hsame j hj];exact hmono j _ _ w w' (hp j hj) h2
      ·simp at hj;subst hj;rw [hmap j hdl,hnew];exact h1
     ·intro j hj ha b hb';rcases List.mem_append.1 hj with hj | hj
      ·rw [hsame j hj] at hb';obtain ⟨c1,c2⟩:=hbk j hj ha b hb';exact ⟨c1,by omega⟩
      ·simp at hj;subst hj;rw [hnew] at hb';obtain ⟨c1,c2⟩:=h3 ha b hb';have:=hb.size;exact ⟨by omega,c2⟩
     ·intro j hj m hm hne ha ha' b e1 e2;rcases List.mem_append.1 hj with hj' | hj' <;> rcases List.mem_append.1 hm with hm' | hm'
      ·rw [hsame j hj'] at e1;rw [hsame m hm'] at e2;exact hdis j hj' m hm' hne ha ha' b e1 e2
      ·simp at hm';subst hm';rw [hsame j hj'] at e1;rw [hnew] at e2;have:=(hbk j hj' ha b e1).2;have:=(h3 ha' b e2).1;omega
      ·simp at hj';subst hj';rw [hsame m hm'] at e2;rw [hnew] at e1;have:=(hbk m hm' ha' b e2).2;have:=(h3 ha b e1).1;omega
      ·simp at hj' hm';subst hj' hm';exact hne rfl
def FinOk (P:Program) (ops:Array Oper) (Q:Exit→Act→World→Prop) (V:World) (a:Act) (Px:Nat→List Value→Value→World→Prop) (al:Nat→Bool) (dp:Nat→List Nat) (L:List Nat):Prop :=
 ∀ (vs:Nat→Value) (w:World),Below V.heap.size V w→(∀ i∈L,Px i ((dp i).map vs) (vs i) w)→(∀ i∈L,al i=true→∀ b,z7 (vs i)=some b→V.heap.size≤b∧b<w.heap.size) →
  (∀ i∈L,∀ j∈L,i≠j→al i=true→al j=true→∀ b,z7 (vs i)=some b→z7 (vs j)≠some b) →
  ∀ fuel,qA (zY ops.size L) ops.size≤fuel→wpAny P .any ops Q fuel (zY ops.size L) ⟨zH ops vs a.tmps L,a.defers⟩ w
theorem FinOk.intro {V:World} {a:Act} {Px:Nat→List Value→Value→World→Prop} {al:Nat→Bool} {dp:Nat→List Nat} {L:List Nat} (DS:List (Nat×Option Tmp)) (ARR:Array Bool) (m:Nat)
  (hds:L.map (fun j=>(j,qi ops j))=DS) (harr:zY ops.size L=ARR) (hun:qA ARR ops.size=m)
  (h:∀ (vs:Nat→Value) (w:World),Below V.heap.size V w→(∀ i∈L,Px i ((dp i).map vs) (vs i) w)→(∀ i∈L,al i=true→∀ b,z7 (vs i)=some b→V.heap.size≤b∧b<w.heap.size) →
    (∀ i∈L,∀ j∈L,i≠j→al i=true→al j=true→∀ b,z7 (vs i)=some b→z7 (vs j)≠some b)→∀ k,wpAny P .any ops Q (k+m) ARR ⟨zm vs a.tmps DS,a.defers⟩ w):FinOk P ops Q V a Px al dp L:=by
 intro vs w h1 h2 h3 h4 fuel hf;rw [harr,hun] at hf;have:=h vs w h1 h2 h3 h4 (fuel-m);rw [show fuel-m+m=fuel by omega] at this;rw [harr,zcG,hds];exact this
theorem StepOk.intro {V:World} {a:Act} {Px:Nat→List Value→Value→World→Prop} {al:Nat→Bool} {dp:Nat→List Nat} {i:Nat} {o:Oper} (ho:ops[i]?=some o) (DS:List (Nat×Option Tmp)) (hds:(dp i).map (fun j=>(j,qi ops j))=DS)
  (h:∀ (vs:Nat→Value) (w:World),Below V.heap.size V w→(∀ j∈dp i,Px j ((dp j).map vs) (vs j) w) →
    ∀ K:Act→World→Prop,Shut (∀ v w',Px i ((dp i).map vs) v w'→Below w.heap.size w w'→(al i=true→∀ b,z7 v=some b→w.heap.size≤b∧b<w'.heap.size)→K (Act.put ⟨zm vs a.tmps DS,a.defers⟩ o.dst v) w') →
     if Region.wanted o (yielded ops (Act.mk (zm vs a.tmps DS) a.defers).tmps)=true then Oper.wp P o ⟨zm vs a.tmps DS,a.defers⟩ w K (fun _ _ _=>False) else K (Act.put ⟨zm vs a.tmps DS,a.defers⟩ o.dst undef) w):StepOk P ops V a Px al dp i:=by
 intro o' ho' vs w hb hd K hK;rw [ho] at ho';cases ho';have:=h vs w hb hd K;rw [← hds,← zcG] at this;exact this hK
theorem qB {w W:World} (h:Below w.drew.heap.size w.drew W):Below w.heap.size w W:=⟨h.os,h.tape,h.output,h.size,h.block⟩
def qa (Px:Nat→List Value→Value→World→Prop) (dp:Nat→List Nat) (vs:Nat→Value) (w:World):List (Nat×Option Tmp)→Prop
 | []=>True
 | p::l=>Px p.1 ((dp p.1).map vs) (vs p.1) w∧qa Px dp vs w l
theorem jr {Px:Nat→List Value→Value→World→Prop} {dp:Nat→List Nat} {vs:Nat→Value} {w:World}:∀ {l:List (Nat×Option Tmp)},(∀ p∈l,Px p.1 ((dp p.1).map vs) (vs p.1) w)→qa Px dp vs w l
 | [],_=>trivial
 | p::l,h=>⟨h p (List.mem_cons_self ..),jr fun q hq=>h q (List.mem_cons_of_mem _ hq)⟩
theorem zJ {V:World} {a:Act} {Px:Nat→List Value→Value→World→Prop} {al:Nat→Bool} {dp:Nat→List Nat} {i:Nat} {o:Oper} (ho:ops[i]?=some o) (DS:List (Nat×Option Tmp))
 (h:∀ (vs:Nat→Value) (w:World),Below V.heap.size V w→(∀ j∈dp i,Px j ((dp j).map vs) (vs j) w) →
  ∀ K:Act→World→Prop,Shut (∀ v w',Px i ((dp i).map vs) v w'→Below w.heap.size w w'→(al i=true→∀ b,z7 v=some b→w.heap.size≤b∧b<w'.heap.size)→K (Act.put ⟨zm vs a.tmps DS,a.defers⟩ o.dst v) w') →
   if Region.wanted o (yielded ops (Act.mk (zm vs a.tmps DS) a.defers).tmps)=true then Oper.wp P o ⟨zm vs a.tmps DS,a.defers⟩ w K (fun _ _ _=>False) else K (Act.put ⟨zm vs a.tmps DS,a.defers⟩ o.dst undef) w)
 (hds:(dp i).map (fun j=>(j,qi ops j))=DS:=by kernel_rfl):StepOk P ops V.drew a Px al dp i:=StepOk.intro ho DS hds fun vs w hb=>h vs w (qB hb)
theorem zv {V:World} {a:Act} {Px:Nat→List Value→Value→World→Prop} {al:Nat→Bool} {dp:Nat→List Nat} {i:Nat} {o:Oper} (ho:ops[i]?=some o) (DS:List (Nat×Option Tmp))
 (h:∀ (vs:Nat→Value) (w:World),Below V.heap.size V w→qa Px dp vs w DS →
  ∀ K:Act→World→Prop,Shut (∀ v w',Px i ((dp i).map vs) v w'→Below w.heap.size w w'→(al i=true→∀ b,z7 v=some b→w.heap.size≤b∧b<w'.heap.size)→K (Act.put ⟨zm vs a.tmps DS,a.defers⟩ o.dst v) w') →
   if Region.wanted o (yielded ops (Act.mk (zm vs a.tmps DS) a.defers).tmps)=true then Oper.wp P o ⟨zm vs a.tmps DS,a.defers⟩ w K (fun _ _ _=>False) else K (Act.put ⟨zm vs a.tmps DS,a.defers⟩ o.dst undef) w)
 (hds:(dp i).map (fun j=>(j,qi ops j))=DS:=by kernel_rfl):StepOk P ops V.drew a Px al dp i:=zJ ho DS (fun vs w hb hd=>h vs w hb (jr (fun p hp=>by
  rw [← hds] at hp;obtain ⟨j,hj,rfl⟩:=List.mem_map.1 hp;exact hd j hj))) hds
theorem qQ {V:World} {a:Act} {Px:Nat→List Value→Value→World→Prop} {al:Nat→Bool} {dp:Nat→List Nat} {L:List Nat} (DS:List (Nat×Option Tmp)) (ARR:Array Bool) (m:Nat)
 (h:∀ (vs:Nat→Value) (w:World),Below V.heap.size V w→qa Px dp vs w DS→(∀ i∈L,al i=true→∀ b,z7 (vs i)=some b→V.heap.size≤b∧b<w.heap.size) →
  (∀ i∈L,∀ j∈L,i≠j→al i=true→al j=true→∀ b,z7 (vs i)=some b→z7 (vs j)≠some b)→∀ k,wpAny P .any ops Q (k+m) ARR ⟨zm vs a.tmps DS,a.defers⟩ w)
 (hds:L.map (fun j=>(j,qi ops j))=DS:=by kernel_rfl) (harr:zY ops.size L=ARR:=by kernel_rfl) (hun:qA ARR ops.size=m:=by kernel_rfl):FinOk P ops Q V.drew a Px al dp L :=
 FinOk.intro DS ARR m hds harr hun fun vs w hb hd h3 h4=>h vs w (qB hb) (jr (fun p hp=>by
  rw [← hds] at hp;obtain ⟨j,hj,rfl⟩:=List.mem_map.1 hp;exact hd j hj)) h3 h4
def YieldOk (P:Program) (ops:Array Oper) (a:Act) (Px:Nat→List Value→Value→World→Prop) (dp:Nat→List Nat) (i:Nat):Prop :=
 ∀ o,ops[i]?=some o→∀ (vs:Nat→Value) (w:World),(∀ j∈dp i,Px j ((dp j).map vs) (vs j) w) →
  ∃ v,Px i ((dp i).map vs) v w∧Region.wanted o (yielded ops (zH ops vs a.tmps (dp i)))=true∧∀ w',(execOp (Act.mk (zH ops vs a.tmps (dp i)) a.defers).eval o).run P w' = .ok (.value v) w'
theorem YieldOk.intro {a:Act} {Px:Nat→List Value→Value→World→Prop} {dp:Nat→List Nat} {i:Nat} {o:Oper} (ho:ops[i]?=some o) (DS:List (Nat×Option Tmp)) (hds:(dp i).map (fun j=>(j,qi ops j))=DS) (f:List Value→Value)
  (hw:o.guard=none) (h:∀ (vs:Nat→Value) (w:World),(∀ j∈dp i,Px j ((dp j).map vs) (vs j) w) →
   Px i ((dp i).map vs) (f ((dp i).map vs)) w∧∀ w',(execOp (Act.mk (zm vs a.tmps DS) a.defers).eval o).run P w' = .ok (.value (f ((dp i).map vs))) w'):YieldOk P ops a Px dp i:=by
 intro o' ho' vs w hd;rw [ho] at ho';cases ho';have:=h vs w hd;rw [← hds,← zcG] at this;exact ⟨_,this.1,by unfold Region.wanted;rw [hw],this.2⟩
theorem YieldOk.step {V:World} {a:Act} {Px:Nat→List Value→Value→World→Prop} {al:Nat→Bool} {dp:Nat→List Nat} {i:Nat} (h:YieldOk P ops a Px dp i) (hal:al i=false):StepOk P ops V a Px al dp i:=by
 intro o ho vs w hb hd K hK;obtain ⟨v,h1,h2,h3⟩:=h o ho vs w hd;rw [if_pos h2];unfold Oper.wp;rw [h3 w];exact hK.out v w h1 (Below.refl _ _) (fun h=>by rw [hal] at h;cases h)
def Region.lateB (ops:Array Oper) (L1:List Nat) (dp:Nat→List Nat) (AL:List Nat) (e:Nat):Bool :=
 !AL.contains e&&(dp e).all (fun j=>L1.contains j) && !L1.contains e &&
 (match ops[e]? with | some o=>(o.after.all fun x=>!Region.binds .any x||L1.contains x.on)&&((List.range ops.size).all fun j=>j==e||L1.contains j||(match ops[j]? with | some oj=>(oj.after.any fun x=>Region.binds .any x&&x.on==e)||o.apart ops oj | none=>true)) | none=>false)
theorem FinOk.take {V:World} {a:Act} {Px:Nat→List Value→Value→World→Prop} {dp:Nat→List Nat} {AL:List Nat} {L1 l:List Nat} {e:Nat} {A:List Nat}
  (hQ:∀ c (t t':Array Value) d w,Q (.panic c) ⟨t,d⟩ w→Q (.panic c) ⟨t',d⟩ w) (hsel:Region.noSelect ops=true)
  (huniq:∀ i∈A,∀ j∈A,∀ s,qi ops i=some s→qi ops j=some s→i=j) (hdst:∀ i∈A,∀ d,qi ops i=some d→d<a.tmps.size) (hlt:∀ i∈A,i<ops.size)
  (hdp:∀ i∈A,∀ j∈dp i,j∈l∨i=e) (hlooks:∀ i∈A,∀ o,ops[i]?=some o→∀ t∈o.looksAt ops,∀ j∈A,qi ops j=some t→j∈dp i)
  (hl1:∀ i∈L1,i∈l) (hlA:∀ i∈l,i∈A) (heA:e∈A) (hel:e ∉ l) (hdl:∀ i∈l,e ∉ dp i) (hlate:Region.lateB ops L1 dp AL e=true) (hy:YieldOk P ops a Px dp e)
  (hfull:FinOk P ops Q V a Px (fun i=>AL.contains i) dp (l++[e])):FinOk P ops Q V a Px (fun i=>AL.contains i) dp l:=by
 intro vs w hb hp hbk hdis fuel hf;have hen:=hlt e heA;obtain ⟨o,ho⟩:∃ o,ops[e]?=some o:=⟨ops[e],by simp [hen]⟩;unfold Region.lateB at hlate;rw [ho] at hlate;simp only [Bool.and_eq_true,List.all_eq_true,Array.all_eq_true',List.mem_range] at hlate;obtain ⟨⟨⟨h1,h2⟩,_⟩,h4,h5⟩:=hlate;have hal:AL.contains e=false:=by simpa using h1
 have hdl1:∀ j∈dp e,j∈l:=fun j hj=>hl1 j (by simpa using h2 j hj);obtain ⟨v,y1,y2,y3⟩:=hy o ho vs w fun j hj=>hp j (hdl1 j hj);obtain ⟨vs',hvs⟩:∃ vs':Nat→Value,vs'=fun j=>if j=e then v else vs j:=⟨_,rfl⟩
 have hsame:∀ j,j∈l→vs' j=vs j:=fun j hj=>by rw [hvs];simp only [];rw [if_neg fun e'=>hel (by rw [← e'];exact hj)]
 have hnew:vs' e=v:=by rw [hvs];simp
 have hmap:∀ m,(∀ j∈dp m,j∈l)→(dp m).map vs'=(dp m).map vs:=fun m hm=>List.map_congr_left fun j hj=>hsame j (hm j hj);have hact:=zdA (a0:=a) ho huniq hdst hlA heA hsame hnew;have hunl:(zY ops.size l).getD e false=false:=by
  rw [zej hen];refine Bool.eq_false_iff.2 fun h'=>?_;rw [List.contains_iff_mem] at h';exact hel h'
 have hcnt:=(zeD (listed:=zY ops.size l) (i:=e) ops.size).2 hen (by rw [zc3];exact hen) hunl;rw [zei] at hcnt;obtain ⟨f,rfl⟩:∃ f,fuel=f+1:=⟨fuel-1,by omega⟩;have hrest:=hfull vs' w hb ?_ ?_ ?_ f (by omega)
 ·rw [← hact,← zei] at hrest;refine wpAny_first ho (Region.noSelect_spec hsel) (fun c a w h=>by
   have e1:∀ (x:Act) (d:Option Tmp) (u:Value),x.put d u=⟨(x.put d u).tmps,x.defers⟩:=fun x d u=>by cases d <;> rfl
   rw [e1] at h;exact hQ c _ _ _ w h) f _ _ w ?_ ?_ (.inl ⟨?_,fun w'=>?_⟩) hrest
  ·intro j oj hoj hje hun hno;have hjn:j<ops.size:=(Array.getElem?_eq_some_iff.1 hoj).1;have hjl:j ∉ L1:=fun hj=>by
    have:(zY ops.size l).getD j true=true:=by
     have:=List.contains_iff_mem.2 (hl1 j hj);unfold zY;simp [hjn];exact hl1 j hj
    rw [this] at hun;cases hun
   have:=h5 j hjn;rw [hoj] at this;simp only [Bool.or_eq_true,beq_iff_eq] at this;rcases this with (h | h) | h | h
   ·exact absurd h hje
   ·exact absurd (by simpa using h) hjl
   ·rw [Array.any_eq_true'] at h;obtain ⟨x,hx,hxx⟩:=h;simp only [Bool.and_eq_true,beq_iff_eq] at hxx;exact absurd hxx.2 (hno x hx hxx.1)
   ·exact h
  ·rw [mem_ready];refine ⟨?_,o,ho,fun x hx hbx=>?_⟩
   ·have:(zY ops.size l).getD e true=(zY ops.size l).getD e false:=by
     have:e<(zY ops.size l).size:=by rw [zc3];exact hen
     simp [this]
    rw [this];exact hunl
   ·have:=h4 x hx;rw [hbx] at this;have hm:x.on∈l:=hl1 _ (by simpa using this);have hxn:=hlt _ (hlA _ hm);rw [zej hxn];exact List.contains_iff_mem.2 hm
  ·rw [← y2];refine zcj o _ _ fun s hs=>?_;exact zfA huniq hdst hlA hdl1 (hlooks e heA o ho s hs)
  ·rw [zde o (Region.noSelect_spec hsel e o · · ho) ⟨zH ops vs a.tmps l,a.defers⟩ ⟨zH ops vs a.tmps (dp e),a.defers⟩ fun s hs=>zfA huniq hdst hlA hdl1 (hlooks e heA o ho s hs)];exact y3 w'
 ·intro j hj;rcases List.mem_append.1 hj with hj | hj
  ·rw [hmap j (fun m hm=>(hdp j (hlA j hj) m hm).resolve_right fun e'=>hel (e'▸hj)),hsame j hj];exact hp j hj
  ·simp at hj;subst hj;rw [hmap j hdl1,hnew];exact y1
 ·intro j hj ha b hb';rcases List.mem_append.1 hj with hj | hj
  ·rw [hsame j hj] at hb';exact hbk j hj ha b hb'
  ·simp at hj;subst hj;exact absurd ha (by rw [show (fun i=>AL.contains i) j=AL.contains j from rfl,hal];decide)
 ·intro j hj m hm hne ha ha' b e1 e2;rcases List.mem_append.1 hj with hj' | hj'
  ·rcases List.mem_append.1 hm with hm' | hm'
   ·rw [hsame j hj'] at e1;rw [hsame m hm'] at e2;exact hdis j hj' m hm' hne ha ha' b e1 e2
   ·simp at hm';subst hm';exact absurd ha' (by rw [show (fun i=>AL.contains i) m=AL.contains m from rfl,hal];decide)
  ·simp at hj';subst hj';exact absurd ha (by rw [show (fun i=>AL.contains i) j=AL.contains j from rfl,hal];decide)
def MonoP (p:List Value→Value→World→Prop):Prop:=∀ l v w w',p l v w→Below w.heap.size w w'→p l v w'
theorem yx (PX:List (List Value→Value→World→Prop)) (AL:List Nat) (DP:List (List Nat)) (L1 ex:List Nat) (n:Nat) {id:Nat} {a:Act} {w:World} (hm:P.follows .mixedOrders=true)
  (hn:a.tmps.size=n) (hok:Region.propsB .any ops L1 (L1++ex) (fun i=>DP.getD i []) n=true) (hmono:∀ p∈PX,MonoP p)
  (hstep:∀ i∈L1++ex,StepOk P ops w.drew a (fun i=>PX.getD i fun _ _ _=>True) (fun i=>AL.contains i) (fun i=>DP.getD i []) i)
  (hfin:∀ bs:List Bool,bs.length=ex.length→FinOk P ops Q w.drew a (fun i=>PX.getD i fun _ _ _=>True) (fun i=>AL.contains i) (fun i=>DP.getD i []) (L1++zU ex bs)):(Code.region id ops true).wp P Q a w:=by
 subst hn;have hmn:∀ i l v w w',(PX.getD i fun _ _ _=>True) l v w→Below w.heap.size w w'→(PX.getD i fun _ _ _=>True) l v w':=fun i l v w w' h1 h2=>by
  rcases Nat.lt_or_ge i PX.length with hi | hi
  ·rw [List.getD_eq_getElem?_getD,List.getElem?_eq_getElem hi] at h1 ⊢;exact hmono _ (List.getElem_mem hi) l v w w' h1 h2
  ·rw [List.getD_eq_getElem?_getD,List.getElem?_eq_none hi]
   trivial
 refine wp_region_any hm ?_;have:=zhO (P:=P) (Q:=Q) (md:=.any) (al:=fun i=>AL.contains i) (Region.propsB_spec hok) hmn hstep hfin ops.size (Array.replicate ops.size false) [] (fun _=>undef) w.drew (by simp)
  (fun k o ho hk=>by simp [Array.getD_eq_getD_getElem?,Array.getElem?_replicate] at hk;split at hk <;> simp at hk) ?_ (fun i=>⟨fun h=>(by cases h),fun h=>by simp [Array.getD_eq_getD_getElem?,Array.getElem?_replicate] at h;split at h <;> simp at h⟩) (fun _ h=>by cases h) (Below.refl _ _) (fun _ h=>by cases h) (fun _ h=>by cases h) (fun _ h=>by cases h)
 ·exact this
 ·have:∀ (l:Array Bool) n,qA l n≤n:=fun l n=>by
   induction n with
   | zero=>exact Nat.le_refl _
   | succ n ih=>unfold qA;split <;> omega
  exact this _ _
theorem FinOk.mem {V:World} {a:Act} {Px:Nat→List Value→Value→World→Prop} {al:Nat→Bool} {dp:Nat→List Nat} {l l' A:List Nat} (huniq:∀ i∈A,∀ j∈A,∀ s,qi ops i=some s→qi ops j=some s→i=j) (hdst:∀ i∈A,∀ d,qi ops i=some d→d<a.tmps.size)
  (hA:∀ j∈l,j∈A) (hmem:∀ i,i∈l'↔i∈l) (h:FinOk P ops Q V a Px al dp l):FinOk P ops Q V a Px al dp l':=by
 intro vs w h1 h2 h3 h4 fuel hf;rw [zh4 hmem] at hf ⊢;rw [puts_mem huniq hdst hA hmem];exact h vs w h1 (fun i hi=>h2 i ((hmem i).2 hi)) (fun i hi=>h3 i ((hmem i).2 hi)) (fun i hi j hj=>h4 i ((hmem i).2 hi) j ((hmem j).2 hj)) fuel hf
theorem ziw {V:World} {a:Act} {Px:Nat→List Value→Value→World→Prop} {dp:Nat→List Nat} {AL:List Nat} {L1 A:List Nat}
  (hQ:∀ c (t t':Array Value) d w,Q (.panic c) ⟨t,d⟩ w→Q (.panic c) ⟨t',d⟩ w) (hok:Region.PropsOk .any ops L1 A dp a.tmps.size) (hd1:∀ i∈A,∀ j∈dp i,j∈L1) (hL1:∀ i∈L1,i∈A) :
  ∀ ex:List Nat,ex.Nodup→(∀ e∈ex,e∈A∧Region.lateB ops L1 dp AL e=true∧YieldOk P ops a Px dp e)→∀ L:List Nat,(∀ i∈L1,i∈L)→(∀ i∈L,i∈A)→(∀ e∈ex,e ∉ L) →
   FinOk P ops Q V a Px (fun i=>AL.contains i) dp (L++ex)→∀ bs:List Bool,bs.length=ex.length→FinOk P ops Q V a Px (fun i=>AL.contains i) dp (L++zU ex bs)
 | [],_,_,L,_,_,_,h,[],_=>h
 | e::ex,hnd,hex,L,h1,hA,hn,h,b::bs,hbs=>by
   have hnd':=List.nodup_cons.1 hnd;have hex':∀ x∈ex,x∈A∧Region.lateB ops L1 dp AL x=true∧YieldOk P ops a Px dp x:=fun x hx=>hex x (List.mem_cons_of_mem _ hx);obtain ⟨k1,k2,k3⟩:=hex e (List.mem_cons_self ..);have heL:=hn e (List.mem_cons_self ..);cases b with
   | true =>
     have h':FinOk P ops Q V a Px (fun i=>AL.contains i) dp ((L++[e])++ex):=by rw [List.append_assoc];exact h
     have:=ziw hQ hok hd1 hL1 ex hnd'.2 hex' (L++[e]) (fun i hi=>List.mem_append_left _ (h1 i hi)) (fun i hi=>by
      rcases List.mem_append.1 hi with hi | hi
      ·exact hA i hi
      ·simp at hi;subst hi;exact k1) (fun x hx hx'=>by
      rcases List.mem_append.1 hx' with hx' | hx'
      ·exact hn x (List.mem_cons_of_mem _ hx) hx'
      ·simp at hx';subst hx';exact hnd'.1 hx) h' bs (by simpa using hbs)
     rw [List.append_assoc] at this;exact this
   | false =>
     have hnl1:e ∉ L1:=fun h'=>heL (h1 e h');have hAll:∀ i∈L++ex,i∈A:=fun i hi=>by
      rcases List.mem_append.1 hi with hi | hi
      ·exact hA i hi
      ·exact (hex' i hi).1
     refine ziw hQ hok hd1 hL1 ex hnd'.2 hex' L h1 hA (fun x hx=>hn x (List.mem_cons_of_mem _ hx)) ?_ bs (by simpa using hbs);refine FinOk.take (A:=A) (L1:=L1) (e:=e) hQ hok.sel hok.uniq hok.dst hok.lt (fun i hi j hj=>.inl (List.mem_append_left _ (h1 j (hd1 i hi j hj)))) hok.looks (fun i hi=>List.mem_append_left _ (h1 i hi)) hAll k1 (fun h'=>?_) (fun i hi h'=>hnl1 (hd1 i (hAll i hi) e h')) k2 k3 ?_
     ·rcases List.mem_append.1 h' with h' | h'
      ·exact heL h'
      ·exact hnd'.1 h'
     ·refine FinOk.mem (A:=A) hok.uniq hok.dst (l:=L++e::ex) (fun j hj=>?_) (fun i=>?_) h
      ·rcases List.mem_append.1 hj with hj | hj
       ·exact hA j hj
       ·exact (hex j hj).1
      ·simp only [List.mem_append,List.mem_cons,List.mem_singleton,List.not_mem_nil,or_false];constructor
       ·rintro ((h | h) | h)
        ·exact .inl h
        ·exact .inr (.inr h)
        ·exact .inr (.inl h)
       ·rintro (h | h | h)
        ·exact .inl (.inl h)
        ·exact .inr h
        ·exact .inl (.inr h)
theorem zaN (PX:List (List Value→Value→World→Prop)) (AL:List Nat) (DP:List (List Nat)) (L1 ex:List Nat) (n:Nat) {id:Nat} {a:Act} {w:World} (hm:P.follows .mixedOrders=true)
  (hn:a.tmps.size=n) (hok:Region.propsB .any ops L1 (L1++ex) (fun i=>DP.getD i []) n=true) (hlate:(ex.all (fun e=>Region.lateB ops L1 (fun i=>DP.getD i []) AL e)&&(L1++ex).all (fun i=>(DP.getD i []).all fun j=>L1.contains j)&&decide ex.Nodup)=true)
  (hQ:∀ c (t t':Array Value) d w,Q (.panic c) ⟨t,d⟩ w→Q (.panic c) ⟨t',d⟩ w) (hmono:∀ p∈PX,MonoP p)
  (hstep:∀ i∈L1,StepOk P ops w.drew a (fun i=>PX.getD i fun _ _ _=>True) (fun i=>AL.contains i) (fun i=>DP.getD i []) i)
  (hyield:∀ i∈ex,YieldOk P ops a (fun i=>PX.getD i fun _ _ _=>True) (fun i=>DP.getD i []) i)
  (hfin:FinOk P ops Q w.drew a (fun i=>PX.getD i fun _ _ _=>True) (fun i=>AL.contains i) (fun i=>DP.getD i []) (L1++ex)):(Code.region id ops true).wp P Q a w:=by
 simp only [Bool.and_eq_true,List.all_eq_true,decide_eq_true_eq] at hlate;obtain ⟨⟨k1,k2⟩,k3⟩:=hlate;have hok':=Region.propsB_spec hok;subst hn;refine yx PX AL DP L1 ex a.tmps.size hm rfl hok hmono ?_ ?_
 ·intro i hi;rcases List.mem_append.1 hi with hi | hi
  ·exact hstep i hi
  ·refine (hyield i hi).step ?_;have:=k1 i hi;unfold Region.lateB at this;simp only [Bool.and_eq_true] at this;simpa using this.1.1.1
 ·refine ziw (A:=L1++ex) hQ hok' (fun i hi j hj=>?_) (fun i hi=>List.mem_append_left _ hi) ex k3 (fun e he=>⟨List.mem_append_right _ he,k1 e he,hyield e he⟩) L1 (fun i hi=>hi) (fun i hi=>List.mem_append_left _ hi) (fun e he h=>?_) hfin
  ·have:=k2 i hi j hj;simpa using this
  ·have:=k1 e he;unfold Region.lateB at this;simp only [Bool.and_eq_true] at this;have h2:=this.1.2;simp [h] at h2
theorem yH {p:List Bool→Prop} (h:p []):∀ bs:List Bool,bs.length=0→p bs
 | [],_=>h
theorem zE (i:Nat) {o:Oper} {fuel:Nat} {listed:Array Bool} {a:Act} {w:World} (hr:Region.ready md ops listed=[i]) (ho:ops[i]?=some o)
  (h:∀ K':Act→World→Prop,Shut (∀ a w,wpAny P md ops Q fuel (listed.setIfInBounds i true) a w→K' a w)→if Region.wanted o (yielded ops a.tmps)=true then Oper.wp P o a w K' Q else K' (a.put o.dst undef) w) :
  wpAny P md ops Q (fuel+1) listed a w :=
 ⟨fun h0=>(by rw [hr] at h0;cases h0),fun j hj=>by
   rw [hr] at hj;obtain rfl:=List.mem_singleton.1 hj;exact wpOp_step ho fun K' hK=>h K' fun a w hW=>hK a w hW⟩
theorem jw (i j:Nat) {o p:Oper} {fuel:Nat} {listed:Array Bool} {a:Act} {w:World} (hr:Region.ready md ops listed=[i,j]) (ho:ops[i]?=some o) (hp:ops[j]?=some p)
  (h:∀ K':Act→World→Prop,Shut (∀ a w,wpAny P md ops Q fuel (listed.setIfInBounds i true) a w→K' a w)→if Region.wanted o (yielded ops a.tmps)=true then Oper.wp P o a w K' Q else K' (a.put o.dst undef) w)
  (h2:∀ K':Act→World→Prop,Shut (∀ a w,wpAny P md ops Q fuel (listed.setIfInBounds j true) a w→K' a w)→if Region.wanted p (yielded ops a.tmps)=true then Oper.wp P p a w K' Q else K' (a.put p.dst undef) w) :
  wpAny P md ops Q (fuel+1) listed a w :=
 ⟨fun h0=>(by rw [hr] at h0;cases h0),fun k hk=>by
   rw [hr] at hk;rcases List.mem_cons.1 hk with rfl | hk
   ·exact wpOp_step ho fun K' hK=>h K' fun a w hW=>hK a w hW
   ·obtain rfl:=List.mem_singleton.1 hk;exact wpOp_step hp fun K' hK=>h2 K' fun a w hW=>hK a w hW⟩
theorem qc {listed:Array Bool} {a:Act} {w:World} (hr:Region.ready md ops listed=[]) (h:Q .normal a w):∀ fuel,wpAny P md ops Q fuel listed a w
 | 0=>⟨hr,h⟩
 | _+1=>⟨fun _=>h,by rw [hr];simp⟩
end
end Go
end
