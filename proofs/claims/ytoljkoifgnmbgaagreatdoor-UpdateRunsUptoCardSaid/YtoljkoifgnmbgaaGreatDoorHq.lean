import Derived.Test.YtoljkoifgnmbgaaGreatDoorHp
set_option linter.unusedSimpArgs false
set_option linter.unusedVariables false
open Go Go.RowKit
namespace Go
section
variable {P:Program} {ops:Array Oper} {Q:Exit→Act→World→Prop} {md:Region.Mode} {S S0:World→Prop} {st:Nat}
theorem zgV {i:Nat} {oi:Oper} {v:Value} (hi:ops[i]?=some oi) (hsel:∀ (j:Nat) (o:Oper) cs b,ops[j]?=some o→o.op≠.select cs b)
  (hQ:∀ c a w,Q (.panic c) (a.put oi.dst v) w→Q (.panic c) a w) (hist:i≠st) :
  ∀ (fuel:Nat) (listed:Array Bool) (a:Act) (w:World),
   (∀ j oj,ops[j]?=some oj→j≠i→listed.getD j true=false→(∀ e∈oj.after,Region.binds md e=true→e.on≠i)→oi.apart ops oj=true) →
   i∈Region.ready md ops listed→YieldsIf P ops S0 oi v a→Region.held S S0 st listed w →
   zcH P md ops Q S S0 st fuel (listed.setIfInBounds i true) (a.put oi.dst v) w→zcH P md ops Q S S0 st (fuel+1) listed a w:=by
 intro fuel
 induction fuel with
 | zero =>
   intro listed a w _ hr hy hS H;refine ⟨fun h=>(by rw [h] at hr;cases hr),fun j hj=>?_⟩;by_cases hji:j=i
   ·subst hji;exact hy.wpOp hi hS.2 ⟨Region.held_set hS,H⟩
   ·have:=ready_mono hj hji;rw [H.1] at this;cases this
 | succ fuel ih =>
   intro listed a w hfree hr hy hS H;refine ⟨fun h=>(by rw [h] at hr;cases hr),fun j hj=>?_⟩;by_cases hji:j=i
   ·subst hji;exact hy.wpOp hi hS.2 ⟨Region.held_set hS,H⟩
   ·have h1:=H.2 j (ready_mono hj hji);obtain ⟨hjun,oj,hoj,hall⟩:=mem_ready.1 hj;have hnot:∀ e∈oj.after,Region.binds md e=true→e.on≠i:=fun e he hb heq=>by
     have h1:=hall e he hb;have h0:=(mem_ready.1 hr).1;rw [heq] at h1;rcases Nat.lt_or_ge i listed.size with h' | h'
     ·simp [h'] at h0 h1;rw [h0] at h1;cases h1
     ·simp [Array.getElem?_eq_none h'] at h1
    have h2:=wpOp_putIf hoj (hfree j oj hoj hji hjun hnot) (fun cs b=>hsel i oi cs b hi) (fun cs b=>hsel j oj cs b hoj) hQ hy h1;have hfree':∀ k ok,ops[k]?=some ok→k≠i→(listed.setIfInBounds j true).getD k true=false →
      (∀ e∈ok.after,Region.binds md e=true→e.on≠i)→oi.apart ops ok=true:=fun k ok hk hki hun hno=>by
     refine hfree k ok hk hki ?_ hno;by_cases hjk:j=k
     ·subst hjk;exact hjun
     ·rw [getD_set_ne true hjk] at hun;exact hun
    have hback:∀ w',Region.held S S0 st ((listed.setIfInBounds i true).setIfInBounds j true) w'→Region.held S S0 st (listed.setIfInBounds j true) w':=fun w' h=>⟨fun h0=>h.1 (by
     rw [Array.setIfInBounds_comm _ _ (Ne.symm hji),getD_set_ne false hist];exact h0),h.2⟩
    have hr':i∈Region.ready md ops (listed.setIfInBounds j true):=ready_mono hr (Ne.symm hji);refine wpOp_mono (fun a' w' h3=>⟨hback w' h3.2.1,ih (listed.setIfInBounds j true) a' w' hfree' hr' h3.1 (hback w' h3.2.1) ?_⟩) (wpOp_mono (fun a' w' h3=>h3) h2);rw [Array.setIfInBounds_comm _ _ hji];exact h3.2.2
def FinOkG (P:Program) (ops:Array Oper) (Q:Exit→Act→World→Prop) (V:World) (a:Act) (Px:Nat→List Value→Value→World→Prop) (al:Nat→Bool) (dp:Nat→List Nat) (L:List Nat):Prop :=
 ∀ (vs:Nat→Value) (w:World),Below V.heap.size V w→(∀ i∈L,Px i ((dp i).map vs) (vs i) w)→(∀ i∈L,al i=true→∀ b,zV (vs i)=some b→V.heap.size≤b∧b<w.heap.size) →
  (∀ i∈L,∀ j∈L,i≠j→al i=true→al j=true→∀ b,zV (vs i)=some b→zV (vs j)≠some b) →
  ∀ fuel,ya (qc ops.size L) ops.size≤fuel→zcH P .any ops Q (fun _=>True) (fun w=>Below V.heap.size V w) ops.size fuel (qc ops.size L) ⟨qe ops vs a.tmps L,a.defers⟩ w
theorem FinOkG.ok {V:World} {a:Act} {Px:Nat→List Value→Value→World→Prop} {al:Nat→Bool} {dp:Nat→List Nat} {L:List Nat} (h:FinOkG P ops Q V a Px al dp L):FinOk P ops Q V a Px al dp L :=
 fun vs w h1 h2 h3 h4 fuel hf=>zd8 _ _ _ _ (h vs w h1 h2 h3 h4 fuel hf)
def YieldG (P:Program) (ops:Array Oper) (V:World) (a:Act) (Px:Nat→List Value→Value→World→Prop) (dp:Nat→List Nat) (i:Nat):Prop :=
 ∀ o,ops[i]?=some o→∀ (vs:Nat→Value) (w:World),Below V.heap.size V w→(∀ j∈dp i,Px j ((dp j).map vs) (vs j) w) →
  ∃ v,Px i ((dp i).map vs) v w∧Region.wanted o (yielded ops (qe ops vs a.tmps (dp i)))=true∧∀ w',Below V.heap.size V w'→(execOp (Act.mk (qe ops vs a.tmps (dp i)) a.defers).eval o).run P w' = .ok (.value v) w'
def Region.lateC (ops:Array Oper) (L1:List Nat) (dp:Nat→List Nat) (AL:List Nat) (e:Nat):Bool :=
 !AL.contains e && !L1.contains e &&
 (match ops[e]? with | some o=>(o.after.all fun x=>!Region.binds .any x||(L1.contains x.on||(dp e).contains x.on))&&((List.range ops.size).all fun j=>j==e||(L1.contains j||(dp e).contains j)||(match ops[j]? with | some oj=>(oj.after.any fun x=>Region.binds .any x&&x.on==e)||o.apart ops oj | none=>true)) | none=>false)
theorem YieldG.intro {V:World} {a:Act} {Px:Nat→List Value→Value→World→Prop} {dp:Nat→List Nat} {i:Nat} {o:Oper} (ho:ops[i]?=some o) (DS:List (Nat×Option Tmp)) (hds:(dp i).map (fun j=>(j,qa ops j))=DS) (f:List Value→Value)
  (hw:o.guard=none) (h:∀ (vs:Nat→Value) (w:World),Below V.heap.size V w→(∀ j∈dp i,Px j ((dp j).map vs) (vs j) w) →
   Px i ((dp i).map vs) (f ((dp i).map vs)) w∧∀ w',Below V.heap.size V w'→(execOp (Act.mk (zo vs a.tmps DS) a.defers).eval o).run P w' = .ok (.value (f ((dp i).map vs))) w'):YieldG P ops V a Px dp i:=by
 intro o' ho' vs w hb hd;rw [ho] at ho';cases ho';have:=h vs w hb hd;rw [← hds,← zev] at this;exact ⟨_,this.1,by unfold Region.wanted;rw [hw],this.2⟩
theorem YieldG.step {V:World} {a:Act} {Px:Nat→List Value→Value→World→Prop} {al:Nat→Bool} {dp:Nat→List Nat} {i:Nat} (h:YieldG P ops V a Px dp i) (hal:al i=false):StepOk P ops V a Px al dp i:=by
 intro o ho vs w hb hd K hK;obtain ⟨v,h1,h2,h3⟩:=h o ho vs w hb hd;rw [if_pos h2];unfold Oper.wp;rw [h3 w hb];exact hK.out v w h1 (Below.refl _ _) (fun h=>by rw [hal] at h;cases h)
theorem FinOkG.intro {V:World} {a:Act} {Px:Nat→List Value→Value→World→Prop} {al:Nat→Bool} {dp:Nat→List Nat} {L:List Nat} (DS:List (Nat×Option Tmp)) (ARR:Array Bool) (m:Nat)
  (hds:L.map (fun j=>(j,qa ops j))=DS) (harr:qc ops.size L=ARR) (hun:ya ARR ops.size=m)
  (h:∀ (vs:Nat→Value) (w:World),Below V.heap.size V w→(∀ i∈L,Px i ((dp i).map vs) (vs i) w)→(∀ i∈L,al i=true→∀ b,zV (vs i)=some b→V.heap.size≤b∧b<w.heap.size) →
    (∀ i∈L,∀ j∈L,i≠j→al i=true→al j=true→∀ b,zV (vs i)=some b→zV (vs j)≠some b)→∀ k,zcH P .any ops Q (fun _=>True) (fun w=>Below V.heap.size V w) ops.size (k+m) ARR ⟨zo vs a.tmps DS,a.defers⟩ w):FinOkG P ops Q V a Px al dp L:=by
 intro vs w h1 h2 h3 h4 fuel hf;rw [harr,hun] at hf;have:=h vs w h1 h2 h3 h4 (fuel-m);rw [show fuel-m+m=fuel by omega] at this;rw [harr,zev,hds];exact this
theorem FinOkG.take {V:World} {a:Act} {Px:Nat→List Value→Value→World→Prop} {dp:Nat→List Nat} {AL:List Nat} {L1 l:List Nat} {e:Nat} {A:List Nat}
  (hQ:∀ c (t t':Array Value) d w,Q (.panic c) ⟨t,d⟩ w→Q (.panic c) ⟨t',d⟩ w) (hsel:Region.noSelect ops=true)
  (huniq:∀ i∈A,∀ j∈A,∀ s,qa ops i=some s→qa ops j=some s→i=j) (hdst:∀ i∈A,∀ d,qa ops i=some d→d<a.tmps.size) (hlt:∀ i∈A,i<ops.size)
  (hcl:∀ i∈l,∀ j∈dp i,j∈l) (hde:∀ j∈dp e,j∈l) (hlooks:∀ i∈A,∀ o,ops[i]?=some o→∀ t∈o.looksAt ops,∀ j∈A,qa ops j=some t→j∈dp i)
  (hl1:∀ i∈L1,i∈l) (hlA:∀ i∈l,i∈A) (heA:e∈A) (hel:e ∉ l) (hlate:Region.lateC ops L1 dp AL e=true) (hy:YieldG P ops V a Px dp e)
  (hfull:FinOkG P ops Q V a Px (fun i=>AL.contains i) dp (l++[e])):FinOkG P ops Q V a Px (fun i=>AL.contains i) dp l:=by
 intro vs w hb hp hbk hdis fuel hf;have hen:=hlt e heA;obtain ⟨o,ho⟩:∃ o,ops[e]?=some o:=⟨ops[e],by simp [hen]⟩;unfold Region.lateC at hlate;rw [ho] at hlate;simp only [Bool.and_eq_true,List.all_eq_true,Array.all_eq_true',List.mem_range] at hlate;obtain ⟨⟨h1,_⟩,h4,h5⟩:=hlate;have hal:AL.contains e=false:=by simpa using h1
 have hdl1:=hde;obtain ⟨v,y1,y2,y3⟩:=hy o ho vs w hb fun j hj=>hp j (hdl1 j hj);obtain ⟨vs',hvs⟩:∃ vs':Nat→Value,vs'=fun j=>if j=e then v else vs j:=⟨_,rfl⟩
 have hsame:∀ j,j∈l→vs' j=vs j:=fun j hj=>by rw [hvs];simp only [];rw [if_neg fun e'=>hel (by rw [← e'];exact hj)]
 have hnew:vs' e=v:=by rw [hvs];simp
 have hmap:∀ m,(∀ j∈dp m,j∈l)→(dp m).map vs'=(dp m).map vs:=fun m hm=>List.map_congr_left fun j hj=>hsame j (hm j hj);have hact:=zdX (a0:=a) ho huniq hdst hlA heA hsame hnew;have hunl:(qc ops.size l).getD e false=false:=by
  rw [zcd hen];refine Bool.eq_false_iff.2 fun h'=>?_;rw [List.contains_iff_mem] at h';exact hel h'
 have hcnt:=(zfq (listed:=qc ops.size l) (i:=e) ops.size).2 hen (by rw [zb5];exact hen) hunl;rw [zcc] at hcnt;obtain ⟨f,rfl⟩:∃ f,fuel=f+1:=⟨fuel-1,by omega⟩;have hrest:=hfull vs' w hb ?_ ?_ ?_ f (by omega)
 ·rw [← hact,← zcc] at hrest;refine zgV ho (Region.noSelect_spec hsel) (fun c a w h=>by
   have e1:∀ (x:Act) (d:Option Tmp) (u:Value),x.put d u=⟨(x.put d u).tmps,x.defers⟩:=fun x d u=>by cases d <;> rfl
   rw [e1] at h;exact hQ c _ _ _ w h) (Nat.ne_of_lt hen) f _ _ w ?_ ?_ (.inl ⟨?_,fun w' hw'=>?_⟩) ⟨fun _=>trivial,hb⟩ hrest
  ·intro j oj hoj hje hun hno;have hjn:j<ops.size:=(Array.getElem?_eq_some_iff.1 hoj).1;have hjl:j ∉ l:=fun hj=>by
    have:(qc ops.size l).getD j true=true:=by
     unfold qc;simp [hjn];exact hj
    rw [this] at hun;cases hun
   have:=h5 j hjn;rw [hoj] at this;simp only [Bool.or_eq_true,beq_iff_eq] at this;rcases this with (h | h) | h | h
   ·exact absurd h hje
   ·have h6:j∈L1∨j∈dp e:=by simpa using h
    exact absurd (h6.elim (hl1 _) (hde _)) hjl
   ·rw [Array.any_eq_true'] at h;obtain ⟨x,hx,hxx⟩:=h;simp only [Bool.and_eq_true,beq_iff_eq] at hxx;exact absurd hxx.2 (hno x hx hxx.1)
   ·exact h
  ·rw [mem_ready];refine ⟨?_,o,ho,fun x hx hbx=>?_⟩
   ·have:(qc ops.size l).getD e true=(qc ops.size l).getD e false:=by
     have:e<(qc ops.size l).size:=by rw [zb5];exact hen
     simp [this]
    rw [this];exact hunl
   ·have:=h4 x hx;rw [hbx] at this;have hm:x.on∈l:=by
     have h6:x.on∈L1∨x.on∈dp e:=by simpa using this
     exact h6.elim (hl1 _) (hde _)
    have hxn:=hlt _ (hlA _ hm);rw [zcd hxn];exact List.contains_iff_mem.2 hm
  ·rw [← y2];refine zcT o _ _ fun s hs=>?_;exact zdp huniq hdst hlA hdl1 (hlooks e heA o ho s hs)
  ·rw [ze7 o (Region.noSelect_spec hsel e o · · ho) ⟨qe ops vs a.tmps l,a.defers⟩ ⟨qe ops vs a.tmps (dp e),a.defers⟩ fun s hs=>zdp huniq hdst hlA hdl1 (hlooks e heA o ho s hs)];exact y3 w' hw'
 ·intro j hj;rcases List.mem_append.1 hj with hj | hj
  ·rw [hmap j (hcl j hj),hsame j hj];exact hp j hj
  ·simp at hj;subst hj;rw [hmap j hdl1,hnew];exact y1
 ·intro j hj ha b hb';rcases List.mem_append.1 hj with hj | hj
  ·rw [hsame j hj] at hb';exact hbk j hj ha b hb'
  ·simp at hj;subst hj;exact absurd ha (by rw [show (fun i=>AL.contains i) j=AL.contains j from rfl,hal];decide)
 ·intro j hj m hm hne ha ha' b e1 e2;rcases List.mem_append.1 hj with hj' | hj'
  ·rcases List.mem_append.1 hm with hm' | hm'
   ·rw [hsame j hj'] at e1;rw [hsame m hm'] at e2;exact hdis j hj' m hm' hne ha ha' b e1 e2
   ·simp at hm';subst hm';exact absurd ha' (by rw [show (fun i=>AL.contains i) m=AL.contains m from rfl,hal];decide)
  ·simp at hj';subst hj';exact absurd ha (by rw [show (fun i=>AL.contains i) j=AL.contains j from rfl,hal];decide)
theorem FinOkG.mem {V:World} {a:Act} {Px:Nat→List Value→Value→World→Prop} {al:Nat→Bool} {dp:Nat→List Nat} {l l' A:List Nat} (huniq:∀ i∈A,∀ j∈A,∀ s,qa ops i=some s→qa ops j=some s→i=j) (hdst:∀ i∈A,∀ d,qa ops i=some d→d<a.tmps.size)
  (hA:∀ j∈l,j∈A) (hmem:∀ i,i∈l'↔i∈l) (h:FinOkG P ops Q V a Px al dp l):FinOkG P ops Q V a Px al dp l':=by
 intro vs w h1 h2 h3 h4 fuel hf;rw [zeE hmem] at hf ⊢;rw [zka huniq hdst hA hmem];exact h vs w h1 (fun i hi=>h2 i ((hmem i).2 hi)) (fun i hi=>h3 i ((hmem i).2 hi)) (fun i hi j hj=>h4 i ((hmem i).2 hi) j ((hmem j).2 hj)) fuel hf
theorem zcG {Px:Nat→List Value→Value→World→Prop} {al:Nat→Bool} {dp:Nat→List Nat} {L1 ex:List Nat} {V:World} {a0:Act}
  (hok:Region.PropsOk md ops L1 (L1++ex) dp a0.tmps.size)
  (hfin:∀ bs:List Bool,bs.length=ex.length→(∀ i∈L1++zX ex bs,∀ j∈dp i,j∈L1++zX ex bs)→∀ (vs:Nat→Value) (w:World),Below V.heap.size V w→(∀ i∈L1++zX ex bs,Px i ((dp i).map vs) (vs i) w) →
    (∀ i∈L1++zX ex bs,al i=true→∀ b,zV (vs i)=some b→V.heap.size≤b∧b<w.heap.size) →
    (∀ i∈L1++zX ex bs,∀ j∈L1++zX ex bs,i≠j→al i=true→al j=true→∀ b,zV (vs i)=some b→zV (vs j)≠some b) →
    ∀ fuel,ya (qc ops.size (L1++zX ex bs)) ops.size≤fuel→wpAny P md ops Q fuel (qc ops.size (L1++zX ex bs)) ⟨qe ops vs a0.tmps (L1++zX ex bs),a0.defers⟩ w)
  {fuel:Nat} {listed:Array Bool} {l:List Nat} {vs:Nat→Value} {w:World} (hz:listed.size=ops.size) (hu:ya listed ops.size≤fuel) (hl:∀ i,i∈l↔listed.getD i false=true) (hA:∀ i∈l,i∈L1++ex)
  (hb:Below V.heap.size V w) (hp:∀ i∈l,Px i ((dp i).map vs) (vs i) w) (hbk:∀ i∈l,al i=true→∀ b,zV (vs i)=some b→V.heap.size≤b∧b<w.heap.size)
  (hdis:∀ i∈l,∀ j∈l,i≠j→al i=true→al j=true→∀ b,zV (vs i)=some b→zV (vs j)≠some b)
  (hcl:Region.shutL md ops listed) (hall:∀ i∈L1,listed.getD i false=true):wpAny P md ops Q fuel listed ⟨qe ops vs a0.tmps l,a0.defers⟩ w:=by
 have hmem:∀ i,i∈L1++zX ex (ex.map fun i=>listed.getD i false)↔i∈l:=fun i=>by
  rw [zfB,List.mem_append,List.mem_filter,hl i];constructor
  ·rintro (h | h)
   ·exact hall i h
   ·exact h.2
  ·intro h;rcases List.mem_append.1 (hA i ((hl i).2 h)) with h' | h'
   ·exact .inl h'
   ·exact .inr ⟨h',h⟩
 have hli:qc ops.size (L1++zX ex (ex.map fun i=>listed.getD i false))=listed:=by
  refine Array.ext (by simp [qc,hz]) fun i h1 h2=>?_;have e1:(qc ops.size (L1++zX ex (ex.map fun i=>listed.getD i false)))[i]=(L1++zX ex (ex.map fun i=>listed.getD i false)).contains i:=by simp [qc]
  rw [e1];have e2:listed.getD i false=listed[i]:=by simp [h2]
  rw [← e2];cases hc:listed.getD i false with
  | true=>rw [List.contains_iff_mem];exact (hmem i).2 ((hl i).2 hc)
  | false =>
    refine Bool.eq_false_iff.2 fun h=>?_;rw [List.contains_iff_mem] at h;rw [(hl i).1 ((hmem i).1 h)] at hc;cases hc
 have hact:qe ops vs a0.tmps (L1++zX ex (ex.map fun i=>listed.getD i false))=qe ops vs a0.tmps l:=by
  refine Array.ext_getElem? fun s=>?_;by_cases hex:∃ j,j∈l∧qa ops j=some s
  ·obtain ⟨j,hj,hjs⟩:=hex;have hsz:=hok.dst j (hA j hj) s hjs;rw [jD vs s j hjs l _ hj (fun m hm e=>hok.uniq m (hA m hm) j (hA j hj) s e hjs) hsz,jD vs s j hjs _ _ ((hmem j).2 hj) (fun m hm e=>hok.uniq m (hA m ((hmem m).1 hm)) j (hA j hj) s e hjs) hsz]
  ·rw [jF vs s l _ fun j hj e=>hex ⟨j,hj,e⟩,jF vs s _ _ fun j hj e=>hex ⟨j,(hmem j).1 hj,e⟩]
 have h:=hfin (ex.map fun i=>listed.getD i false) (by simp) (fun i hi j hj=>(hmem j).2 ((hl j).2 (Region.coverOf_in hcl ((hl i).1 ((hmem i).1 hi)) (hok.dep i (hA i ((hmem i).1 hi)) j hj).1))) vs w hb (fun i hi=>hp i ((hmem i).1 hi)) (fun i hi=>hbk i ((hmem i).1 hi)) (fun i hi j hj=>hdis i ((hmem i).1 hi) j ((hmem j).1 hj)) fuel (by rw [hli];exact hu);rw [hli,hact] at h;exact h
theorem zhM {Px:Nat→List Value→Value→World→Prop} {al:Nat→Bool} {dp:Nat→List Nat} {L1 ex:List Nat} {V:World} {a0:Act}
  (hok:Region.PropsOk md ops L1 (L1++ex) dp a0.tmps.size) (hmono:∀ i l v w w',Px i l v w→Below w.heap.size w w'→Px i l v w')
  (hstep:∀ i∈L1++ex,StepOk P ops V a0 Px al dp i)
  (hfin:∀ bs:List Bool,bs.length=ex.length→(∀ i∈L1++zX ex bs,∀ j∈dp i,j∈L1++zX ex bs)→∀ (vs:Nat→Value) (w:World),Below V.heap.size V w→(∀ i∈L1++zX ex bs,Px i ((dp i).map vs) (vs i) w) →
    (∀ i∈L1++zX ex bs,al i=true→∀ b,zV (vs i)=some b→V.heap.size≤b∧b<w.heap.size) →
    (∀ i∈L1++zX ex bs,∀ j∈L1++zX ex bs,i≠j→al i=true→al j=true→∀ b,zV (vs i)=some b→zV (vs j)≠some b) →
    ∀ fuel,ya (qc ops.size (L1++zX ex bs)) ops.size≤fuel→wpAny P md ops Q fuel (qc ops.size (L1++zX ex bs)) ⟨qe ops vs a0.tmps (L1++zX ex bs),a0.defers⟩ w) :
  ∀ (fuel:Nat) (listed:Array Bool) (l:List Nat) (vs:Nat→Value) (w:World),listed.size=ops.size→Region.shutL md ops listed→ya listed ops.size≤fuel→(∀ i,i∈l↔listed.getD i false=true)→(∀ i∈l,i∈L1++ex) →
   Below V.heap.size V w→(∀ i∈l,Px i ((dp i).map vs) (vs i) w)→(∀ i∈l,al i=true→∀ b,zV (vs i)=some b→V.heap.size≤b∧b<w.heap.size) →
   (∀ i∈l,∀ j∈l,i≠j→al i=true→al j=true→∀ b,zV (vs i)=some b→zV (vs j)≠some b) →
   wpAny P md ops Q fuel listed ⟨qe ops vs a0.tmps l,a0.defers⟩ w:=by
 intro fuel
 induction fuel with
 | zero =>
   intro listed l vs w hz hcl hu hl hA hb hp hbk hdis;exact zcG hok hfin hz hu hl hA hb hp hbk hdis hcl fun i hi=>zgY _ (by omega) i (hok.lt i (List.mem_append_left _ hi))
 | succ fuel ih =>
   intro listed l vs w hz hcl hu hl hA hb hp hbk hdis;by_cases hall:∀ i∈L1,listed.getD i false=true
   ·exact zcG hok hfin hz hu hl hA hb hp hbk hdis hcl hall
   ·have hall':∃ i,i∈L1∧listed.getD i false=false:=by
     refine Classical.byContradiction fun hne=>hall fun i hi=>?_;cases hc:listed.getD i false with
     | true=>rfl
     | false=>exact absurd ⟨i,hi,hc⟩ hne
    obtain ⟨k,hk,hkf⟩:=hall';have hkn:=hok.lt k (List.mem_append_left _ hk);refine ⟨fun hr=>absurd hr (zjT hz hok.back hkn hkf),fun i hi=>?_⟩;have hi':=hi;obtain ⟨hun,o,ho,hafter⟩:=mem_ready.1 hi;have hin:i<ops.size:=(Array.getElem?_eq_some_iff.1 ho).1;have hunf:listed.getD i false=false:=by
     have:i<listed.size:=by omega
     simp [this] at hun ⊢;exact hun
    have hiA:i∈L1++ex:=by
     refine Classical.byContradiction fun hne=>?_;have:=Region.coverOf_spec hcl hi (hok.last i hin hne k hk);rw [this] at hkf;cases hkf
    have hdl:∀ j∈dp i,j∈l:=fun j hj=>(hl j).2 (Region.coverOf_spec hcl hi (hok.dep i hiA j hj).1);have hil:i ∉ l:=fun h=>by rw [(hl i).1 h] at hunf;cases hunf
    refine (hstep i hiA).wpOp ho (Region.noSelect_spec hok.sel i o · · ho) hb (fun j hj=>hp j (hdl j hj)) (fun s hs=>?_) fun v w' h1 h2 h3=>?_
    ·by_cases hex:∃ j,j∈l∧qa ops j=some s
     ·obtain ⟨j,hj,hjs⟩:=hex;have hjA:=hA j hj;have hjd:=hok.looks i hiA o ho s hs j hjA hjs;have hsz:=hok.dst j hjA s hjs;rw [jD vs s j hjs l _ hj (fun m hm e=>hok.uniq m (hA m hm) j hjA s e hjs) hsz,jD vs s j hjs (dp i) _ hjd (fun m hm e=>hok.uniq m (hok.dep i hiA m hm).2 j hjA s e hjs) hsz]
     ·rw [jF vs s l _ fun j hj e=>hex ⟨j,hj,e⟩,jF vs s (dp i) _ fun j hj e=>hex ⟨j,hdl j hj,e⟩]
    ·obtain ⟨vs',hvs⟩:∃ vs':Nat→Value,vs'=fun j=>if j=i then v else vs j:=⟨_,rfl⟩
     have hsame:∀ j,j∈l→vs' j=vs j:=fun j hj=>by rw [hvs];simp only [];rw [if_neg fun e=>hil (by rw [← e];exact hj)]
     have hnew:vs' i=v:=by rw [hvs];simp
     have hmap:∀ m,(∀ j∈dp m,j∈l)→(dp m).map vs'=(dp m).map vs:=fun m hm=>List.map_congr_left fun j hj=>hsame j (hm j hj);have hdm:∀ j∈l,∀ m∈dp j,m∈l:=fun j hj m hm=>(hl m).2 (Region.coverOf_in hcl ((hl j).1 hj) (hok.dep j (hA j hj) m hm).1);have hact:=zdX (a0:=a0) ho hok.uniq hok.dst hA hiA hsame hnew;rw [hact];have hbw:=h2.size;refine ih (listed.setIfInBounds i true) (l++[i]) vs' w' (by simp [hz]) (Region.shutL_set hcl hi') ?_ ?_ ?_ (hb.trans (h2.mono hb.size)) ?_ ?_ ?_
     ·have:=(zfq (listed:=listed) (i:=i) ops.size).2 hin (by omega) hunf;omega
     ·intro j;rw [List.mem_append,List.mem_singleton,hl j];by_cases e:i=j
      ·subst e;have hlt:i<listed.size:=by omega
       simp [hlt]
      ·rw [getD_set_ne false e];exact ⟨fun h=>h.resolve_right (fun e'=>e e'.symm),.inl⟩
     ·intro j hj;rcases List.mem_append.1 hj with hj | hj
      ·exact hA j hj
      ·simp at hj;subst hj;exact hiA
     ·intro j hj;rcases List.mem_append.1 hj with hj | hj
      ·rw [hmap j (hdm j hj),hsame j hj];exact hmono j _ _ w w' (hp j hj) h2
      ·simp at hj;subst hj;rw [hmap j hdl,hnew];exact h1
     ·intro j hj ha b hb';rcases List.mem_append.1 hj with hj | hj
      ·rw [hsame j hj] at hb';obtain ⟨c1,c2⟩:=hbk j hj ha b hb';exact ⟨c1,by omega⟩
      ·simp at hj;subst hj;rw [hnew] at hb';obtain ⟨c1,c2⟩:=h3 ha b hb';have:=hb.size;exact ⟨by omega,c2⟩
     ·intro j hj m hm hne ha ha' b e1 e2;rcases List.mem_append.1 hj with hj' | hj' <;> rcases List.mem_append.1 hm with hm' | hm'
      ·rw [hsame j hj'] at e1;rw [hsame m hm'] at e2;exact hdis j hj' m hm' hne ha ha' b e1 e2
      ·simp at hm';subst hm';rw [hsame j hj'] at e1;rw [hnew] at e2;have:=(hbk j hj' ha b e1).2;have:=(h3 ha' b e2).1;omega
      ·simp at hj';subst hj';rw [hsame m hm'] at e2;rw [hnew] at e1;have:=(hbk m hm' ha' b e2).2;have:=(h3 ha b e1).1;omega
      ·simp at hj' hm';subst hj' hm';exact hne rfl
theorem zeK (PX:List (List Value→Value→World→Prop)) (AL:List Nat) (DP:List (List Nat)) (L1 ex:List Nat) (n:Nat) {id:Nat} {a:Act} {w:World} (hm:P.follows .mixedOrders=true)
  (hn:a.tmps.size=n) (hok:Region.propsB .any ops L1 (L1++ex) (fun i=>DP.getD i []) n=true) (hmono:∀ p∈PX,xf p)
  (hstep:∀ i∈L1++ex,StepOk P ops w.drew a (fun i=>PX.getD i fun _ _ _=>True) (fun i=>AL.contains i) (fun i=>DP.getD i []) i)
  (hfin:∀ bs:List Bool,bs.length=ex.length→(∀ i∈L1++zX ex bs,∀ j∈DP.getD i [],j∈L1++zX ex bs)→FinOk P ops Q w.drew a (fun i=>PX.getD i fun _ _ _=>True) (fun i=>AL.contains i) (fun i=>DP.getD i []) (L1++zX ex bs)):(Code.region id ops true).wp P Q a w:=by
 subst hn;have hmn:∀ i l v w w',(PX.getD i fun _ _ _=>True) l v w→Below w.heap.size w w'→(PX.getD i fun _ _ _=>True) l v w':=fun i l v w w' h1 h2=>by
  rcases Nat.lt_or_ge i PX.length with hi | hi
  ·rw [List.getD_eq_getElem?_getD,List.getElem?_eq_getElem hi] at h1 ⊢;exact hmono _ (List.getElem_mem hi) l v w w' h1 h2
  ·rw [List.getD_eq_getElem?_getD,List.getElem?_eq_none hi]
   trivial
 refine wp_region_any hm ?_;have:=zhM (P:=P) (Q:=Q) (md:=.any) (al:=fun i=>AL.contains i) (Region.propsB_spec hok) hmn hstep hfin ops.size (Array.replicate ops.size false) [] (fun _=>undef) w.drew (by simp)
  (fun k o ho hk=>by simp [Array.getD_eq_getD_getElem?,Array.getElem?_replicate] at hk;split at hk <;> simp at hk) ?_ (fun i=>⟨fun h=>(by cases h),fun h=>by simp [Array.getD_eq_getD_getElem?,Array.getElem?_replicate] at h;split at h <;> simp at h⟩) (fun _ h=>by cases h) (Below.refl _ _) (fun _ h=>by cases h) (fun _ h=>by cases h) (fun _ h=>by cases h)
 ·exact this
 ·have:∀ (l:Array Bool) n,ya l n≤n:=fun l n=>by
   induction n with
   | zero=>exact Nat.le_refl _
   | succ n ih=>unfold ya;split <;> omega
  exact this _ _
theorem zfA:∀ (l:List Nat) (bs:List Bool) (i:Nat),i∈zX l bs→i∈l
 | [],bs,i,h=>by cases bs <;> simp [zX] at h
 | x::l,[],i,h=>by simp [zX] at h
 | x::l,b::bs,i,h=>by
   cases b
   ·exact List.mem_cons_of_mem _ (zfA l bs i (by simpa [zX] using h))
   ·have h2:i∈x::zX l bs:=by simpa [zX] using h
    rcases List.mem_cons.1 h2 with rfl | h2
    ·exact List.mem_cons_self ..
    ·exact List.mem_cons_of_mem _ (zfA l bs i h2)
theorem zeh {p q:Nat→Bool}:∀ (l:List Nat),(∀ x∈l,q x=true→p x=true)→∀ e∈l,p e=true→q e=false→l.countP q<l.countP p
 | x::l,h,e,he,hp,hq=>by
   have hm:l.countP q≤l.countP p:=List.countP_mono_left fun y hy=>h y (List.mem_cons_of_mem _ hy);rw [List.countP_cons,List.countP_cons];rcases List.mem_cons.1 he with rfl | he
   ·rw [hp,hq];simp;omega
   ·have:=zeh l (fun y hy=>h y (List.mem_cons_of_mem _ hy)) e he hp hq;have h2:=h x (List.mem_cons_self ..);cases hqx:q x
    ·simp;omega
    ·rw [h2 hqx];simp;omega
theorem min_of (p:Nat→Prop):∀ n,p n→∃ m,p m∧∀ k,p k→m≤k:=fun n=>by
 induction n using Nat.strongRecOn with
 | ind n ih =>
   intro h;by_cases hk:∃ k,p k∧k<n
   ·obtain ⟨k,h1,h2⟩:=hk;exact ih k h2 h1
   ·exact ⟨n,h,fun k h1=>Nat.le_of_not_lt fun h2=>hk ⟨k,h1,h2⟩⟩
theorem zky {V:World} {a:Act} {Px:Nat→List Value→Value→World→Prop} {dp:Nat→List Nat} {AL:List Nat} {L1 ex:List Nat}
  (hQ:∀ c (t t':Array Value) d w,Q (.panic c) ⟨t,d⟩ w→Q (.panic c) ⟨t',d⟩ w) (hok:Region.PropsOk .any ops L1 (L1++ex) dp a.tmps.size)
  (hex:∀ e∈ex,Region.lateC ops L1 dp AL e=true∧YieldG P ops V a Px dp e∧∀ j∈dp e,j∈L1∨j∈ex∧j<e)
  (hfull:FinOkG P ops Q V a Px (fun i=>AL.contains i) dp (L1++ex)):∀ (m:Nat) (l:List Nat),(∀ i∈L1,i∈l)→(∀ i∈l,i∈L1++ex)→(∀ i∈l,∀ j∈dp i,j∈l)→(ex.countP fun e=>!l.contains e)=m →
   FinOkG P ops Q V a Px (fun i=>AL.contains i) dp l
 | 0,l,h1,h2,h3,h4=>by
   have h5:∀ e∈ex,e∈l:=fun e he=>by
    have:=List.countP_eq_zero.1 h4 e he;simpa using this
   refine FinOkG.mem (A:=L1++ex) hok.uniq hok.dst (l:=L1++ex) (fun j hj=>hj) (fun i=>⟨fun h=>h2 i h,fun h=>?_⟩) hfull;rcases List.mem_append.1 h with h | h
   ·exact h1 i h
   ·exact h5 i h
 | m+1,l,h1,h2,h3,h4=>by
   have hne:∃ e,e∈ex∧e ∉ l:=by
    have:0<ex.countP fun e=>!l.contains e:=by omega
    obtain ⟨e,he,h⟩:=List.countP_pos_iff.1 this;exact ⟨e,he,by simpa using h⟩
   obtain ⟨e0,h0⟩:=hne;obtain ⟨e,⟨he,hel⟩,hmin⟩:=min_of (fun e=>e∈ex∧e ∉ l) e0 h0;obtain ⟨k1,k2,k3⟩:=hex e he;have hde:∀ j∈dp e,j∈l:=fun j hj=>by
    rcases k3 j hj with h | ⟨h,hlt⟩
    ·exact h1 j h
    ·refine Classical.byContradiction fun hn=>?_;have:=hmin j ⟨h,hn⟩;omega
   refine FinOkG.take (A:=L1++ex) (L1:=L1) (e:=e) hQ hok.sel hok.uniq hok.dst hok.lt h3 hde hok.looks h1 h2 (List.mem_append_right _ he) hel k1 k2 ?_;have hdec:(ex.countP fun x=>!(l++[e]).contains x)<ex.countP fun x=>!l.contains x:=by
    refine zeh ex (fun x hx h=>?_) e he (by simpa using hel) (by simp);simp at h ⊢;exact h.1
   have hfin:∀ n,n≤m→(ex.countP fun x=>!(l++[e]).contains x)=n→FinOkG P ops Q V a Px (fun i=>AL.contains i) dp (l++[e]):=fun n hn hc=>by
    refine zky hQ hok hex hfull n (l++[e]) (fun i hi=>List.mem_append_left _ (h1 i hi)) (fun i hi=>?_) (fun i hi j hj=>?_) hc
    ·rcases List.mem_append.1 hi with hi | hi
     ·exact h2 i hi
     ·simp at hi;subst hi;exact List.mem_append_right _ he
    ·rcases List.mem_append.1 hi with hi | hi
     ·exact List.mem_append_left _ (h3 i hi j hj)
     ·simp at hi;subst hi;exact List.mem_append_left _ (hde j hj)
   exact hfin _ (by omega) rfl
 termination_by m=>m
theorem zbF (PX:List (List Value→Value→World→Prop)) (AL:List Nat) (DP:List (List Nat)) (L1 ex:List Nat) (n:Nat) {id:Nat} {a:Act} {w:World} (hm:P.follows .mixedOrders=true)
  (hn:a.tmps.size=n) (hok:Region.propsB .any ops L1 (L1++ex) (fun i=>DP.getD i []) n=true) (hlate:(ex.all (fun e=>Region.lateC ops L1 (fun i=>DP.getD i []) AL e&&(DP.getD e []).all (fun j=>L1.contains j||(ex.contains j&&decide (j<e))))&&L1.all (fun i=>(DP.getD i []).all fun j=>L1.contains j))=true)
  (hQ:∀ c (t t':Array Value) d w,Q (.panic c) ⟨t,d⟩ w→Q (.panic c) ⟨t',d⟩ w) (hmono:∀ p∈PX,xf p)
  (hstep:∀ i∈L1,StepOk P ops w.drew a (fun i=>PX.getD i fun _ _ _=>True) (fun i=>AL.contains i) (fun i=>DP.getD i []) i)
  (hyield:∀ i∈ex,YieldG P ops w.drew a (fun i=>PX.getD i fun _ _ _=>True) (fun i=>DP.getD i []) i)
  (hfin:FinOkG P ops Q w.drew a (fun i=>PX.getD i fun _ _ _=>True) (fun i=>AL.contains i) (fun i=>DP.getD i []) (L1++ex)):(Code.region id ops true).wp P Q a w:=by
 simp only [Bool.and_eq_true,List.all_eq_true] at hlate;obtain ⟨k1,k2⟩:=hlate;have hok':=Region.propsB_spec hok;subst hn;refine zeK PX AL DP L1 ex a.tmps.size hm rfl hok hmono ?_ ?_
 ·intro i hi;rcases List.mem_append.1 hi with hi | hi
  ·exact hstep i hi
  ·refine YieldG.step (hyield i hi) ?_;have:=(k1 i hi).1;unfold Region.lateC at this;simp only [Bool.and_eq_true] at this;simpa using this.1.1
 ·intro bs hbs hcl;refine FinOkG.ok (zky hQ hok' (fun e he=>⟨(k1 e he).1,hyield e he,fun j hj=>?_⟩) hfin _ _ (fun i hi=>List.mem_append_left _ hi) (fun i hi=>?_) hcl rfl)
  ·have:=(k1 e he).2 j hj;simpa using this
  ·rcases List.mem_append.1 hi with hi | hi
   ·exact List.mem_append_left _ hi
   ·exact List.mem_append_right _ (zfA ex bs i hi)
theorem zc2 (V:World) (i:Nat) {o:Oper} {fuel:Nat} {listed:Array Bool} {a:Act} {w:World} (hr:Region.ready md ops listed=[i]) (ho:ops[i]?=some o)
  (h:∀ K':Act→World→Prop,Shut (∀ a w,Below V.heap.size V w→zcH P md ops Q (fun _=>True) (fun w=>Below V.heap.size V w) st fuel (listed.setIfInBounds i true) a w→K' a w)→if Region.wanted o (yielded ops a.tmps)=true then Oper.wp P o a w K' Q else K' (a.put o.dst undef) w) :
  zcH P md ops Q (fun _=>True) (fun w=>Below V.heap.size V w) st (fuel+1) listed a w :=
 zkP i hr ho fun K' hK=>h K' (fun a w hb hW=>hK a w ⟨fun _=>trivial,hb⟩ hW)
theorem zgl {V:World} {listed:Array Bool} {a:Act} {w:World} (hr:Region.ready md ops listed=[]) (h:Q .normal a w) (fuel:Nat):zcH P md ops Q (fun _=>True) (fun w=>Below V.heap.size V w) st fuel listed a w:=ziQ hr h fuel
end
end Go
