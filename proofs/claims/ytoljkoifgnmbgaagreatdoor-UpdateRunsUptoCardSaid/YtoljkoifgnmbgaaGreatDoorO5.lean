import Derived.Test.YtoljkoifgnmbgaaGreatDoorN4
import Derived.ProofKit
import Derived.OpenShut
import Derived.Lib.SmallJoins
import Derived.Deep.Slices
import Derived.Deep.Strs
import Derived.SizedLaws
import Derived.Test.YtoljkoifgnmbgaaGreatDoorCards
import Derived.Test.YtoljkoifgnmbgaaGreatDoorTie
import Derived.Deep.DeepHandedRow
import Derived.Lib.LaidTab
import Derived.Carry
import Derived.Test.YtoljkoifgnmbgaaGreatDoorZa
import Derived.SliceStrings
set_option linter.unusedSimpArgs false
set_option linter.unusedVariables false
section
set_option maxRecDepth 100000
section
open Go Go.RowKit Cs Go.ChangeShapes Go.WideShapes Go.ChangeAt Go.Joins Go.Deep
namespace Go.Proofs.YtoljkoifgnmbgaaGreatDoor
theorem oq {H:Type} {P:Program} {e:TypeId}:∀ {l:List (DataW H)} {d:DataW H},d∈l→∀ n∈d.weights P e,n∈DataW.weightsAll P e l
 | x::xs,d,hd,n,hn=>by
   simp only [DataW.weightsAll,List.mem_append];rcases List.mem_cons.1 hd with rfl | hd
   ·exact .inl hn
   ·exact .inr (oq hd n hn)
 | [],_,hd,_,_=>by cases hd
theorem zfY:Tryz.prog.cellsOf 3=1:=by kernel_rfl
theorem zl1:Tryz.prog.cellsOf 52=1:=by kernel_rfl
theorem zgK:Tryz.prog.cellsOf 76=3:=by kernel_rfl
theorem p6:Tryz.prog.cellsOf 24=2:=by kernel_rfl
theorem p8:Tryz.prog.bytesOf 3=8:=by kernel_rfl
theorem zl3:Tryz.prog.bytesOf 76=40:=by kernel_rfl
section
variable {H:Type} {enc:TypeId×Value→H} {W:World} {fuel:Nat}
theorem zgm {n:Int} (h:(Lit.int .i64 n).wf=true):qg n:=by
 simp [Lit.wf,IntKind.min,IntKind.max,IntKind.signed,IntKind.bits] at h;unfold qg;omega
theorem open_inL {v:Value} {y:DataW H×List MemPlace} (h:DataW.trod enc Tryz.prog W 0 (fun _=>true) true fuel 52 [v]=some y) (hw:∀ n∈y.1.weights Tryz.prog 52,n≤reachBytes) :
  ∃ (A:Option Addr) (L:List Int) (c:Nat),v = .slice A L.length c∧L.length≤140737488355328∧Rd W W.heap.size A L.length (zJ L)∧∀ i∈L,qg i:=by
 rcases open_ints Tryz.underlying52 Tryz.underlying3 zfY h with ⟨hcs,_⟩ | ⟨a,len,cap,zs,hcs,_,hl,hm,hz,hx,hcell,hwz⟩
 ·simp only [List.cons.injEq,and_true] at hcs;exact ⟨none,[],0,hcs,by simp,fun h=>absurd h (by simp),fun i hi=>by cases hi⟩
 ·simp only [List.cons.injEq,and_true] at hcs;simp only [if_true] at hz;have hlen:(zs.take len).length=len:=by rw [List.length_take];omega
  have hwt:=hw (((lits IntKind.i64 (zs.take len):List (DataW H)).length+(lits IntKind.i64 (zs.drop len):List (DataW H)).length)*Tryz.prog.bytesOf 3) (by rw [hx];simp [DataW.weights, Tryz.underlying52]);have hl2:len*8≤reachBytes:=by
   refine Nat.le_trans ?_ hwt;rw [p8];apply Nat.mul_le_mul_right;simp [lits];omega
  refine ⟨some a,zs.take len,cap,by rw [hlen];exact hcs,by rw [hlen];unfold reachBytes at hl2;omega,fun hn=>?_,fun i hi=>zgm (hwz i (List.mem_of_mem_take hi))⟩;rw [hlen] at hn;obtain ⟨b,off,rfl,hc⟩:=ints_at hcell (by omega);refine ⟨b,off,rfl,World.block_lt_of_cell? W _ (hc 0 (by omega)),fun i hi=>?_⟩;rw [hlen] at hi;rw [hc i (by omega)];unfold zJ;rw [List.getD_eq_getElem?_getD,List.getD_eq_getElem?_getD,List.getElem?_take_of_lt hi]
theorem open_nd {cs:List Value} {y:DataW H×List MemPlace} (h:DataW.trod enc Tryz.prog W 0 (fun _=>true) true fuel 76 cs=some y) (hw:∀ n∈y.1.weights Tryz.prog 76,n≤reachBytes) :
  ∃ (x:Nd) (A:Option Addr) (c:Nat),cs=[.int .i64 x.kind,.int .i64 x.lit,.slice A x.ins.length c]∧Rd W W.heap.size A x.ins.length (zJ x.ins)∧qg x.kind∧qg x.lit∧(∀ i∈x.ins,qg i)∧x.ins.length≤140737488355328:=by
 obtain ⟨y0,y1,y2,n,rfl,hl,h0,h1,h2⟩:=trod_struct3 Tryz.underlying76 h;rw [zgK] at hl
 match cs,hl with
 | [c0,c1,c2],_ =>
   obtain ⟨k,e0,rfl,w0⟩:=DataW.trod_int Tryz.underlying3 h0;obtain ⟨l,e1,rfl,w1⟩:=DataW.trod_int Tryz.underlying3 h1;simp [zfY] at e0 e1;have h2':DataW.trod enc Tryz.prog W 0 (fun _=>true) true n 52 [c2]=some y2:=by simpa [zl1] using h2
   obtain ⟨A,L,c,rfl,hL,hr,hi⟩:=open_inL h2' fun m hm=>hw m (by
    simp only [DataW.weights, Tryz.underlying76];exact DataW.weights_mem_each (j:=2) rfl rfl m hm)
   exact ⟨⟨k,l,L⟩,A,c,by rw [e0,e1],hr,zgm w0,zgm w1,hi,hL⟩
theorem open_net {v:Value} {d:DataW H} {p:List MemPlace} {b0:Nat} (hv:Value.okWide Tryz.prog W .any b0 24 v) (h:DataW.Trod enc Tryz.prog W 0 (fun _=>true) true 24 v d p) (hw:∀ n∈d.weights Tryz.prog 24,n≤reachBytes) :
  ∃ (N:Nt) (A:Option Addr) (c:Nat),v=ql N A c∧N.l.length≤140737488355328∧NtAt W W.heap.size A N.l∧qg N.n:=by
 obtain ⟨v0,v1,y0,y1,n,rfl,rfl,rfl,hy0,hy1⟩:=open_agg2 Tryz.underlying24 (by kernel_rfl) p6 hv h;obtain ⟨k,e0,rfl,w0⟩:=DataW.trod_int Tryz.underlying3 hy0;simp only [List.cons.injEq,and_true] at e0;subst e0;have hw1:∀ m∈y1.1.weights Tryz.prog 22,m≤reachBytes:=fun m hm=>hw m (by
  simp only [DataW.weights, Tryz.underlying24];exact DataW.weights_mem_each (j:=1) rfl rfl m hm)
 rcases open_slice Tryz.underlying22 hy1 with ⟨hcs,_⟩ | ⟨a,len,cap,m,n',D,Pl,hcs,_,hl,hm,hmm,hx,hel⟩
 ·simp only [List.cons.injEq,and_true] at hcs;subst hcs;exact ⟨⟨k,[]⟩,none,0,rfl,by simp,fun h=>absurd h (by simp),zgm w0⟩
 ·simp only [List.cons.injEq,and_true] at hcs;simp only [if_true] at hmm;subst hcs;rw [hx] at hw1;have hwt:=hw1 ((((List.range len).map D).length+((List.range (m-len)).map fun j=>D (len+j)).length)*Tryz.prog.bytesOf 76) (by simp [DataW.weights, Tryz.underlying22]);have hl2:len*40≤reachBytes:=by
   refine Nat.le_trans ?_ hwt;rw [zl3];apply Nat.mul_le_mul_right;simp
  have hwd:∀ i,i<len→∀ q∈(D i).weights Tryz.prog 76,q≤reachBytes:=fun i hi q hq=>hw1 q (by
   simp only [DataW.weights, Tryz.underlying22,List.mem_cons,List.mem_append];exact .inr (.inl (oq (List.mem_map.2 ⟨i,List.mem_range.2 hi,rfl⟩) q hq)))
  have hnd:∀ i,i<len→∃ (x:Nd) (A:Option Addr) (c:Nat),W.cells? 0 (a.add (i*3)) 3=some [.int .i64 x.kind,.int .i64 x.lit,.slice A x.ins.length c]∧Rd W W.heap.size A x.ins.length (zJ x.ins)∧qg x.kind∧qg x.lit∧(∀ i∈x.ins,qg i)∧x.ins.length≤140737488355328:=fun i hi=>by
   obtain ⟨cs',h1,h2⟩:=hel i (by omega);obtain ⟨x,A,c,rfl,r⟩:=open_nd h2 (hwd i hi);rw [zgK] at h1;exact ⟨x,A,c,h1,r⟩
  let F:Nat→Nd:=fun i=>if hi:i<len then Classical.choose (hnd i hi) else ⟨0,0,[]⟩
  have hF:∀ i,i<len→∃ (A:Option Addr) (c:Nat),W.cells? 0 (a.add (i*3)) 3=some [.int .i64 (F i).kind,.int .i64 (F i).lit,.slice A (F i).ins.length c]∧Rd W W.heap.size A (F i).ins.length (zJ (F i).ins)∧qg (F i).kind∧qg (F i).lit∧(∀ j∈(F i).ins,qg j)∧(F i).ins.length≤140737488355328:=fun i hi=>by
   have:=Classical.choose_spec (hnd i hi);have e:F i=Classical.choose (hnd i hi):=dif_pos hi;rw [e];exact this
  have hll:((List.range len).map F).length=len:=by simp
  refine ⟨⟨k,(List.range len).map F⟩,some a,cap,by show Value.agg _=Value.agg _;simp,by simp only [hll];unfold reachBytes at hl2;omega,fun hn=>?_,zgm w0⟩;simp only [hll] at hn ⊢;obtain ⟨A0,c0,h0,_⟩:=hF 0 hn;have hc0:=(World.cells?_some h0).2.2 0 (by decide);obtain ⟨b,off,spot⟩:=a;have hspot:spot=none:=by
   rw [Nat.zero_mul] at hc0;simpa [Addr.add] using World.cell?_spot (hc0.trans rfl)
  subst hspot;have hadd:∀ i j,((⟨b,off,none⟩:Addr).add i).add j=⟨b,off+i+j,none⟩:=fun i j=>by unfold Addr.add;split <;> split <;> simp_all
  refine ⟨b,off,rfl,?_,fun i hi=>?_⟩
  ·have hlt:=World.block_lt_of_cell? W _ (hc0.trans rfl);rw [hadd] at hlt;exact hlt
  ·obtain ⟨A,c,h1,hr,r1,r2,r3,r4⟩:=hF i hi;obtain ⟨_,_,hcc⟩:=World.cells?_some h1;have g0:=hcc 0 (by decide);have g1:=hcc 1 (by decide);have g2:=hcc 2 (by decide);rw [hadd] at g0 g1 g2;have e:((List.range len).map F)[i]=F i:=by simp
   rw [e];exact ⟨g0,g1,⟨A,c,g2,hr⟩,r1,r2,r3,r4⟩
end
end Go.Proofs.YtoljkoifgnmbgaaGreatDoor
end
section
open Go Go.RowKit Cs Go.ChangeShapes Go.WideShapes Go.ChangeAt
namespace Go.Proofs.YtoljkoifgnmbgaaGreatDoor
theorem ownA:ownKnob Tryz.prog.godebug=none:=by kernel_rfl
theorem zfa:laidOutB Tryz.prog=true:=by kernel_rfl
theorem gTab:Tryz.prog.globalNamed "math/bits.deBruijn64tab"=some 1:=by kernel_rfl
theorem gTabType:(Tryz.prog.globals[1]?).map (·.type)=some 217:=by kernel_rfl
theorem cellsTab:Tryz.prog.cellsOf 217=64:=by kernel_rfl
theorem cellsU8:Tryz.prog.cellsOf 5=1:=by kernel_rfl
theorem tab_of {W:World} (h:laidMetH Tryz.prog [("math/bits.deBruijn64tab",Rows.laid_math_bits_deBruijn64tab)] W):Tab W:=by
 have ht:Lib.TabIs Tryz.prog W "math/bits.deBruijn64tab" .u8 (Lib.deBruijn64tab.map fun n:Nat=>(n:Int)) :=
  Lib.tabIs_of_head (rest:=[]) gTab gTabType Tryz.underlying217 Tryz.underlying5 cellsU8 cellsTab h
 intro j hj;have h1:=ht.cell gTab j (by simpa [Lib.deBruijn64tab] using hj);rw [h1];congr 2;rw [List.getD_eq_getElem?_getD,List.getD_eq_getElem?_getD,List.getElem?_map];cases Lib.deBruijn64tab[j]? <;> rfl
noncomputable def laidWorld (os:Os):World :=
 { World.holding Tryz.prog os ⟨#[],#[],[]⟩ with heap:=(World.holding Tryz.prog os ⟨#[],#[],[]⟩).heap.modify 1 fun
    | .cells _ t frozen=>.cells (Lib.deBruijn64tab.map fun n:Nat=>Value.int .u8 (n:Int)).toArray t frozen
    | o=>o }
section
variable {H:Type} {enc:TypeId×Value→H} {P:Program}
theorem post_law {f:Func} {s:ChangeSpec} {apart fresh handsOn again:Bool} {W W':World} {args:Array Value} {v:Value} {ds gs:List (DataW H)} {before:List MemPlace}
  (hW:DataW.Whole enc P f.params.toList s.vars apart W args.toList ds gs before)
  (hres:∀ (b:Nat) (sp:Nat→Bool) (hd:Bool),DataW.TrodAll enc P W' b sp hd f.resultTypes.toList (v.resultList f.resultTypes.size) (s.fn H (ds++gs)).results [])
  (hargs:∀ sp:Nat→Bool,(∀ p∈before,sp p.block=true)→DataW.TrodAll enc P W' 0 sp true f.params.toList args.toList (s.fn H (ds++gs)).args before)
  (hvars:∀ sp:Nat→Bool,DataW.TrodVars enc P W' sp s.vars (s.fn H (ds++gs)).vars [])
  (hb:Below W.heap.size W W')
  (hok:∀ (j:Nat) (t:TypeId) (r:Value),f.resultTypes[j]?=some t→(v.resultList f.resultTypes.size)[j]?=some r→Value.okWide P W' .any 0 t r) :
  s.post enc P f apart fresh handsOn again W args v W':=by
 have hlt:∀ p∈before,p.block<W.heap.size:=fun p hp=>hW.lt p hp;have hold:∀ p∈before,(fun b=>decide (b<W.heap.size)) p.block=true:=fun p hp=>by simpa using hlt p hp
 refine ⟨ds,gs,before,[],before,[],hW,hres _ _ _,hargs _ hold,hvars _,World.keptBut_mono (fun p hp=>⟨hp,.inr (.inl hp)⟩) (hb.frame (·∈before)),fun _=>?_⟩;obtain ⟨_,_,_,_,_,hz,hn⟩:=hW;refine ⟨hok,_,_,([]++before)++[],⟨[]++before,[],trodAll_append (hargs _ (fun _ _=>rfl)) (hres _ _ _),hvars _,rfl,?_,?_⟩,?_⟩
 ·intro b off hp;have hin:MemPlace.cell b off∈before:=by simpa using hp
  rw [hb.frozen (hlt _ hin)];exact hz b off hin
 ·intro ha;simpa using hn ha
 ·intro p hp _;simpa using hp
theorem zdO {t:TypeId} (hl:laidOutB P=true) (hr:P.readableRec t=true) (hrow:t<P.types.size) {W W':World} {v:Value} {d:DataW H} {ps:List MemPlace} {sp:Nat→Bool}
  (h:DataW.Trod enc P W 0 (fun _=>true) true t v d ps) (hb:Below W.heap.size W W') (hlt:∀ x∈ps,x.block<W.heap.size) (hsp:∀ x∈ps,sp x.block=true):DataW.Trod enc P W' 0 sp true t v d ps :=
 WideElems.Trod_stays hl hr hrow h (fun x hx=>hb.same (hlt x hx)) hsp
end
end Go.Proofs.YtoljkoifgnmbgaaGreatDoor
end
end
section
set_option maxRecDepth 100000
open Go Go.RowKit Cs Go.ChangeShapes Go.WideShapes Go.ChangeAt Go.Joins Go.Deep
namespace Go.Proofs.YtoljkoifgnmbgaaGreatDoor
theorem p7:Tryz.prog.cellsOf 47=1:=by kernel_rfl
theorem pm {H:Type} {enc:TypeId×Value→H} {W:World} {r:Reach} {b0:Nat} {v:Value} {d:DataW H} {p:List MemPlace} (hv:Value.okWide Tryz.prog W r b0 41 v) (h:DataW.Trod enc Tryz.prog W 0 (fun _=>true) true 41 v d p) :
  ∃ (L:List Int) (A:Option Addr) (c:Nat),v = .slice A L.length c∧Rd W W.heap.size A L.length (zJ L)∧∀ i,-9223372036854775808≤L.getD i 0∧L.getD i 0≤9223372036854775807:=by
 obtain ⟨a,len,cap,rfl⟩:=okWide_slice Tryz.underlying41 hv;obtain ⟨fuel,hf⟩:=h;have hf':DataW.trod enc Tryz.prog W 0 (fun _=>true) true fuel 41 [.slice a len cap]=some (d,p):=hf;rcases open_slice1 Tryz.underlying41 p7 hf' with ⟨hcs,_⟩ | ⟨a',len',cap',m,n,V,D,Pl,hcs,_,hl,hm,hmm,hx,hel⟩
 ·simp only [List.cons.injEq,and_true] at hcs;exact ⟨[],none,0,hcs,fun h=>absurd h (by simp),fun i=>by simp⟩
 ·simp only [List.cons.injEq,and_true,Value.slice.injEq] at hcs;obtain ⟨rfl,rfl,rfl⟩:=hcs;simp only [if_true] at hmm;have hz:∀ i,i<len→∃ z:Int,V i = .int .i64 z∧qg z:=fun i hi=>by
   obtain ⟨_,h2⟩:=hel i (by omega);obtain ⟨y0,k,_,hl2,h3⟩:=trod_struct1 Tryz.underlying47 h2;have h4:DataW.trod enc Tryz.prog W 0 (fun _=>true) true k 3 [V i]=some y0:=by simpa [zfY] using h3
   obtain ⟨z,e,_,hw⟩:=DataW.trod_int Tryz.underlying3 h4;simp only [List.cons.injEq,and_true] at e;exact ⟨z,e,zgm hw⟩
  let F:Nat→Int:=fun i=>match V i with | .int _ z=>z | _=>0
  have hF:∀ i,i<len→V i = .int .i64 (F i)∧qg (F i):=fun i hi=>by
   obtain ⟨z,e,hr⟩:=hz i hi;have:F i=z:=by show (match V i with | .int _ z=>z | _=>0)=z;rw [e]
   rw [this];exact ⟨e,hr⟩
  have hll:((List.range len).map F).length=len:=by simp
  have hg:∀ i,i<len→((List.range len).map F).getD i 0=F i:=fun i hi=>by
   rw [List.getD_eq_getElem?_getD,List.getElem?_map,List.getElem?_range hi];rfl
  refine ⟨(List.range len).map F,some a',cap,by rw [hll],fun hn=>?_,fun i=>?_⟩
  ·rw [hll] at hn;have c0:=(hel 0 (by omega)).1;obtain ⟨b,off,spot⟩:=a';have hspot:spot=none:=by simpa [Addr.add] using World.cell?_spot c0
   subst hspot;have hadd:∀ i,(⟨b,off,none⟩:Addr).add i=⟨b,off+i,none⟩:=fun i=>by unfold Addr.add;split <;> simp_all
   refine ⟨b,off,rfl,by have:=World.block_lt_of_cell? W _ c0;rw [hadd] at this;exact this,fun i hi=>?_⟩;rw [hll] at hi;have:=(hel i (by omega)).1;rw [hadd] at this;rw [this,(hF i hi).1];unfold zJ;rw [hg i hi]
  ·rcases Nat.lt_or_ge i len with hi | hi
   ·rw [hg i hi];have:=(hF i hi).2;unfold qg at this;omega
   ·rw [List.getD_eq_getElem?_getD,List.getElem?_eq_none (by rw [hll];exact hi)];decide
theorem pZ:Tryz.prog.cellsOf 9=1:=by kernel_rfl
theorem bulk_one {H:Type} (d:DataW H):1≤Rows.uptoBulk d:=by
 cases d with
 | lit l=>cases l <;> simp [Rows.uptoBulk]
 | nil=>simp [Rows.uptoBulk]
 | ptr d=>simp [Rows.uptoBulk]
 | slice elems spare=>simp [Rows.uptoBulk]
 | agg parts=>simp [Rows.uptoBulk]
 | iface t d=>simp [Rows.uptoBulk]
 | map entries=>simp [Rows.uptoBulk]
 | held h=>simp [Rows.uptoBulk]
theorem p9 {H:Type} {d:DataW H} {l:List (DataW H)} (h:d∈l):Rows.uptoBulk d≤Rows.uptoBulkAll l:=by
 induction l with
 | nil=>cases h
 | cons x r ih =>
   simp only [Rows.uptoBulkAll];rcases List.mem_cons.1 h with e | e
   ·subst e;omega
   ·have:=ih e;omega
theorem bulk_len {H:Type} (l:List (DataW H)):l.length≤Rows.uptoBulkAll l:=by
 induction l with
 | nil=>simp [Rows.uptoBulkAll]
 | cons x r ih=>have:=bulk_one x;simp only [Rows.uptoBulkAll,List.length_cons];omega
theorem zd4 {H:Type} {l:List (DataW H)} (hk:Rows.uptoSmall H l=true) {d:DataW H} (h:d∈l):Rows.uptoBulk d≤1048576 :=
 Nat.le_trans (p9 h) (of_decide_eq_true hk)
theorem ziu {H:Type} {enc:TypeId×Value→H} {W:World} {r:Reach} {b0:Nat} {v:Value} {d:DataW H} {p:List MemPlace} (hv:Value.okWide Tryz.prog W r b0 27 v) (h:DataW.Trod enc Tryz.prog W 0 (fun _=>true) true 27 v d p) :
  ∃ (L:List ByteArray) (A:Option Addr) (c:Nat),v = .slice A L.length c∧(Rows.uptoBulk d≤1048576→L.length≤1048576)∧Rd W W.heap.size A L.length (qW L)∧∀ i,(L.getD i ⟨#[]⟩).size≤maxLen:=by
 obtain ⟨a,len,cap,rfl⟩:=okWide_slice Tryz.underlying27 hv;obtain ⟨fuel,hf⟩:=h;have hf':DataW.trod enc Tryz.prog W 0 (fun _=>true) true fuel 27 [.slice a len cap]=some (d,p):=hf;rcases open_strings Tryz.underlying27 Tryz.underlying9 pZ hf' with ⟨hcs,_⟩ | ⟨a',len',cap',ss,hcs,_,hl,hm,hz,hx,hcell,hsz⟩
 ·simp only [List.cons.injEq,and_true] at hcs;exact ⟨[],none,0,hcs,fun _=>by simp,fun h=>absurd h (by simp),fun i=>by simp [ByteArray.size]⟩
 ·simp only [List.cons.injEq,and_true,Value.slice.injEq] at hcs;obtain ⟨rfl,rfl,rfl⟩:=hcs;simp only [if_true] at hz;have hlen:(ss.take len).length=len:=by rw [List.length_take];omega
  refine ⟨ss.take len,some a',cap,by rw [hlen],fun hb=>?_,fun hn=>?_,fun i=>?_⟩
  ·simp only [Prod.mk.injEq] at hx;rw [hx.1] at hb;simp only [Rows.uptoBulk] at hb;have:=bulk_len (strs (ss.take len):List (DataW H));unfold strs at this hb;rw [List.length_map] at this;omega
  ·rw [hlen] at hn;have c0:=hcell 0 (by omega);obtain ⟨b,off,spot⟩:=a';have hspot:spot=none:=by simpa [Addr.add] using World.cell?_spot c0
   subst hspot;have hadd:∀ i,(⟨b,off,none⟩:Addr).add i=⟨b,off+i,none⟩:=fun i=>by unfold Addr.add;split <;> simp_all
   refine ⟨b,off,rfl,by have:=World.block_lt_of_cell? W _ c0;rw [hadd] at this;exact this,fun i hi=>?_⟩;rw [hlen] at hi;have:=hcell i (by omega);rw [hadd] at this;rw [this];unfold qW;rw [List.getD_eq_getElem?_getD,List.getD_eq_getElem?_getD,List.getElem?_take_of_lt hi,List.getElem?_eq_getElem (by omega)];rfl
  ·rcases Nat.lt_or_ge i len with hi | hi
   ·rw [List.getD_eq_getElem?_getD,List.getElem?_take_of_lt hi,List.getElem?_eq_getElem (by omega)];exact hsz _ (List.getElem_mem (by omega))
   ·rw [List.getD_eq_getElem?_getD,List.getElem?_eq_none (by rw [hlen];exact hi)];exact Nat.zero_le _
end Go.Proofs.YtoljkoifgnmbgaaGreatDoor
end
