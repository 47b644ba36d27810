import Derived.Test.YtmhllppjcilllaaGreatDoorN4
import Derived.ProofKit
import Derived.OpenShut
import Derived.Lib.SmallJoins
import Derived.Deep.Slices
import Derived.Deep.Strs
import Derived.SizedLaws
import Derived.Test.YtmhllppjcilllaaGreatDoorCards
import Derived.Test.YtmhllppjcilllaaGreatDoorTie
import Derived.Deep.DeepHandedRow
import Derived.Lib.LaidTab
import Derived.Carry
import Derived.Test.YtmhllppjcilllaaGreatDoorV1
import Derived.Laws.IdiomArrays
import Derived.IntWalk
set_option linter.unusedSimpArgs false
set_option linter.unusedVariables false
section
set_option maxRecDepth 100000
section
open Go Go.RowKit Cs Go.ChangeShapes Go.WideShapes Go.ChangeAt Go.Joins Go.Deep
namespace Go.Proofs.YtmhllppjcilllaaGreatDoor
theorem gP {H:Type} {P:Program} {e:TypeId}:∀ {l:List (DataW H)} {d:DataW H},d∈l→∀ n∈d.weights P e,n∈DataW.weightsAll P e l
 | x::xs,d,hd,n,hn=>by
   simp only [DataW.weightsAll,List.mem_append];rcases List.mem_cons.1 hd with rfl | hd
   ·exact .inl hn
   ·exact .inr (gP hd n hn)
 | [],_,hd,_,_=>by cases hd
theorem zfl:Tryz.prog.cellsOf 3=1:=by kernel_rfl
theorem zfX:Tryz.prog.cellsOf 26=1:=by kernel_rfl
theorem zfW:Tryz.prog.cellsOf 66=3:=by kernel_rfl
theorem pv:Tryz.prog.cellsOf 24=2:=by kernel_rfl
theorem pz:Tryz.prog.bytesOf 3=8:=by kernel_rfl
theorem zk0:Tryz.prog.bytesOf 66=40:=by kernel_rfl
section
variable {H:Type} {enc:TypeId×Value→H} {W:World} {fuel:Nat}
theorem zgT {n:Int} (h:(Lit.int .i64 n).wf=true):zT n:=by
 simp [Lit.wf,IntKind.min,IntKind.max,IntKind.signed,IntKind.bits] at h;unfold zT;omega
theorem zjr {v:Value} {y:DataW H×List MemPlace} (h:DataW.trod enc Tryz.prog W 0 (fun _=>true) true fuel 26 [v]=some y) (hw:∀ n∈y.1.weights Tryz.prog 26,n≤reachBytes) :
  ∃ (A:Option Addr) (L:List Int) (c:Nat),v = .slice A L.length c∧L.length≤140737488355328∧Rd W W.heap.size A L.length (zO L)∧∀ i∈L,zT i:=by
 rcases open_ints Tryz.underlying26 Tryz.underlying3 zfl h with ⟨hcs,_⟩ | ⟨a,len,cap,zs,hcs,_,hl,hm,hz,hx,hcell,hwz⟩
 ·simp only [List.cons.injEq,and_true] at hcs;exact ⟨none,[],0,hcs,by simp,fun h=>absurd h (by simp),fun i hi=>by cases hi⟩
 ·simp only [List.cons.injEq,and_true] at hcs;simp only [if_true] at hz;have hlen:(zs.take len).length=len:=by rw [List.length_take];omega
  have hwt:=hw (((lits IntKind.i64 (zs.take len):List (DataW H)).length+(lits IntKind.i64 (zs.drop len):List (DataW H)).length)*Tryz.prog.bytesOf 3) (by rw [hx];simp [DataW.weights, Tryz.underlying26]);have hl2:len*8≤reachBytes:=by
   refine Nat.le_trans ?_ hwt;rw [pz];apply Nat.mul_le_mul_right;simp [lits];omega
  refine ⟨some a,zs.take len,cap,by rw [hlen];exact hcs,by rw [hlen];unfold reachBytes at hl2;omega,fun hn=>?_,fun i hi=>zgT (hwz i (List.mem_of_mem_take hi))⟩;rw [hlen] at hn;obtain ⟨b,off,rfl,hc⟩:=ints_at hcell (by omega);refine ⟨b,off,rfl,World.block_lt_of_cell? W _ (hc 0 (by omega)),fun i hi=>?_⟩;rw [hlen] at hi;rw [hc i (by omega)];unfold zO;rw [List.getD_eq_getElem?_getD,List.getD_eq_getElem?_getD,List.getElem?_take_of_lt hi]
theorem open_nd {cs:List Value} {y:DataW H×List MemPlace} (h:DataW.trod enc Tryz.prog W 0 (fun _=>true) true fuel 66 cs=some y) (hw:∀ n∈y.1.weights Tryz.prog 66,n≤reachBytes) :
  ∃ (x:Nd) (A:Option Addr) (c:Nat),cs=[.int .i64 x.kind,.int .i64 x.lit,.slice A x.ins.length c]∧Rd W W.heap.size A x.ins.length (zO x.ins)∧zT x.kind∧zT x.lit∧(∀ i∈x.ins,zT i)∧x.ins.length≤140737488355328:=by
 obtain ⟨y0,y1,y2,n,rfl,hl,h0,h1,h2⟩:=trod_struct3 Tryz.underlying66 h;rw [zfW] at hl
 match cs,hl with
 | [c0,c1,c2],_ =>
   obtain ⟨k,e0,rfl,w0⟩:=DataW.trod_int Tryz.underlying3 h0;obtain ⟨l,e1,rfl,w1⟩:=DataW.trod_int Tryz.underlying3 h1;simp [zfl] at e0 e1;have h2':DataW.trod enc Tryz.prog W 0 (fun _=>true) true n 26 [c2]=some y2:=by simpa [zfX] using h2
   obtain ⟨A,L,c,rfl,hL,hr,hi⟩:=zjr h2' fun m hm=>hw m (by
    simp only [DataW.weights, Tryz.underlying66];exact DataW.weights_mem_each (j:=2) rfl rfl m hm)
   exact ⟨⟨k,l,L⟩,A,c,by rw [e0,e1],hr,zgT w0,zgT w1,hi,hL⟩
end
end Go.Proofs.YtmhllppjcilllaaGreatDoor
end
section
open Go Go.RowKit Cs Go.ChangeShapes Go.WideShapes Go.ChangeAt
namespace Go.Proofs.YtmhllppjcilllaaGreatDoor
theorem ownA:ownKnob Tryz.prog.godebug=none:=by kernel_rfl
theorem zjy:laidOutB Tryz.prog=true:=by kernel_rfl
theorem gTab:Tryz.prog.globalNamed "math/bits.deBruijn64tab"=some 1:=by kernel_rfl
theorem gTabType:(Tryz.prog.globals[1]?).map (·.type)=some 214:=by kernel_rfl
theorem cellsTab:Tryz.prog.cellsOf 214=64:=by kernel_rfl
theorem oo:Tryz.prog.cellsOf 5=1:=by kernel_rfl
theorem tab_of {W:World} (h:laidMetH Tryz.prog [("math/bits.deBruijn64tab",Rows.laid_math_bits_deBruijn64tab)] W):Tab W:=by
 have ht:Lib.TabIs Tryz.prog W "math/bits.deBruijn64tab" .u8 (Lib.deBruijn64tab.map fun n:Nat=>(n:Int)) :=
  Lib.tabIs_of_head (rest:=[]) gTab gTabType Tryz.underlying214 Tryz.underlying5 oo cellsTab h
 intro j hj;have h1:=ht.cell gTab j (by simpa [Lib.deBruijn64tab] using hj);rw [h1];congr 2;rw [List.getD_eq_getElem?_getD,List.getD_eq_getElem?_getD,List.getElem?_map];cases Lib.deBruijn64tab[j]? <;> rfl
noncomputable def laidWorld (os:Os):World :=
 { World.holding Tryz.prog os ⟨#[],#[],[]⟩ with heap:=(World.holding Tryz.prog os ⟨#[],#[],[]⟩).heap.modify 1 fun
    | .cells _ t frozen=>.cells (Lib.deBruijn64tab.map fun n:Nat=>Value.int .u8 (n:Int)).toArray t frozen
    | o=>o }
section
variable {H:Type} {enc:TypeId×Value→H} {P:Program}
theorem zjm {f:Func} {s:ChangeSpec} {apart fresh handsOn again:Bool} {W W':World} {args:Array Value} {v:Value} {ds gs:List (DataW H)} {before:List MemPlace}
  (hW:DataW.Whole enc P f.params.toList s.vars apart W args.toList ds gs before)
  (hres:∀ (b:Nat) (sp:Nat→Bool) (hd:Bool),DataW.TrodAll enc P W' b sp hd f.resultTypes.toList (v.resultList f.resultTypes.size) (s.fn H (ds++gs)).results [])
  (hargs:∀ sp:Nat→Bool,(∀ p∈before,sp p.block=true)→DataW.TrodAll enc P W' 0 sp true f.params.toList args.toList (s.fn H (ds++gs)).args before)
  (hvars:∀ sp:Nat→Bool,DataW.TrodVars enc P W' sp s.vars (s.fn H (ds++gs)).vars [])
  (hb:Below W.heap.size W W')
  (hok:∀ (j:Nat) (t:TypeId) (r:Value),f.resultTypes[j]?=some t→(v.resultList f.resultTypes.size)[j]?=some r→Value.okWide P W' .any 0 t r) :
  s.post enc P f apart fresh handsOn again W args v W':=by
 have hlt:∀ p∈before,p.block<W.heap.size:=fun p hp=>hW.lt p hp;have hold:∀ p∈before,(fun b=>decide (b<W.heap.size)) p.block=true:=fun p hp=>by simpa using hlt p hp
 refine ⟨ds,gs,before,[],before,[],hW,hres _ _ _,hargs _ hold,hvars _,World.keptBut_mono (fun p hp=>⟨hp,.inr (.inl hp)⟩) (hb.frame (·∈before)),fun _=>?_⟩;obtain ⟨_,_,_,_,_,hz,hn⟩:=hW;refine ⟨hok,_,_,([]++before)++[],⟨[]++before,[],trodAll_append (hargs _ (fun _ _=>rfl)) (hres _ _ _),hvars _,rfl,?_,?_⟩,?_⟩
 ·intro b off hp;have hin:MemPlace.cell b off∈before:=by simpa using hp
  rw [hb.frozen (hlt _ hin)];exact hz b off hin
 ·intro ha;simpa using hn ha
 ·intro p hp _;simpa using hp
theorem zgY {t:TypeId} (hl:laidOutB P=true) (hr:P.readableRec t=true) (hrow:t<P.types.size) {W W':World} {v:Value} {d:DataW H} {ps:List MemPlace} {sp:Nat→Bool}
  (h:DataW.Trod enc P W 0 (fun _=>true) true t v d ps) (hb:Below W.heap.size W W') (hlt:∀ x∈ps,x.block<W.heap.size) (hsp:∀ x∈ps,sp x.block=true):DataW.Trod enc P W' 0 sp true t v d ps :=
 WideElems.Trod_stays hl hr hrow h (fun x hx=>hb.same (hlt x hx)) hsp
end
end Go.Proofs.YtmhllppjcilllaaGreatDoor
end
end
section
open Go Go.RowKit Cs Go.ChangeShapes Go.WideShapes Go.ChangeAt Go.Joins Go.Deep
end
section
set_option maxRecDepth 100000
open Go Go.RowKit Cs Go.ChangeShapes Go.WideShapes Go.ChangeAt Go.Joins Go.Deep
namespace Go.Proofs.YtmhllppjcilllaaGreatDoor
theorem py:Tryz.prog.cellsOf 28=4:=by kernel_rfl
theorem cells_w4:Tryz.prog.cellsOf 160=4:=by kernel_rfl
theorem cells_ws:Tryz.prog.cellsOf 25=1:=by kernel_rfl
theorem bytes_w4:Tryz.prog.bytesOf 160=4:=by kernel_rfl
section
variable {H:Type} {enc:TypeId×Value→H} {W:World} {fuel:Nat}
theorem xV {c0 c1:Value} {y:DataW H×List MemPlace} (h:DataW.trod enc Tryz.prog W 0 (fun _=>true) true fuel 24 [c0,c1]=some y) (hw:∀ n∈y.1.weights Tryz.prog 24,n≤reachBytes) :
  ∃ (N:Nt) (A:Option Addr) (c:Nat),c0 = .int .i64 N.n∧c1 = .slice A N.l.length c∧N.l.length≤140737488355328∧NtAt W W.heap.size A N.l∧zT N.n:=by
 obtain ⟨y0,y1,n,rfl,_,hy0',hy1'⟩:=trod_struct2 Tryz.underlying24 h;have hy0:DataW.trod enc Tryz.prog W 0 (fun _=>true) true n 3 [c0]=some y0:=by simpa [zfl] using hy0'
 have hy1:DataW.trod enc Tryz.prog W 0 (fun _=>true) true n 22 [c1]=some y1:=by simpa [show Tryz.prog.cellsOf 22=1 by kernel_rfl] using hy1'
 obtain ⟨k,e0,rfl,w0⟩:=DataW.trod_int Tryz.underlying3 hy0;simp only [List.cons.injEq,and_true] at e0;subst e0;have hw1:∀ m∈y1.1.weights Tryz.prog 22,m≤reachBytes:=fun m hm=>hw m (by
  simp only [DataW.weights, Tryz.underlying24];exact DataW.weights_mem_each (j:=1) rfl rfl m hm)
 rcases open_slice Tryz.underlying22 hy1 with ⟨hcs,_⟩ | ⟨a,len,cap,m,n',D,Pl,hcs,_,hl,hm,hmm,hx,hel⟩
 ·simp only [List.cons.injEq,and_true] at hcs;subst hcs;exact ⟨⟨k,[]⟩,none,0,rfl,rfl,by simp,fun h=>absurd h (by simp),zgT w0⟩
 ·simp only [List.cons.injEq,and_true] at hcs;simp only [if_true] at hmm;subst hcs;rw [hx] at hw1;have hwt:=hw1 ((((List.range len).map D).length+((List.range (m-len)).map fun j=>D (len+j)).length)*Tryz.prog.bytesOf 66) (by simp [DataW.weights, Tryz.underlying22]);have hl2:len*40≤reachBytes:=by
   refine Nat.le_trans ?_ hwt;rw [zk0];apply Nat.mul_le_mul_right;simp
  have hwd:∀ i,i<len→∀ q∈(D i).weights Tryz.prog 66,q≤reachBytes:=fun i hi q hq=>hw1 q (by
   simp only [DataW.weights, Tryz.underlying22,List.mem_cons,List.mem_append];exact .inr (.inl (gP (List.mem_map.2 ⟨i,List.mem_range.2 hi,rfl⟩) q hq)))
  have hnd:∀ i,i<len→∃ (x:Nd) (A:Option Addr) (c:Nat),W.cells? 0 (a.add (i*3)) 3=some [.int .i64 x.kind,.int .i64 x.lit,.slice A x.ins.length c]∧Rd W W.heap.size A x.ins.length (zO x.ins)∧zT x.kind∧zT x.lit∧(∀ i∈x.ins,zT i)∧x.ins.length≤140737488355328:=fun i hi=>by
   obtain ⟨cs',h1,h2⟩:=hel i (by omega);obtain ⟨x,A,c,rfl,r⟩:=open_nd h2 (hwd i hi);rw [zfW] at h1;exact ⟨x,A,c,h1,r⟩
  let F:Nat→Nd:=fun i=>if hi:i<len then Classical.choose (hnd i hi) else ⟨0,0,[]⟩
  have hF:∀ i,i<len→∃ (A:Option Addr) (c:Nat),W.cells? 0 (a.add (i*3)) 3=some [.int .i64 (F i).kind,.int .i64 (F i).lit,.slice A (F i).ins.length c]∧Rd W W.heap.size A (F i).ins.length (zO (F i).ins)∧zT (F i).kind∧zT (F i).lit∧(∀ j∈(F i).ins,zT j)∧(F i).ins.length≤140737488355328:=fun i hi=>by
   have:=Classical.choose_spec (hnd i hi);have e:F i=Classical.choose (hnd i hi):=dif_pos hi;rw [e];exact this
  have hll:((List.range len).map F).length=len:=by simp
  refine ⟨⟨k,(List.range len).map F⟩,some a,cap,rfl,by simp,by simp only [hll];unfold reachBytes at hl2;omega,fun hn=>?_,zgT w0⟩;simp only [hll] at hn ⊢;obtain ⟨A0,c0,h0,_⟩:=hF 0 hn;have hc0:=(World.cells?_some h0).2.2 0 (by decide);obtain ⟨b,off,spot⟩:=a;have hspot:spot=none:=by
   rw [Nat.zero_mul] at hc0;simpa [Addr.add] using World.cell?_spot (hc0.trans rfl)
  subst hspot;have hadd:∀ i j,((⟨b,off,none⟩:Addr).add i).add j=⟨b,off+i+j,none⟩:=fun i j=>by unfold Addr.add;split <;> split <;> simp_all
  refine ⟨b,off,rfl,?_,fun i hi=>?_⟩
  ·have hlt:=World.block_lt_of_cell? W _ (hc0.trans rfl);rw [hadd] at hlt;exact hlt
  ·obtain ⟨A,c,h1,hr,r1,r2,r3,r4⟩:=hF i hi;obtain ⟨_,_,hcc⟩:=World.cells?_some h1;have g0:=hcc 0 (by decide);have g1:=hcc 1 (by decide);have g2:=hcc 2 (by decide);rw [hadd] at g0 g1 g2;have e:((List.range len).map F)[i]=F i:=by simp
   rw [e];exact ⟨g0,g1,⟨A,c,g2,hr⟩,r1,r2,r3,r4⟩
theorem open_ws {v:Value} {y:DataW H×List MemPlace} (h:DataW.trod enc Tryz.prog W 0 (fun _=>true) true fuel 25 [v]=some y) (hw:∀ n∈y.1.weights Tryz.prog 25,n≤reachBytes) :
  ∃ (A:Option Addr) (len c:Nat) (F:Nat→Nat),v = .slice A len c∧len≤140737488355328∧Rd W W.heap.size A (len*4) (fun i=>.int .u8 (F i:Nat))∧∀ i,F i<256:=by
 rcases open_slice Tryz.underlying25 h with ⟨hcs,_⟩ | ⟨a,len,cap,m,n',D,Pl,hcs,_,hl,hm,hmm,hx,hel⟩
 ·simp only [List.cons.injEq,and_true] at hcs;exact ⟨none,0,0,fun _=>0,hcs,by simp,fun h=>absurd h (by simp),fun _=>Nat.zero_lt_succ _⟩
 ·simp only [List.cons.injEq,and_true] at hcs;simp only [if_true] at hmm;subst hcs;rw [hx] at hw;have hwt:=hw ((((List.range len).map D).length+((List.range (m-len)).map fun j=>D (len+j)).length)*Tryz.prog.bytesOf 160) (by simp [DataW.weights, Tryz.underlying25]);have hl2:len*4≤reachBytes:=by
   refine Nat.le_trans ?_ hwt;rw [bytes_w4];apply Nat.mul_le_mul_right;simp
  have hnd:∀ i,i<len→∃ f:Nat→Nat,W.cells? 0 (a.add (i*4)) 4=some [.int .u8 (f 0:Nat),.int .u8 (f 1:Nat),.int .u8 (f 2:Nat),.int .u8 (f 3:Nat)]∧∀ j,f j<256:=fun i hi=>by
   obtain ⟨cs',h1,h2⟩:=hel i (by omega);rw [cells_w4] at h1;have hlen:cs'.length=4:=(World.cells?_some h1).2.1
   match cs',hlen with
   | [c0,c1,c2,c3],_ =>
     obtain ⟨y0,y1,y2,y3,n,_,h0,h1',h2',h3⟩:=trod_array4 Tryz.underlying160 oo h2;obtain ⟨k0,e0,_,w0⟩:=DataW.trod_int Tryz.underlying5 h0;obtain ⟨k1,e1,_,w1⟩:=DataW.trod_int Tryz.underlying5 h1';obtain ⟨k2,e2,_,w2⟩:=DataW.trod_int Tryz.underlying5 h2';obtain ⟨k3,e3,_,w3⟩:=DataW.trod_int Tryz.underlying5 h3;simp only [List.cons.injEq,and_true] at e0 e1 e2 e3;have b0:=bounds_u8 w0;have b1:=bounds_u8 w1;have b2:=bounds_u8 w2;have b3:=bounds_u8 w3;refine ⟨fun j=>if j=0 then k0.toNat else if j=1 then k1.toNat else if j=2 then k2.toNat else k3.toNat,?_,fun j=>?_⟩
     ·show W.cells? 0 (a.add (i*4)) 4=some [.int .u8 (k0.toNat:Nat),.int .u8 (k1.toNat:Nat),.int .u8 (k2.toNat:Nat),.int .u8 (k3.toNat:Nat)];rw [h1,e0,e1,e2,e3,Int.toNat_of_nonneg b0.1,Int.toNat_of_nonneg b1.1,Int.toNat_of_nonneg b2.1,Int.toNat_of_nonneg b3.1]
     ·show (if j=0 then k0.toNat else if j=1 then k1.toNat else if j=2 then k2.toNat else k3.toNat)<256;split
      ·omega
      ·split
       ·omega
       ·split <;> omega
  let F:Nat→Nat→Nat:=fun i=>if hi:i<len then Classical.choose (hnd i hi) else fun _=>0
  have hF:∀ i,i<len→W.cells? 0 (a.add (i*4)) 4=some [.int .u8 (F i 0:Nat),.int .u8 (F i 1:Nat),.int .u8 (F i 2:Nat),.int .u8 (F i 3:Nat)]:=fun i hi=>by
   have:=(Classical.choose_spec (hnd i hi)).1;have e:F i=Classical.choose (hnd i hi):=dif_pos hi;rw [e];exact this
  have hB:∀ i j,F i j<256:=fun i j=>by
   by_cases hi:i<len
   ·have e:F i=Classical.choose (hnd i hi):=dif_pos hi;rw [e];exact (Classical.choose_spec (hnd i hi)).2 j
   ·have e:F i=fun _=>0:=dif_neg hi;rw [e];exact Nat.zero_lt_succ _
  refine ⟨some a,len,cap,fun i=>F (i / 4) (i%4),rfl,by unfold reachBytes at hl2;omega,fun hn=>?_,fun i=>hB _ _⟩;have hc0:=(World.cells?_some (hF 0 (by omega))).2.2 0 (by decide);obtain ⟨b,off,spot⟩:=a;have hspot:spot=none:=by
   rw [Nat.zero_mul] at hc0;simpa [Addr.add] using World.cell?_spot (hc0.trans rfl)
  subst hspot;have hadd:∀ i j,((⟨b,off,none⟩:Addr).add i).add j=⟨b,off+i+j,none⟩:=fun i j=>by unfold Addr.add;split <;> split <;> simp_all
  refine ⟨b,off,rfl,?_,fun i hi=>?_⟩
  ·have hlt:=World.block_lt_of_cell? W _ (hc0.trans rfl);rw [hadd] at hlt;exact hlt
  ·obtain ⟨_,_,hcc⟩:=World.cells?_some (hF (i / 4) (by omega));have g:=hcc (i%4) (Nat.mod_lt _ (by decide));rw [hadd,show off+i / 4*4+i%4=off+i by omega] at g;rw [g];have:i%4=0∨i%4=1∨i%4=2∨i%4=3:=by omega
   show _=some (Value.int .u8 (F (i / 4) (i%4):Nat));rcases this with e | e | e | e <;> rw [e] <;> rfl
abbrev yu (N:Nt) (A:Option Addr) (c:Nat) (Aw:Option Addr) (lw cw:Nat) (At:Option Addr) (lt ct:Nat):Value:=.agg #[.int .i64 N.n,.slice A N.l.length c,.slice Aw lw cw,.slice At lt ct]
theorem zjs {v:Value} {d:DataW H} {p:List MemPlace} {b0:Nat} (hv:Value.okWide Tryz.prog W .any b0 28 v) (h:DataW.Trod enc Tryz.prog W 0 (fun _=>true) true 28 v d p) (hw:∀ n∈d.weights Tryz.prog 28,n≤reachBytes) :
  ∃ (N:Nt) (A:Option Addr) (c:Nat) (Aw:Option Addr) (lw cw:Nat) (F:Nat→Nat) (At:Option Addr) (t:List Int) (ct:Nat),v=yu N A c Aw lw cw At t.length ct∧N.l.length≤140737488355328∧NtAt W W.heap.size A N.l∧zT N.n ∧
   lw≤140737488355328∧Rd W W.heap.size Aw (lw*4) (fun i=>.int .u8 (F i:Nat))∧(∀ i,F i<256)∧t.length≤140737488355328∧Rd W W.heap.size At t.length (zO t)∧∀ i∈t,zT i:=by
 obtain ⟨cs,rfl,hsz⟩:=okWide_struct Tryz.underlying28 hv;obtain ⟨c0,c1,c2,c3,rfl⟩:=array4 (hsz.trans py);obtain ⟨fuel,hf⟩:=h;obtain ⟨y0,y1,y2,n,hx,_,h0,h1,h2⟩:=trod_struct3 Tryz.underlying28 hf;simp only [Prod.mk.injEq] at hx;obtain ⟨rfl,rfl⟩:=hx;have h0':DataW.trod enc Tryz.prog W 0 (fun _=>true) true n 24 [c0,c1]=some y0:=by simpa [Value.cells,pv] using h0
 have h1':DataW.trod enc Tryz.prog W 0 (fun _=>true) true n 25 [c2]=some y1:=by simpa [Value.cells,cells_ws] using h1
 have h2':DataW.trod enc Tryz.prog W 0 (fun _=>true) true n 26 [c3]=some y2:=by simpa [Value.cells,zfX] using h2
 obtain ⟨N,A,c,rfl,rfl,a1,a2,a3⟩:=xV h0' fun m hm=>hw m (by
  simp only [DataW.weights, Tryz.underlying28];exact DataW.weights_mem_each (j:=0) rfl rfl m hm)
 obtain ⟨Aw,lw,cw,F,rfl,b1,b2,b3⟩:=open_ws h1' fun m hm=>hw m (by
  simp only [DataW.weights, Tryz.underlying28];exact DataW.weights_mem_each (j:=1) rfl rfl m hm)
 obtain ⟨At,t,ct,rfl,e1,e2,e3⟩:=zjr h2' fun m hm=>hw m (by
  simp only [DataW.weights, Tryz.underlying28];exact DataW.weights_mem_each (j:=2) rfl rfl m hm)
 exact ⟨N,A,c,Aw,lw,cw,F,At,t,ct,rfl,a1,a2,a3,b1,b2,b3,e1,e2,e3⟩
end
end Go.Proofs.YtmhllppjcilllaaGreatDoor
end
section
set_option maxRecDepth 100000
set_option maxHeartbeats 1000000
open Go Go.RowKit Cs
namespace Cs
def yt (l:List Nd):Bool:=l.all fun x=>decide (x.ins.length≤40)
def zek (N:Nt) (m:Nat):Bool:=yt N.l&&decide (N.l.length≤m)
theorem xB {l:List Nd} {k:Nat} (h:k<l.length):yt (l.take (k+1))=(yt (l.take k)&&decide (l[k].ins.length≤40)):=by
 unfold yt;rw [List.take_succ_eq_append_getElem h,List.all_append];simp
theorem slim_not {l:List Nd} {k:Nat} (h:k<l.length) (h2:¬ l[k].ins.length≤40):yt l=false:=by
 cases hs:yt l
 ·rfl
 ·unfold yt at hs;rw [List.all_eq_true] at hs;have:=hs l[k] (List.getElem_mem h);simp only [decide_eq_true_eq] at this;exact absurd this h2
end Cs
namespace Go.Proofs.YtmhllppjcilllaaGreatDoor
theorem x4 (w:World) (N:Nt) (A:Option Addr) (c m:Nat) (hlen:N.l.length≤140737488355328) (hN:NtAt w w.heap.size A N.l) (hm:m≤1000) :
  Calls Tryz.prog 43 #[qg N A c,.int .i64 (m:Int)] w fun e w'=>e = .returned (.bool (zek N m))∧Below w.heap.size w w':=by
 obtain ⟨n,l⟩:=N;simp only at hlen hN;have hbl:Below w.heap.size w (w.alloc (.cells #[.int .i64 n,.slice A l.length c] 24)):=(zx _ _).alloc (zu _) _;have hbx:=yQ w ⟨n,l⟩ A c 24 _ rfl;obtain ⟨B,hB⟩:∃ B,zek ⟨n,l⟩ m=B:=⟨_,rfl⟩;have hf:zek ⟨n,l⟩ m=(yt l&&decide (l.length≤m)):=rfl;rw [hB] at hf ⊢;have HF:=zb hf;clear hf hB;go_enter Tryz.func43, Tryz.ntmps43;go_wp2;go_loopw [10] (fun t wr=>∃ k:Nat,k≤l.length∧t = .int .i64 k∧Hid (yt (l.take k)=true)∧wr.rowIs w.heap.size 24 2 (gL ⟨n,l⟩ A c)∧Below w.heap.size w wr) (fun t _=>l.length-(intOf t).toNat)
 case atStart=>exact ⟨0,by omega,rfl,rfl,hbx,hbl⟩
 case round =>
  clear hbx hbl;obtain ⟨k,hk,rfl,HS,hbx,hbl⟩:=hrel;by_cases hlt:k<l.length
  ·obtain ⟨b,o,rfl,hbB,hcs⟩:=hN (by omega);have hnd:=hcs k hlt;clear hcs;have hst:=xB hlt;have hno:=fun h=>slim_not hlt h;obtain ⟨x,hx⟩:∃ x,l[k]=x:=⟨_,rfl⟩;rw [hx] at hnd hst;simp only [hx] at hno;obtain ⟨hk1,hk2,⟨A',c',hk3,hrd⟩,hr1,hr2,hr3,hr4⟩:=hnd;replace hk1:=zB hbl hbB hk1;replace hk2:=zB hbl hbB hk2;replace hk3:=zB hbl hbB hk3;have HST:=zb hst;have HNO:=zb hno;clear hrd hst hno hx;by_cases h40:x.ins.length≤40
   ·go_wp2;go_roundw
    case rel =>
     refine ⟨k+1,by omega,by go_num,?_,hbx.alloc _,hbl.alloc hbl.size _⟩;have h:=HST.out;rw [HS.out,decide_eq_true h40] at h;exact h
    case measure=>simp [intOf];omega
   ·have h:=HNO.out h40;have h2:=HF.out;rw [h,Bool.false_and] at h2;have HF2:=zb h2;clear h h2;go_wp2;go_ret;exact ⟨by rw [HF2.out];try rfl,hbl.alloc hbl.size _⟩
  ·obtain rfl:k=l.length:=by omega
   have h:=HS.out;rw [List.take_length] at h;have h2:=HF.out;rw [h,Bool.true_and] at h2;have HF2:=zb h2;obtain ⟨c1,c2⟩:=qy hbx;clear h h2;by_cases hle:l.length≤m
   ·go_wp2;go_ret;exact ⟨by rw [HF2.out,decide_eq_true hle];try rfl,hbl⟩
   ·go_wp2;go_ret;exact ⟨by rw [HF2.out,decide_eq_false hle];try rfl,hbl⟩
end Go.Proofs.YtmhllppjcilllaaGreatDoor
end
