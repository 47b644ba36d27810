import Derived.WalkKit
import Derived.Lib.Hide
import Derived.Deep.OwnRows
import Derived.BigQuiet
import Derived.Deep.QuietTactic
import Derived.Deep.RegionHeld3
import Derived.Deep.RegionLaw
import Derived.Deep.DeepFit
import Derived.Deep.Draws
import Derived.Lib.Mul64
import Derived.Laws.CopyOwn
import Derived.Laws.OwnMore
import Derived.Test.YtmhllppjcilllaaGreatDoorM1
set_option linter.unusedSimpArgs false
set_option linter.unusedVariables false
section
namespace Cs
open Go Go.RowKit
section
variable {w w':World} {b B:Nat} {t:TypeId} {n:Nat} {f:Nat→Value}
theorem zh (h:w.rowIs b t n f) (hb:Below w.heap.size w w'):w'.rowIs b t n f:=h.of_block (hb.block b h.lt)
theorem zd5 (h:w.rowIs b t n f) (hb:Below B w w') (hB:b<B):w'.rowIs b t n f:=h.of_block (hb.block b hB)
theorem js {row:Option Nat} (h:w.rowIs b t n f) (hb:w.grownBy w' row) (hB:some b≠row):w'.rowIs b t n f:=h.of_block (hb.block b h.lt hB)
theorem qO (h:w.rowIs b t n f) (k:Nat):(w.drewN k).rowIs b t n f:=h
theorem Below.trans' {a c d:World} (h:Below B a c) (k:Below c.heap.size c d) (hB:B≤c.heap.size):Below B a d:=h.trans (k.mono hB)
end
theorem zx:type_of% @Below.trans':=@Below.trans'
theorem qY {B:Nat} {w w':World} (h:Below B w w') (k:Nat):Below B w (w'.drewN k):=⟨h.os,h.tape,h.output,h.size,h.block⟩
theorem zF {w w':World} {B b o:Nat} {v:Value} (h:Below B w w') (hb:b<B) (hc:w.cell? ⟨b,o,none⟩=some v):w'.cell? ⟨b,o,none⟩=some v:=zG h hc hb
theorem oX (w:World) (z:Value) (n:Nat) (t:TypeId) (g:Nat) {f:Nat→Value} (hg:w.heap.size=g) (hf:∀ i,i<n→z=f i):(w.alloc (.cells (madeCells #[z] n) t)).rowIs g t n f:=by
 subst hg;exact (World.rowIs_made w z n t).congr hf
theorem qC (w:World) (v:Value) (t:TypeId) (g:Nat) (hg:w.heap.size=g):(w.alloc (.cells #[v] t)).rowIs g t 1 fun _=>v:=by
 subst hg;exact World.rowIs_alloc w #[v] t (fun _=>v) fun i hi=>by
  have:i=0:=by simp at hi;omega
  subst this;rfl
theorem zQ {w:World} {g:Nat} {t:TypeId} {v:Value} (h:w.rowIs g t 1 fun _=>v):w.cell? ⟨g,0,none⟩=some v:=h.cell (by omega)
theorem qV {w:World} {g:Nat} {t:TypeId} {v:Value} (h:w.rowIs g t 1 fun _=>v) (u:Value):(w.setCell ⟨g,0,none⟩ u).rowIs g t 1 fun _=>u :=
 (h.set 0 u).congr fun i hi=>by rw [if_pos (by omega)]
theorem jt {w:World} {g:Nat} {t:TypeId} {n:Nat} {f:Nat→Value} (h:w.rowIs g t n f):w.heap[g]?=some (.cells ((List.range n).map f).toArray t (0,0)):=by
 obtain ⟨c,hb,hn,hc⟩:=h;rw [hb];congr 2;apply Array.ext
 ·simp [hn]
 ·intro i h1 h2;have:=hc i (by omega);rw [Array.getElem?_eq_getElem h1] at this;injection this with this;rw [this];simp
theorem zeK {P:Program} {fn:Func} {R:Ending→World→Prop} {a:Act} {w:World} {p:Tmp} {T:TypeId} (h:fn.results=#[.cell p T]) (g:Nat) (t:TypeId) (n:Nat) (f:Nat→Value)
  (hp:a.tmps.getD p undef = .pointer (some ⟨g,0,none⟩)) (hrow:w.rowIs g t n f) (d:TypeDesc) (hu:P.underlying T=some d) (hd:(match d with | .struct _ | .array _ _=>true | _=>false)=true)
  (hi:(P.info? T).map (·.size)=some n) (hdf:a.defers=[]) (hR:R (.returned (.agg ((List.range n).map f).toArray)) w):bodyPost P fn R .ret a w :=
 bodyPost_ret (results_cell_row h a.tmps w g t _ (0,0) d hp (jt hrow) hu hd (by simpa using hi)) hdf hR
theorem zbU {P:Program} {w:World} {ops:Array Oper} {rest:List Oper} {o:Oper} {a:Act} {Q:Exit→Act→World→Prop} (hgd:o.guard=none) (d s:Operand) (dT sT:TypeId)
  (ho:o.op = .call { callee:=.builtin .copy,args:=#[d,s],argTypes:=#[dT,sT] }) (elem:TypeId) (hu:P.underlying dT=some (.slice elem)) (hsz:(P.info? elem).map (·.size)=some 1)
  (g n cap m sCap:Nat) (sp:Option Addr) (hd:a.eval d = .slice (some ⟨g,0,none⟩) n cap) (hs:a.eval s = .slice sp m sCap) (t:TypeId) (N:Nat) (f:Nat→Value) (hrow:w.rowIs g t N f) (hN:n≤N) (hm:m≤n)
  (h':Nat→Value) (hsrc:0<m→∃ b o,sp=some ⟨b,o,none⟩∧∀ j,j<m→w.cell? ⟨b,o+j,none⟩=some (h' j)) (h1:∀ j,j<m→(h' j).oneCell'=true)
  (h:∀ w',w'.rowIs g t N (fun i=>if i<m then h' i else f i)→w.grownBy w' (some g)→wpList P ops Q rest (a.put o.dst (.int .i64 (m:Int))) w'):wpList P ops Q (o::rest) a w:=by
 rcases Nat.eq_zero_or_pos m with h0 | h0
 ·subst h0;exact wpList_copy_nothing hgd d s dT sT ho elem hu hsz _ _ _ _ _ _ hd hs (by simp [Nat.min_def]) (h w (hrow.congr fun i _=>by simp) (World.grownBy.refl w _))
 ·obtain ⟨b,o',rfl,hc⟩:=hsrc h0;have harr:=jt hrow;refine wpList_copy_own hgd d s dT sT ho elem hu hsz g 0 n cap ⟨b,o',none⟩ m sCap hd hs _ t harr ((List.range m).map h') (by simp [Nat.min_def];omega) (fun j v hj=>?_) (by simp;omega) (fun v hv=>?_) ?_
  ·have hjm:j<m:=by
    rcases Nat.lt_or_ge j m with hh | hh
    ·exact hh
    ·simp [hh] at hj
   have hp:(⟨b,o',none⟩:Addr).add j=⟨b,o'+j,none⟩:=by unfold Addr.add;split <;> simp_all
   rw [hp,hc j hjm];simpa [hjm] using hj
  ·obtain ⟨j,hj,rfl⟩:=List.mem_map.1 hv;exact h1 j (by simpa using hj)
  ·have hw:=setRow_heap w g _ (((List.range N).map f).toArray.toList.take 0++((List.range m).map h'++((List.range N).map f).toArray.toList.drop (0+((List.range m).map h').length))).toArray t (0,0) harr;have:=h (w.setRow g _) ⟨_,hw,by simp;omega,fun i hi=>?_⟩ ⟨rfl,rfl,rfl,by simp [World.setRow],fun k hk hne=>setRow_other w g k _ (fun e=>hne (by rw [e]))⟩
   ·simpa [goInt] using this
   ·simp only [List.take_zero,List.nil_append,List.getElem?_toArray,Nat.zero_add,List.length_map,List.length_range];by_cases hh:i<m
    ·rw [if_pos hh,List.getElem?_append_left (by simpa using hh)];simp [hh]
    ·rw [if_neg hh,List.getElem?_append_right (by simpa using hh)];simp [List.getElem?_drop,List.getElem?_map,List.length_map];rw [List.getElem?_range (by omega)];simp;congr 1;omega
theorem zgm {k:IntKind} {a b:Int} (h:a=b):Ending.returned (.int k a) = .returned (.int k b):=by rw [h]
end Cs
end
section
namespace Cs
open Go Go.RowKit
theorem zb1 {a w:World} {row:Option Nat} (h:a.grownBy w row) (n:Nat):a.grownBy (w.drewN n) row:=⟨h.os,h.tape,h.output,h.size,h.block⟩
theorem zkm {a w:World} {row:Option Nat} (h:a.grownBy w row) (o:Obj):a.grownBy (w.alloc o) row :=
 ⟨h.os,h.tape,h.output,Nat.le_trans h.size (by simp),fun i hi hne=>(Below.heap_alloc w o i (Nat.lt_of_lt_of_le hi h.size)).trans (h.block i hi hne)⟩
theorem zbi {a w:World} {g:Nat} (h:a.grownBy w (some g)) {p:Addr} (hp:p.block=g∨a.heap.size≤p.block) (u:Value):a.grownBy (w.setCell p u) (some g) :=
 ⟨h.os,h.tape,h.output,by simpa [World.setCell] using h.size,fun i hi hne=>(Below.heap_setCell w p u i (by
   rintro rfl;rcases hp with hp | hp
   ·exact hne (by rw [hp])
   ·omega)).trans (h.block i hi hne)⟩
theorem yO (w:World) (p:Addr) (u:Value):(w.setCell p u).heap.size=w.heap.size:=by simp [World.setCell]
def ob:Value→Nat | .slice _ n _=>n | _=>0
theorem zir {w:World} {base:Nat} {e:TypeId} {size:Nat} {v:Value} {n:Nat} {xs:List Value} (h:w.ownsRow base e size v n xs):ob v=n:=by
 rcases h.2 with ⟨rfl,rfl⟩ | ⟨g,cap,cur,rfl,_⟩ <;> rfl
theorem zb6 {w:World} {base:Nat} {e:TypeId} {size:Nat} {v:Value} {n:Nat} {xs:List Value} (h:w.ownsRow base e size v n xs) (hn:0<n) :
  ∃ g cap,v = .slice (some ⟨g,0,none⟩) n cap∧base≤g∧g<w.heap.size:=by
 rcases h.2 with ⟨_,h0⟩ | ⟨g,cap,cur,hv,hb,hg,_⟩
 ·omega
 ·refine ⟨g,cap,hv,hb,?_⟩;rcases Nat.lt_or_ge g w.heap.size with h' | h'
  ·exact h'
  ·rw [Array.getElem?_eq_none h'] at hg;cases hg
theorem zex {w:World} {base:Nat} {e:TypeId} {n cap g:Nat} {xs:List Value} (h:w.ownsRow base e 1 (.slice (some ⟨g,0,none⟩) n cap) n xs) {j:Nat} {u:Value} (hj:xs[j]?=some u):w.cell? ⟨g,j,none⟩=some u:=by
 have:=h.cells (g:=g) rfl j u hj;have hp:(⟨g,0,none⟩:Addr).add j=⟨g,j,none⟩:=by unfold Addr.add;split <;> simp_all
 rwa [hp] at this
theorem zcL {w w':World} {base:Nat} {e:TypeId} {size:Nat} {v:Value} {n:Nat} {xs:List Value} (h:w.ownsRow base e size v n xs) (hb:Below w.heap.size w w'):w'.ownsRow base e size v n xs :=
 h.kept (row:=none) ⟨hb.os,hb.tape,hb.output,hb.size,fun k hk _=>hb.block k hk⟩ (by cases hv:v.ownBlock <;> simp)
theorem zkk {w w':World} {B base:Nat} {e:TypeId} {size:Nat} {v:Value} {n:Nat} {xs:List Value} (h:w.ownsRow base e size v n xs) (hb:Below B w w') (hlt:∀ g,v.ownBlock=some g→g<B):w'.ownsRow base e size v n xs:=by
 obtain ⟨h1,h2⟩:=h;refine ⟨h1,?_⟩;rcases h2 with h2 | ⟨g,cap,cur,rfl,hbg,hg,r⟩
 ·exact .inl h2
 ·exact .inr ⟨g,cap,cur,rfl,hbg,by rw [hb.block g (hlt g rfl)];exact hg,r⟩
theorem zeR {w:World} {v:Value} {t:TypeId} (j:Nat) (u:Value) (h:([v]:List Value)[j]?=some u):(w.alloc (.cells #[v] t)).cell? ((⟨w.heap.size,0,none⟩:Addr).add j)=some u:=by
 match j,h with
 | 0,h=>simp at h;subst h;simp [Addr.add]
theorem zeQ {k:IntKind} {n:Int} (u:Value) (h:u∈[Value.int k n]):u.oneCell'=true:=by
 simp at h;subst h;rfl
theorem zbT {B g:Nat} {a w w':World} (h:Below B a w) (hg:w.grownBy w' (some g)) (hB:B≤w.heap.size) (hgB:B≤g):Below B a w' :=
 h.grown hg hB fun k e=>by cases e;exact hgB
end Cs
end
section
namespace Cs
open Go Go.RowKit
def Rd (w:World) (B:Nat) (A:Option Addr) (n:Nat) (f:Nat→Value):Prop :=
 0<n→∃ b o,A=some ⟨b,o,none⟩∧b<B∧∀ i,i<n→w.cell? ⟨b,o+i,none⟩=some (f i)
section
variable {w w':World} {B B' n:Nat} {A:Option Addr} {f g:Nat→Value}
theorem Rd.below (h:Rd w B A n f) (hb:Below B w w'):Rd w' B A n f:=fun hn=>by
 obtain ⟨b,o,e,hB,hc⟩:=h hn;exact ⟨b,o,e,hB,fun i hi=>zF hb hB (hc i hi)⟩
theorem Rd.more (h:Rd w B A n f) (hB:B≤B'):Rd w B' A n f:=fun hn=>by
 obtain ⟨b,o,e,hb,hc⟩:=h hn;exact ⟨b,o,e,by omega,hc⟩
theorem Rd.zero (w:World) (B:Nat) (A:Option Addr) (f:Nat→Value):Rd w B A 0 f:=fun h=>absurd h (by omega)
theorem Rd.drew (h:Rd w B A n f):Rd w.drew B A n f:=h
theorem Rd.alloc (h:Rd w B A n f) (hB:B≤w.heap.size) (o:Obj):Rd (w.alloc o) B A n f:=h.below ((Below.refl _ _).alloc hB o)
theorem Rd.of_row {t:TypeId} {N:Nat} (h:w.rowIs B' t N f) (hn:n≤N) (hB:B'<B):Rd w B (some ⟨B',0,none⟩) n f :=
 fun _=>⟨B',0,rfl,hB,fun i hi=>by rw [Nat.zero_add];exact h.cell (by omega)⟩
theorem Rd.of_own {base:Nat} {e:TypeId} {c:Nat} {xs:List Value} (h:w.ownsRow base e 1 (.slice A n c) n xs) (hf:∀ i,i<n→xs[i]?=some (f i)):Rd w w.heap.size A n f:=fun hn=>by
 obtain ⟨g,cap,hv,_,hlt⟩:=zb6 h hn;have hA:A=some ⟨g,0,none⟩:=by injection hv
 subst hA;exact ⟨g,0,rfl,hlt,fun i hi=>by
  rw [Nat.zero_add];have hc:c=cap:=by injection hv
  subst hc;exact zex h (hf i hi)⟩
end
def zV (xs:List Int) (i:Nat):Value:=.int .i64 (xs.getD i 0)
end Cs
end
section
namespace Cs
open Go Go.RowKit
structure Nd where
 kind:Int
 lit:Int
 ins:List Int
structure Nt where
 n:Int
 l:List Nd
def zR (x:Int):Prop := -9223372036854775808≤x∧x≤9223372036854775807
structure NdAt (w:World) (B b o:Nat) (x:Nd):Prop where
 kind:w.cell? ⟨b,o,none⟩=some (.int .i64 x.kind)
 lit:w.cell? ⟨b,o+1,none⟩=some (.int .i64 x.lit)
 ins:∃ A c,w.cell? ⟨b,o+2,none⟩=some (.slice A x.ins.length c)∧Rd w B A x.ins.length (zV x.ins)
 rk:zR x.kind
 rl:zR x.lit
 ri:∀ i∈x.ins,zR i
 len:x.ins.length≤140737488355328
def NtAt (w:World) (B:Nat) (A:Option Addr) (L:List Nd):Prop :=
 0<L.length→∃ b o,A=some ⟨b,o,none⟩∧b<B∧∀ i (h:i<L.length),NdAt w B b (o+i*3) L[i]
section
variable {w w':World} {B B' b o:Nat} {x:Nd} {A:Option Addr} {L:List Nd}
theorem NdAt.below (h:NdAt w B b o x) (hb:Below B w w') (hB:b<B):NdAt w' B b o x :=
 ⟨zF hb hB h.kind,zF hb hB h.lit,(let ⟨A,c,h1,h2⟩:=h.ins;⟨A,c,zF hb hB h1,h2.below hb⟩),h.rk,h.rl,h.ri,h.len⟩
theorem NdAt.more (h:NdAt w B b o x) (hB:B≤B'):NdAt w B' b o x :=
 ⟨h.kind,h.lit,(let ⟨A,c,h1,h2⟩:=h.ins;⟨A,c,h1,h2.more hB⟩),h.rk,h.rl,h.ri,h.len⟩
theorem NtAt.below (h:NtAt w B A L) (hb:Below B w w'):NtAt w' B A L:=fun hn=>by
 obtain ⟨b,o,e,hB,hc⟩:=h hn;exact ⟨b,o,e,hB,fun i hi=>(hc i hi).below hb hB⟩
theorem NtAt.more (h:NtAt w B A L) (hB:B≤B'):NtAt w B' A L:=fun hn=>by
 obtain ⟨b,o,e,hb,hc⟩:=h hn;exact ⟨b,o,e,by omega,fun i hi=>(hc i hi).more hB⟩
end
def qm (x:Nd) (n before:Int):Bool :=
 if x.ins.any (fun i=>decide (i<0)||decide (before≤i)) then false
 else if x.kind=0∨x.kind=1 then decide (x.lit=0)&&decide (x.ins.length=0)
 else if x.kind=2 then z7 x.lit n&&decide (x.ins.length=0)
 else if x.kind=3∨x.kind=4 then decide (x.lit=0) else false
def yi (n:Int):Nat→List Nd→Bool
 | _,[]=>true
 | i,x::xs=>qm x n i&&yi n (i+1) xs
theorem zdl (n:Int) (x:Nd):∀ (i:Nat) (xs:List Nd),yi n i (xs++[x])=(yi n i xs&&qm x n ((i+xs.length:Nat):Int))
 | i,[]=>by simp [yi]
 | i,y::ys=>by
   have e:i+1+ys.length=i+(ys.length+1):=by omega
   simp only [List.cons_append,yi,zdl n x (i+1) ys,Bool.and_assoc,List.length_cons,e]
theorem zcq (n:Int) (xs:List Nd) (k:Nat) (h:k<xs.length):yi n 0 (xs.take (k+1))=(yi n 0 (xs.take k)&&qm xs[k] n (k:Int)):=by
 rw [List.take_succ_eq_append_getElem h,zdl];have:(xs.take k).length=k:=by simp;omega
 rw [this,Nat.zero_add]
theorem zcQ (n:Int) (xs:List Nd):∀ k,yi n 0 xs=true→yi n 0 (xs.take k)=true:=by
 have key:∀ (xs:List Nd) (i k:Nat),yi n i xs=true→yi n i (xs.take k)=true:=by
  intro xs
  induction xs with
  | nil=>intro i k _;simp [yi]
  | cons x xs ih =>
    intro i k h;cases k with
    | zero=>simp [yi]
    | succ k =>
      simp only [yi,List.take_succ_cons,Bool.and_eq_true] at h ⊢;exact ⟨h.1,ih _ _ h.2⟩
 exact fun k h=>key xs 0 k h
def zE (N:Nt):Bool:=decide (0≤N.n∧N.n≤128∧1≤N.l.length∧N.l.length≤65536)&&yi N.n 0 N.l
theorem qM {N:Nt} (h:zE N=true) (k:Nat) (hk:k<N.l.length):qm N.l[k] N.n (k:Int)=true:=by
 unfold zE at h;have h1:=zcQ N.n N.l (k+1) (by simp at h;exact h.2);rw [zcq _ _ _ hk] at h1;simp at h1;exact h1.2
theorem qR {N:Nt} (h:zE N=true):0≤N.n∧N.n≤128∧1≤N.l.length∧N.l.length≤65536:=by
 unfold zE at h;simp at h;exact h.1
end Cs
end
