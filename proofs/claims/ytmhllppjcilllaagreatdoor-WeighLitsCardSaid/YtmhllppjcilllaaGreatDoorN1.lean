import Derived.WalkKit
import Derived.Lib.Hide
import Derived.Deep.OwnRows
import Derived.BigQuiet
import Derived.Deep.QuietTactic
import Derived.Deep.RegionHeld3
import Derived.Deep.RegionLaw
import Derived.Deep.DeepFit
import Derived.Deep.Draws
import Derived.Lib.Mul64
import Derived.Laws.CopyOwn
import Derived.Laws.OwnMore
import Derived.Test.YtmhllppjcilllaaGreatDoorM1
import Derived.Test.YtmhllppjcilllaaGreatDoorChecked
set_option linter.unusedSimpArgs false
set_option linter.unusedVariables false
section
section
namespace Cs
open Go Go.RowKit
section
variable {w w':World} {b B:Nat} {t:TypeId} {n:Nat} {f:Nat→Value}
theorem zo (h:w.rowIs b t n f) (hb:Below w.heap.size w w'):w'.rowIs b t n f:=h.of_block (hb.block b h.lt)
theorem zd8 (h:w.rowIs b t n f) (hb:Below B w w') (hB:b<B):w'.rowIs b t n f:=h.of_block (hb.block b hB)
theorem jl {row:Option Nat} (h:w.rowIs b t n f) (hb:w.grownBy w' row) (hB:some b≠row):w'.rowIs b t n f:=h.of_block (hb.block b h.lt hB)
theorem qT (h:w.rowIs b t n f) (k:Nat):(w.drewN k).rowIs b t n f:=h
theorem Below.trans' {a c d:World} (h:Below B a c) (k:Below c.heap.size c d) (hB:B≤c.heap.size):Below B a d:=h.trans (k.mono hB)
end
theorem zw:type_of% @Below.trans':=@Below.trans'
theorem qV {B:Nat} {w w':World} (h:Below B w w') (k:Nat):Below B w (w'.drewN k):=⟨h.os,h.tape,h.output,h.size,h.block⟩
theorem zB {w w':World} {B b o:Nat} {v:Value} (h:Below B w w') (hb:b<B) (hc:w.cell? ⟨b,o,none⟩=some v):w'.cell? ⟨b,o,none⟩=some v:=zC h hc hb
theorem pS (w:World) (z:Value) (n:Nat) (t:TypeId) (g:Nat) {f:Nat→Value} (hg:w.heap.size=g) (hf:∀ i,i<n→z=f i):(w.alloc (.cells (madeCells #[z] n) t)).rowIs g t n f:=by
 subst hg;exact (World.rowIs_made w z n t).congr hf
theorem qF (w:World) (v:Value) (t:TypeId) (g:Nat) (hg:w.heap.size=g):(w.alloc (.cells #[v] t)).rowIs g t 1 fun _=>v:=by
 subst hg;exact World.rowIs_alloc w #[v] t (fun _=>v) fun i hi=>by
  have:i=0:=by simp at hi;omega
  subst this;rfl
theorem zV {w:World} {g:Nat} {t:TypeId} {v:Value} (h:w.rowIs g t 1 fun _=>v):w.cell? ⟨g,0,none⟩=some v:=h.cell (by omega)
theorem qZ {w:World} {g:Nat} {t:TypeId} {v:Value} (h:w.rowIs g t 1 fun _=>v) (u:Value):(w.setCell ⟨g,0,none⟩ u).rowIs g t 1 fun _=>u :=
 (h.set 0 u).congr fun i hi=>by rw [if_pos (by omega)]
theorem jk {w:World} {g:Nat} {t:TypeId} {n:Nat} {f:Nat→Value} (h:w.rowIs g t n f):w.heap[g]?=some (.cells ((List.range n).map f).toArray t (0,0)):=by
 obtain ⟨c,hb,hn,hc⟩:=h;rw [hb];congr 2;apply Array.ext
 ·simp [hn]
 ·intro i h1 h2;have:=hc i (by omega);rw [Array.getElem?_eq_getElem h1] at this;injection this with this;rw [this];simp
theorem zdX {P:Program} {fn:Func} {R:Ending→World→Prop} {a:Act} {w:World} {p:Tmp} {T:TypeId} (h:fn.results=#[.cell p T]) (g:Nat) (t:TypeId) (n:Nat) (f:Nat→Value)
  (hp:a.tmps.getD p undef = .pointer (some ⟨g,0,none⟩)) (hrow:w.rowIs g t n f) (d:TypeDesc) (hu:P.underlying T=some d) (hd:(match d with | .struct _ | .array _ _=>true | _=>false)=true)
  (hi:(P.info? T).map (·.size)=some n) (hdf:a.defers=[]) (hR:R (.returned (.agg ((List.range n).map f).toArray)) w):bodyPost P fn R .ret a w :=
 bodyPost_ret (results_cell_row h a.tmps w g t _ (0,0) d hp (jk hrow) hu hd (by simpa using hi)) hdf hR
theorem zca {P:Program} {w:World} {ops:Array Oper} {rest:List Oper} {o:Oper} {a:Act} {Q:Exit→Act→World→Prop} (hgd:o.guard=none) (d s:Operand) (dT sT:TypeId)
  (ho:o.op = .call { callee:=.builtin .copy,args:=#[d,s],argTypes:=#[dT,sT] }) (elem:TypeId) (hu:P.underlying dT=some (.slice elem)) (hsz:(P.info? elem).map (·.size)=some 1)
  (g n cap m sCap:Nat) (sp:Option Addr) (hd:a.eval d = .slice (some ⟨g,0,none⟩) n cap) (hs:a.eval s = .slice sp m sCap) (t:TypeId) (N:Nat) (f:Nat→Value) (hrow:w.rowIs g t N f) (hN:n≤N) (hm:m≤n)
  (h':Nat→Value) (hsrc:0<m→∃ b o,sp=some ⟨b,o,none⟩∧∀ j,j<m→w.cell? ⟨b,o+j,none⟩=some (h' j)) (h1:∀ j,j<m→(h' j).oneCell'=true)
  (h:∀ w',w'.rowIs g t N (fun i=>if i<m then h' i else f i)→w.grownBy w' (some g)→wpList P ops Q rest (a.put o.dst (.int .i64 (m:Int))) w'):wpList P ops Q (o::rest) a w:=by
 rcases Nat.eq_zero_or_pos m with h0 | h0
 ·subst h0;exact wpList_copy_nothing hgd d s dT sT ho elem hu hsz _ _ _ _ _ _ hd hs (by simp [Nat.min_def]) (h w (hrow.congr fun i _=>by simp) (World.grownBy.refl w _))
 ·obtain ⟨b,o',rfl,hc⟩:=hsrc h0;have harr:=jk hrow;refine wpList_copy_own hgd d s dT sT ho elem hu hsz g 0 n cap ⟨b,o',none⟩ m sCap hd hs _ t harr ((List.range m).map h') (by simp [Nat.min_def];omega) (fun j v hj=>?_) (by simp;omega) (fun v hv=>?_) ?_
  ·have hjm:j<m:=by
    rcases Nat.lt_or_ge j m with hh | hh
    ·exact hh
    ·simp [hh] at hj
   have hp:(⟨b,o',none⟩:Addr).add j=⟨b,o'+j,none⟩:=by unfold Addr.add;split <;> simp_all
   rw [hp,hc j hjm];simpa [hjm] using hj
  ·obtain ⟨j,hj,rfl⟩:=List.mem_map.1 hv;exact h1 j (by simpa using hj)
  ·have hw:=setRow_heap w g _ (((List.range N).map f).toArray.toList.take 0++((List.range m).map h'++((List.range N).map f).toArray.toList.drop (0+((List.range m).map h').length))).toArray t (0,0) harr;have:=h (w.setRow g _) ⟨_,hw,by simp;omega,fun i hi=>?_⟩ ⟨rfl,rfl,rfl,by simp [World.setRow],fun k hk hne=>setRow_other w g k _ (fun e=>hne (by rw [e]))⟩
   ·simpa [goInt] using this
   ·simp only [List.take_zero,List.nil_append,List.getElem?_toArray,Nat.zero_add,List.length_map,List.length_range];by_cases hh:i<m
    ·rw [if_pos hh,List.getElem?_append_left (by simpa using hh)];simp [hh]
    ·rw [if_neg hh,List.getElem?_append_right (by simpa using hh)];simp [List.getElem?_drop,List.getElem?_map,List.length_map];rw [List.getElem?_range (by omega)];simp;congr 1;omega
theorem zgl {k:IntKind} {a b:Int} (h:a=b):Ending.returned (.int k a) = .returned (.int k b):=by rw [h]
end Cs
end
section
namespace Cs
open Go Go.RowKit
theorem zb6 {a w:World} {row:Option Nat} (h:a.grownBy w row) (n:Nat):a.grownBy (w.drewN n) row:=⟨h.os,h.tape,h.output,h.size,h.block⟩
theorem zkl {a w:World} {row:Option Nat} (h:a.grownBy w row) (o:Obj):a.grownBy (w.alloc o) row :=
 ⟨h.os,h.tape,h.output,Nat.le_trans h.size (by simp),fun i hi hne=>(Below.heap_alloc w o i (Nat.lt_of_lt_of_le hi h.size)).trans (h.block i hi hne)⟩
theorem zbl {a w:World} {g:Nat} (h:a.grownBy w (some g)) {p:Addr} (hp:p.block=g∨a.heap.size≤p.block) (u:Value):a.grownBy (w.setCell p u) (some g) :=
 ⟨h.os,h.tape,h.output,by simpa [World.setCell] using h.size,fun i hi hne=>(Below.heap_setCell w p u i (by
   rintro rfl;rcases hp with hp | hp
   ·exact hne (by rw [hp])
   ·omega)).trans (h.block i hi hne)⟩
theorem yW (w:World) (p:Addr) (u:Value):(w.setCell p u).heap.size=w.heap.size:=by simp [World.setCell]
def gY:Value→Nat | .slice _ n _=>n | _=>0
theorem zin {w:World} {base:Nat} {e:TypeId} {size:Nat} {v:Value} {n:Nat} {xs:List Value} (h:w.ownsRow base e size v n xs):gY v=n:=by
 rcases h.2 with ⟨rfl,rfl⟩ | ⟨g,cap,cur,rfl,_⟩ <;> rfl
theorem yX {w:World} {base:Nat} {e:TypeId} {size:Nat} {v:Value} {n:Nat} {xs:List Value} (h:w.ownsRow base e size v n xs) (hn:0<n) :
  ∃ g cap,v = .slice (some ⟨g,0,none⟩) n cap∧base≤g∧g<w.heap.size:=by
 rcases h.2 with ⟨_,h0⟩ | ⟨g,cap,cur,hv,hb,hg,_⟩
 ·omega
 ·refine ⟨g,cap,hv,hb,?_⟩;rcases Nat.lt_or_ge g w.heap.size with h' | h'
  ·exact h'
  ·rw [Array.getElem?_eq_none h'] at hg;cases hg
theorem zez {w:World} {base:Nat} {e:TypeId} {n cap g:Nat} {xs:List Value} (h:w.ownsRow base e 1 (.slice (some ⟨g,0,none⟩) n cap) n xs) {j:Nat} {u:Value} (hj:xs[j]?=some u):w.cell? ⟨g,j,none⟩=some u:=by
 have:=h.cells (g:=g) rfl j u hj;have hp:(⟨g,0,none⟩:Addr).add j=⟨g,j,none⟩:=by unfold Addr.add;split <;> simp_all
 rwa [hp] at this
theorem yB {w w':World} {base:Nat} {e:TypeId} {size:Nat} {v:Value} {n:Nat} {xs:List Value} (h:w.ownsRow base e size v n xs) (hb:Below w.heap.size w w'):w'.ownsRow base e size v n xs :=
 h.kept (row:=none) ⟨hb.os,hb.tape,hb.output,hb.size,fun k hk _=>hb.block k hk⟩ (by cases hv:v.ownBlock <;> simp)
theorem zkj {w w':World} {B base:Nat} {e:TypeId} {size:Nat} {v:Value} {n:Nat} {xs:List Value} (h:w.ownsRow base e size v n xs) (hb:Below B w w') (hlt:∀ g,v.ownBlock=some g→g<B):w'.ownsRow base e size v n xs:=by
 obtain ⟨h1,h2⟩:=h;refine ⟨h1,?_⟩;rcases h2 with h2 | ⟨g,cap,cur,rfl,hbg,hg,r⟩
 ·exact .inl h2
 ·exact .inr ⟨g,cap,cur,rfl,hbg,by rw [hb.block g (hlt g rfl)];exact hg,r⟩
theorem pM {w:World} {v:Value} {t:TypeId} (j:Nat) (u:Value) (h:([v]:List Value)[j]?=some u):(w.alloc (.cells #[v] t)).cell? ((⟨w.heap.size,0,none⟩:Addr).add j)=some u:=by
 match j,h with
 | 0,h=>simp at h;subst h;simp [Addr.add]
theorem zeU {k:IntKind} {n:Int} (u:Value) (h:u∈[Value.int k n]):u.oneCell'=true:=by
 simp at h;subst h;rfl
theorem zdf {B g:Nat} {a w w':World} (h:Below B a w) (hg:w.grownBy w' (some g)) (hB:B≤w.heap.size) (hgB:B≤g):Below B a w' :=
 h.grown hg hB fun k e=>by cases e;exact hgB
end Cs
end
section
namespace Cs
open Go Go.RowKit
def Rd (w:World) (B:Nat) (A:Option Addr) (n:Nat) (f:Nat→Value):Prop :=
 0<n→∃ b o,A=some ⟨b,o,none⟩∧b<B∧∀ i,i<n→w.cell? ⟨b,o+i,none⟩=some (f i)
section
variable {w w':World} {B B' n:Nat} {A:Option Addr} {f g:Nat→Value}
theorem Rd.below (h:Rd w B A n f) (hb:Below B w w'):Rd w' B A n f:=fun hn=>by
 obtain ⟨b,o,e,hB,hc⟩:=h hn;exact ⟨b,o,e,hB,fun i hi=>zB hb hB (hc i hi)⟩
theorem Rd.more (h:Rd w B A n f) (hB:B≤B'):Rd w B' A n f:=fun hn=>by
 obtain ⟨b,o,e,hb,hc⟩:=h hn;exact ⟨b,o,e,by omega,hc⟩
theorem Rd.zero (w:World) (B:Nat) (A:Option Addr) (f:Nat→Value):Rd w B A 0 f:=fun h=>absurd h (by omega)
theorem Rd.drew (h:Rd w B A n f):Rd w.drew B A n f:=h
theorem Rd.alloc (h:Rd w B A n f) (hB:B≤w.heap.size) (o:Obj):Rd (w.alloc o) B A n f:=h.below ((Below.refl _ _).alloc hB o)
theorem Rd.of_row {t:TypeId} {N:Nat} (h:w.rowIs B' t N f) (hn:n≤N) (hB:B'<B):Rd w B (some ⟨B',0,none⟩) n f :=
 fun _=>⟨B',0,rfl,hB,fun i hi=>by rw [Nat.zero_add];exact h.cell (by omega)⟩
theorem Rd.of_own {base:Nat} {e:TypeId} {c:Nat} {xs:List Value} (h:w.ownsRow base e 1 (.slice A n c) n xs) (hf:∀ i,i<n→xs[i]?=some (f i)):Rd w w.heap.size A n f:=fun hn=>by
 obtain ⟨g,cap,hv,_,hlt⟩:=yX h hn;have hA:A=some ⟨g,0,none⟩:=by injection hv
 subst hA;exact ⟨g,0,rfl,hlt,fun i hi=>by
  rw [Nat.zero_add];have hc:c=cap:=by injection hv
  subst hc;exact zez h (hf i hi)⟩
end
def zO (xs:List Int) (i:Nat):Value:=.int .i64 (xs.getD i 0)
end Cs
end
section
namespace Cs
open Go Go.RowKit
structure Nd where
 kind:Int
 lit:Int
 ins:List Int
structure Nt where
 n:Int
 l:List Nd
def zT (x:Int):Prop := -9223372036854775808≤x∧x≤9223372036854775807
structure NdAt (w:World) (B b o:Nat) (x:Nd):Prop where
 kind:w.cell? ⟨b,o,none⟩=some (.int .i64 x.kind)
 lit:w.cell? ⟨b,o+1,none⟩=some (.int .i64 x.lit)
 ins:∃ A c,w.cell? ⟨b,o+2,none⟩=some (.slice A x.ins.length c)∧Rd w B A x.ins.length (zO x.ins)
 rk:zT x.kind
 rl:zT x.lit
 ri:∀ i∈x.ins,zT i
 len:x.ins.length≤140737488355328
def NtAt (w:World) (B:Nat) (A:Option Addr) (L:List Nd):Prop :=
 0<L.length→∃ b o,A=some ⟨b,o,none⟩∧b<B∧∀ i (h:i<L.length),NdAt w B b (o+i*3) L[i]
section
variable {w w':World} {B B' b o:Nat} {x:Nd} {A:Option Addr} {L:List Nd}
theorem NdAt.below (h:NdAt w B b o x) (hb:Below B w w') (hB:b<B):NdAt w' B b o x :=
 ⟨zB hb hB h.kind,zB hb hB h.lit,(let ⟨A,c,h1,h2⟩:=h.ins;⟨A,c,zB hb hB h1,h2.below hb⟩),h.rk,h.rl,h.ri,h.len⟩
theorem NdAt.more (h:NdAt w B b o x) (hB:B≤B'):NdAt w B' b o x :=
 ⟨h.kind,h.lit,(let ⟨A,c,h1,h2⟩:=h.ins;⟨A,c,h1,h2.more hB⟩),h.rk,h.rl,h.ri,h.len⟩
theorem NtAt.below (h:NtAt w B A L) (hb:Below B w w'):NtAt w' B A L:=fun hn=>by
 obtain ⟨b,o,e,hB,hc⟩:=h hn;exact ⟨b,o,e,hB,fun i hi=>(hc i hi).below hb hB⟩
theorem NtAt.more (h:NtAt w B A L) (hB:B≤B'):NtAt w B' A L:=fun hn=>by
 obtain ⟨b,o,e,hb,hc⟩:=h hn;exact ⟨b,o,e,by omega,fun i hi=>(hc i hi).more hB⟩
end
def qk (x:Nd) (n before:Int):Bool :=
 if x.ins.any (fun i=>decide (i<0)||decide (before≤i)) then false
 else if x.kind=0∨x.kind=1 then decide (x.lit=0)&&decide (x.ins.length=0)
 else if x.kind=2 then qh x.lit n&&decide (x.ins.length=0)
 else if x.kind=3∨x.kind=4 then decide (x.lit=0) else false
def qR (n:Int):Nat→List Nd→Bool
 | _,[]=>true
 | i,x::xs=>qk x n i&&qR n (i+1) xs
theorem zdm (n:Int) (x:Nd):∀ (i:Nat) (xs:List Nd),qR n i (xs++[x])=(qR n i xs&&qk x n ((i+xs.length:Nat):Int))
 | i,[]=>by simp [qR]
 | i,y::ys=>by
   have e:i+1+ys.length=i+(ys.length+1):=by omega
   simp only [List.cons_append,qR,zdm n x (i+1) ys,Bool.and_assoc,List.length_cons,e]
theorem zbN (n:Int) (xs:List Nd) (k:Nat) (h:k<xs.length):qR n 0 (xs.take (k+1))=(qR n 0 (xs.take k)&&qk xs[k] n (k:Int)):=by
 rw [List.take_succ_eq_append_getElem h,zdm];have:(xs.take k).length=k:=by simp;omega
 rw [this,Nat.zero_add]
theorem zcS (n:Int) (xs:List Nd):∀ k,qR n 0 xs=true→qR n 0 (xs.take k)=true:=by
 have key:∀ (xs:List Nd) (i k:Nat),qR n i xs=true→qR n i (xs.take k)=true:=by
  intro xs
  induction xs with
  | nil=>intro i k _;simp [qR]
  | cons x xs ih =>
    intro i k h;cases k with
    | zero=>simp [qR]
    | succ k =>
      simp only [qR,List.take_succ_cons,Bool.and_eq_true] at h ⊢;exact ⟨h.1,ih _ _ h.2⟩
 exact fun k h=>key xs 0 k h
def zG (N:Nt):Bool:=decide (0≤N.n∧N.n≤128∧1≤N.l.length∧N.l.length≤65536)&&qR N.n 0 N.l
theorem jn {N:Nt} (h:zG N=true) (k:Nat) (hk:k<N.l.length):qk N.l[k] N.n (k:Int)=true:=by
 unfold zG at h;have h1:=zcS N.n N.l (k+1) (by simp at h;exact h.2);rw [zbN _ _ _ hk] at h1;simp at h1;exact h1.2
theorem qN {N:Nt} (h:zG N=true):0≤N.n∧N.n≤128∧1≤N.l.length∧N.l.length≤65536:=by
 unfold zG at h;simp at h;exact h.1
end Cs
end
end
section
set_option maxRecDepth 100000
set_option maxHeartbeats 400000
section
open Go Go.RowKit Cs
namespace Go.Proofs.YtmhllppjcilllaaGreatDoor
abbrev zN (V:Nat):Value:=.agg #[.string (za V)]
theorem zd7:(Tryz.prog.info? 31).map (·.size)=some 1:=by kernel_rfl
theorem pZ {fn:Func} {R:Ending→World→Prop} {a:Act} {w:World} {p:Tmp} (h:fn.results=#[.cell p 31]) {g:Nat} {t:TypeId} (s:ByteArray)
  (hp:a.tmps.getD p undef = .pointer (some ⟨g,0,none⟩)) (hrow:w.rowIs g t 1 fun _=>.string s) (hdf:a.defers=[]) (hR:R (.returned (.agg #[.string s])) w):bodyPost Tryz.prog fn R .ret a w :=
 zdX h g t 1 _ hp hrow _ Tryz.underlying31 rfl zd7 hdf hR
theorem zea:(Tryz.prog.info? 5).map (fun i=>(i.zero,i.size,i.bytes))=some (some (.int .u8 0),1,1):=by kernel_rfl
theorem zjz:(Tryz.prog.info? 124).map (fun i=>(i.zero,i.size,i.bytes))=some (some (.int .u32 0),1,4):=by kernel_rfl
theorem zgg:(Tryz.prog.info? 124).map (·.size)=some 1:=by kernel_rfl
theorem mk_u8 (n:Nat) (h:n≤1000000000) (u:World):(Instr.makeSlice 139 (.int .i64 (n:Int)) (.int .i64 (n:Int))).run Tryz.prog u =
  .ok (.slice (some ⟨u.heap.size,0,none⟩) n n) (u.alloc (.cells (madeCells #[.int .u8 0] n) 5)):=by
 obtain ⟨i0,hi,hz0,hz1,hz2⟩:=info_parts zea;exact run_make_row 139 5 i0 (.int .u8 0) Tryz.underlying139 hi hz0 hz1 rfl .i64 .i64 n (by rw [hz2];omega) (by omega) u
theorem zeZ (n:Nat) (h:n≤1000000000) (u:World):(Instr.makeSlice 123 (.int .i64 (n:Int)) (.int .i64 (n:Int))).run Tryz.prog u =
  .ok (.slice (some ⟨u.heap.size,0,none⟩) n n) (u.alloc (.cells (madeCells #[.int .u32 0] n) 124)):=by
 obtain ⟨i0,hi,hz0,hz1,hz2⟩:=info_parts zjz;exact run_make_row 123 124 i0 (.int .u32 0) Tryz.underlying123 hi hz0 hz1 rfl .i64 .i64 n (by rw [hz2];omega) (by omega) u
theorem zfs (n V:Nat) (hn:n=n8 V):strOfNums ((List.range n).map fun i=>(ql V i:Int))=za V:=by
 subst hn;unfold strOfNums za;rw [List.map_map];rfl
theorem conv_nat (w:World) (g n cap V:Nat) (hn:n=n8 V) (h:∀ i,i<n→w.cell? ⟨g,i,none⟩=some (.int .u8 (ql V i))) :
  (convert 139 9 (.slice (some ⟨g,0,none⟩) n cap)).run Tryz.prog w = .ok (.string (za V)) w:=by
 rw [← zfs n V hn];refine run_convert_bytes_arg (P:=Tryz.prog) w 139 5 Tryz.underlying139 Tryz.underlying5 g 0 n cap ((List.range n).map fun i=>(ql V i:Int)) (by simp)
  (fun i hi=>?_) 9 Tryz.underlying9
 rw [Nat.zero_add,h i hi];simp only [List.getD,List.getElem?_map,List.getElem?_range hi,Option.map_some,Option.getD_some]
theorem zbX (w:World) (b n cap V:Nat) (hb:n≤10000000)
  (hc0:∀ i,i<n→w.cell? ⟨b,i,none⟩=some (.int .u32 (wd V i))) (hbl:b<w.heap.size) (hV:nw V≤n) :
   Calls Tryz.prog 74 #[.slice (some ⟨b,0,none⟩) n cap] w fun e w'=>e = .returned (zN V)∧Below w.heap.size w w':=by
 have hmk:=mk_u8 (4*n) (by omega);rw [Int.natCast_mul] at hmk;simp only [Int.cast_ofNat_Int] at hmk;have HC:=zb hc0;clear hc0;go_enter Tryz.func74, Tryz.ntmps74;go_wp2;go_loopw [12] (fun t wr=>∃ k:Nat,k≤4*n∧t = .int .i64 k∧wr.rowIs w.heap.size 31 1 (fun _=>.string ⟨#[]⟩)∧wr.rowIs (w.heap.size+1) 5 (4*n) (fun j=>.int .u8 (if j<k then ql V j else 0))∧Below w.heap.size w wr) (fun t _=>4*n-(intOf t).toNat)
 case atStart =>
  exact ⟨0,by omega,rfl,(qF _ _ _ _ rfl).alloc _,pS _ _ _ _ _ (by simp) (fun i _=>by simp),((zx _ _).alloc (zu _) _).alloc (by simp) _⟩
 case round =>
  obtain ⟨k,hk,rfl,hbox,hrow,hbel⟩:=hrel;by_cases hlt:k<4*n
  ·have hc1:=hrow.cell hlt;have hf1:=hrow.frozen k;have hc2:wr.cell? ⟨b,k/4,none⟩=some (.int .u32 (wd V (k/4))):=zB hbel hbl (HC.out _ (by omega));have hwl:=qz V (k/4);go_wp2;go_roundw
   case rel =>
    refine ⟨k+1,by omega,by go_num,hbox.setOther (by simp) _,?_,hbel.setCell (by simp) _⟩;refine (hrow.set k _).congr fun i hi=>?_;have hbw:=zhE V k;split
    ·subst i;rw [if_pos (by omega),← hbw];simp
    ·by_cases h:i<k
     ·rw [if_pos h,if_pos (by omega)]
     ·rw [if_neg h,if_neg (by omega)]
   case measure=>simp [intOf];omega
  ·obtain rfl:k=4*n:=by omega
   replace hrow:=hrow.congr (g:=fun j=>.int .u8 (ql V j)) (fun i hi=>by rw [if_pos hi]);have hgt:¬ ((4*n:Nat):Int)<4*(n:Int):=by omega
   have hb1:=zV hbox;have hb2:=hbox.frozen 0;go_wp2
   go_loop [5] (fun t=>∃ m:Nat,m≤4*n∧t = .int .i64 m∧Hid (∀ i,m≤i→ql V i=0)) (fun t=>(intOf t).toNat)
   case atStart =>
    refine ⟨4*n,by omega,by simp,fun i hi=>by8_ge V i ?_⟩;unfold nw at hV;omega
   case round =>
    obtain ⟨m,hm,rfl,hz⟩:=hrel;have fin:(m=0∨ql V (m-1)≠0)→m=n8 V:=zkz V m hz.out;have hcv:=fun hm8=>conv_nat wr (w.heap.size+1) m (4*n) V hm8 (fun i hi=>hrow.cell (by omega));rcases Nat.eq_zero_or_pos m with h0 | h0
    ·replace hcv:=hcv (fin (.inl h0));clear fin;subst h0;go_wp2;exact pZ rfl _ rfl (qZ hbox _) rfl ⟨rfl,hbel.setCell (zu _) _⟩
    ·have hc:=hrow.cell (i:=m-1) (by omega);by_cases hb0:ql V (m-1)=0
     ·have hb1:((ql V (m-1):Int)==0)=true:=by simp [hb0]
      have HB:=zb hb0;clear hb0 hcv fin;go_wp2
      go_round
      case rel =>
       refine ⟨m-1,by omega,by go_num,fun i hi=>?_⟩;rcases Nat.eq_or_lt_of_le hi with e | e
       ·rw [← e];exact HB.out
       ·exact hz.out i (by omega)
      case measure=>simp [intOf];omega
     ·replace hcv:=hcv (fin (.inr hb0));clear fin;have hb1:((ql V (m-1):Int)==0)=false:=by simp;omega
      go_wp2;exact pZ rfl _ rfl (qZ hbox _) rfl ⟨rfl,hbel.setCell (zu _) _⟩
theorem o5 (w:World) (V:Nat) (hV:n8 V≤10000000) :
  Calls Tryz.prog 78 #[zN V] w fun e w'=>e = .returned (.slice (some ⟨w.heap.size+1,0,none⟩) (nw V) (nw V)) ∧
   w'.rowIs (w.heap.size+1) 124 (nw V) (fun i=>.int .u32 (wd V i))∧Below w.heap.size w w':=by
 have hmk:=zeZ (nw V) (by unfold nw;omega);have hs:=zb0 V;have hg:=zcZ V;have hle:(za V).size≤10000000:=by omega
 show Calls _ _ #[.agg #[.string (za V)]] _ _;generalize za V=s at *
 have Hs:=zb hs;clear hs;have Hg:=zb hg;clear hg;have hq:((s.size:Int)+3) / 4=(nw V:Int):=by have:=Hs.out;unfold nw;omega
 have hq1:nw V≤s.size:=by have:=Hs.out;unfold nw;omega
 have hq2:s.size≤4*nw V:=by have:=Hs.out;unfold nw;omega
 go_enter Tryz.func78, Tryz.ntmps78;go_wp2;clear hq;go_loopw [14] (fun t wr=>∃ k:Nat,k≤s.size∧t = .int .i64 k∧wr.rowIs w.heap.size 31 1 (fun _=>.string s)∧wr.rowIs (w.heap.size+1) 124 (nw V) (fun j=>.int .u32 (wd (V%2^(8*k)) j))∧Below w.heap.size w wr) (fun t _=>s.size-(intOf t).toNat)
 case atStart =>
  refine ⟨0,by omega,rfl,(qF _ _ _ _ rfl).alloc _,pS _ _ _ _ _ (by simp) (fun i _=>?_),((zx _ _).alloc (zu _) _).alloc (by simp) _⟩;simp [wd,Nat.mod_one]
 case round =>
  obtain ⟨k,hk,rfl,hbox,hrow,hbel⟩:=hrel;by_cases hlt:k<s.size
  ·have hk4:k / 4<nw V:=by have:=Hs.out;unfold nw;omega
   have hc0:=zV hbox;have hc1:=hrow.cell hk4;have hf1:=hrow.frozen (k / 4);have hwl:=qz (V%2^(8*k)) (k/4);go_wp2
   go_region
   go_wp2;have hval:bits BinOp.or IntKind.u32 (↑(wd (V%2^(8*k)) (k / 4))) ((s[k].toNat:Int)%4294967296*2^(8*(k%4))%4294967296)=((wd (V%2^(8*(k+1))) (k / 4):Nat):Int):=by
    rw [Hg.out k hlt,← word_or];have hb:=zjA V k;have e:((ql V k:Nat):Int)%4294967296*2^(8*(k%4))%4294967296=((ql V k*2^(8*(k%4))%4294967296:Nat):Int):=by
     have e0:((ql V k:Nat):Int)%4294967296=ql V k:=Int.emod_eq_of_lt (by omega) (by omega);rw [e0];simp
    rw [e,u32_or_nat _ _ hwl (Nat.mod_lt _ (by decide))]
   rw [hval];go_roundw
   case rel =>
    refine ⟨k+1,by omega,by go_num,(hbox.setOther (by simp) _).drew,?_,(hbel.setCell (by simp) _).drew⟩;refine ((hrow.set _ _).congr fun i hi=>?_).drew;split
    ·subst i;rfl
    ·rename_i h;rw [zjK V k i h]
   case measure=>simp [intOf];omega
  ·obtain rfl:k=s.size:=by omega
   go_wp2;go_ret;refine ⟨rfl,hrow.congr fun i hi=>?_,hbel⟩;rw [Hs.out,mod_n8]
theorem pT (w:World) (V:Nat) (hV:n8 V≤10000000) :
  Calls Tryz.prog 78 #[zN V] w fun e w'=>∃ g,w.heap.size≤g∧e = .returned (.slice (some ⟨g,0,none⟩) (nw V) (nw V)) ∧
   w'.rowIs g 124 (nw V) (fun i=>.int .u32 (wd V i))∧Below w.heap.size w w' :=
 (o5 w V hV).mono fun _ _ ⟨h1,h2,h3⟩=>⟨_,by omega,h1,h2,h3⟩
theorem zhs (w:World) (n:Nat) (hn:n<18446744073709551616) :
  Calls Tryz.prog 34 #[.int .u64 n] w fun e w'=>e = .returned (zN n)∧Below w.heap.size w w':=by
 have H:Hid (n<18446744073709551616):=zb hn;clear hn;go_enter Tryz.func34, Tryz.ntmps34;go_wp2_with fail
 refine (zbX _ _ 2 2 n (by omega) (fun i hi=>?_) (by simp) ?_).mono ?_
 ·have e:i=0∨i=1:=by omega
  rcases e with rfl | rfl
  ·go_simp;simp [wd]
  ·go_simp;simp [wd]
 ·rw [q8];exact H.out
 rintro e w1 ⟨rfl,hb1⟩;have hbx:=zo ((qF w (.string ⟨#[]⟩) 31 _ rfl).alloc _) hb1;have hc:=zV hbx;have hf:=hbx.frozen 0;go_wp2;exact pZ rfl _ rfl (qZ hbx _) rfl ⟨rfl,((((zx _ _).alloc (zu _) _).alloc (by simp) _).trans (hb1.mono (by simp;omega))).setCell (zu _) _⟩
end Go.Proofs.YtmhllppjcilllaaGreatDoor
end
section
open Go Go.RowKit Cs
namespace Go.Proofs.YtmhllppjcilllaaGreatDoor
theorem add_ge (w:World) (a b:Nat) (ha:n8 a≤1000000) (hb:n8 b≤1000000) (hab:nw b≤nw a) :
  Calls Tryz.prog 71 #[zN a,zN b] w fun e w'=>e = .returned (zN (a+b))∧Below w.heap.size w w':=by
 go_enter Tryz.func71, Tryz.ntmps71;go_wp2_with fail
 go_region_held3 (fun w'=>w'.cell? ⟨w.heap.size,0,none⟩=some (.string (za a))∧w'.cell? ⟨w.heap.size+1,0,none⟩=some (.string (za b)))
  (first | go_keep | exact ⟨hk3,hk4⟩ | exact ⟨hk1,hk2⟩)
  (first
    | ((go_at_call 78;(with_reducible refine (pT _ a (by omega)).mono ?_);rintro e w1 ⟨g1,hg1,rfl,hr1,hb1⟩;simp at hg1
        have hk1:w1.cell? ⟨w.heap.size,0,none⟩=some (.string (za a)):=(hb1.cell (p:=⟨w.heap.size,0,none⟩) (by simp;omega)).trans (by go_simp);have hk2:w1.cell? ⟨w.heap.size+1,0,none⟩=some (.string (za b)):=(hb1.cell (p:=⟨w.heap.size+1,0,none⟩) (by simp)).trans (by go_simp)))
    | ((go_at_call 78;(with_reducible refine (pT _ b (by omega)).mono ?_);rintro e w2 ⟨g2,hg2,rfl,hr2,hb2⟩
        have hk3:w2.cell? ⟨w.heap.size,0,none⟩=some (.string (za a)):=(hb2.cell (p:=⟨w.heap.size,0,none⟩) (by have:=hb1.size;simp at this ⊢;omega)).trans hk1;have hk4:w2.cell? ⟨w.heap.size+1,0,none⟩=some (.string (za b)):=(hb2.cell (p:=⟨w.heap.size+1,0,none⟩) (by have:=hb1.size;simp at this ⊢;omega)).trans hk2)))
 have hz1:=hb1.size;simp at hz1;have hz2:=hb2.size;have hlt1:=hr1.lt;have hlt2:=hr2.lt;replace hr1:=zo hr1 hb2;have hbox:w2.rowIs (w.heap.size+1+1) 31 1 fun _=>.string ⟨#[]⟩:=zo (zo (qF ((w.alloc _).alloc _) _ _ _ (by simp)).drew hb1) hb2;have hbel:Below w.heap.size w w2:=((((((zx _ _).alloc (zu _) _).alloc (by simp) _).alloc (by simp;omega) _).drew).trans (hb1.mono (by simp;omega))).trans (hb2.mono (by omega));clear hb1 hb2 hk1 hk2 hk3 hk4;have hmk:=zeZ (nw a+1) (by unfold nw;omega);rw [Int.natCast_succ] at hmk;have hna:nw a≤1000000:=by unfold nw;omega
 have hnb:nw b≤1000000:=by unfold nw;omega
 have hrow0:(w2.alloc (.cells (madeCells #[.int .u32 0] (nw a+1)) 124)).rowIs w2.heap.size 124 (nw a+1) (fun _=>.int .u32 0):=pS _ _ _ _ _ rfl fun _ _=>rfl;have hsrc:∀ j,j<nw b→(w2.alloc (.cells (madeCells #[.int .u32 0] (nw a+1)) 124)).cell? ⟨g2,0+j,none⟩=some (.int .u32 (wd b j)):=fun j hj=>by
  rw [Nat.zero_add];exact (hr2.alloc _).cell hj
 have Hsrc:=zb hsrc;clear hsrc;go_wp2_with ((with_reducible refine zca rfl (.tmp 25) (.tmp 26) 123 123 rfl 124 Tryz.underlying123 zgg w2.heap.size (nw a+1) (nw a+1) (nw b) (nw b) (some ⟨g2,0,none⟩) rfl rfl 124 (nw a+1) _ hrow0 (by omega) (by omega) (fun i=>.int .u32 (wd b i)) ?c1 ?c2 ?_);rotate_left;rotate_left;intro w3 hr3 hg3)
 case c1=>exact fun _=>⟨g2,0,rfl,Hsrc.out⟩
 case c2=>exact fun _ _=>rfl
 have hr1':=jl (hr1.alloc _) hg3 (by simp;omega);have hbox':=jl (hbox.alloc _) hg3 (by simp;omega);have hbel':=(hbel.alloc (by omega) _).grown hg3 (by simp;omega) (fun k e=>by cases e;omega);have hr3':=hr3.congr (g:=fun i=>.int .u32 (wd b i)) fun i _=>by
  split
  ·rfl
  ·rw [jh b i (by omega)];rfl
 have hw3:w2.heap.size<w3.heap.size:=hr3.lt;clear hr1 hr2 hbox hbel hr3 hg3 hrow0 Hsrc hmk;go_loopw [8,30] (fun c t wr=>∃ k:Nat,k≤nw a∧t = .int .i64 k∧c = .int .u64 (cr a b k)∧wr.rowIs (w.heap.size+1+1) 31 1 (fun _=>.string ⟨#[]⟩) ∧
   wr.rowIs g1 124 (nw a) (fun i=>.int .u32 (wd a i))∧wr.rowIs w2.heap.size 124 (nw a+1) (fun i=>.int .u32 (if i<k then wd (a+b) i else wd b i))∧Below w.heap.size w wr)
  (fun _ t _=>nw a-(intOf t).toNat)
 case atStart=>exact ⟨0,by omega,rfl,by rw [zgC];rfl,hbox',hr1',hr3'.congr fun i _=>by simp,hbel'⟩
 case round =>
  clear hr1' hbox' hbel' hr3';obtain ⟨k,hk,rfl,rfl,hbox,hr1,hr3,hbel⟩:=hrel;have hcr:=jd a b k;by_cases hlt:k<nw a
  ·have hc1:=hr1.cell hlt;have hc3:=hr3.cell (i:=k) (by omega);rw [if_neg (Nat.lt_irrefl k)] at hc3;have hf3:=hr3.frozen k;have hwa:=qz a k;have hwb:=qz b k;go_wp2
   go_quiet (fail)
   go_wp2;have e1:((cr a b k:Int)+((wd b k:Int)+(wd a k:Int))) / 4294967296=((cr a b (k+1):Nat):Int):=by rw [← zgD];simp
   have e2:((cr a b k:Int)+((wd b k:Int)+(wd a k:Int)))%4294967296=((wd (a+b) k:Nat):Int):=by rw [← zdx];simp
   rw [e1,e2];go_roundw
   case rel =>
    refine ⟨k+1,by omega,by go_num,rfl,(qT hbox _).setOther (by simp;omega) _,(qT hr1 _).setOther (by simp;omega) _,?_,(qV hbel _).setCell (by simp;omega) _⟩;refine ((qT hr3 _).set _ _).congr fun i hi=>?_;split
    ·subst i;rw [if_pos (by omega)]
    ·by_cases h:i<k
     ·rw [if_pos h,if_pos (by omega)]
     ·rw [if_neg h,if_neg (by omega)]
   case measure=>simp [intOf];omega
  ·obtain rfl:k=nw a:=by omega
   have hc3:=hr3.cell (i:=nw a) (by omega);have hf3:=hr3.frozen (nw a);have hr4:=(hr3.set (nw a) (.int .u32 (cr a b (nw a)))).congr (g:=fun i=>.int .u32 (wd (a+b) i)) fun i hi=>by
    have hw:=zdx a b (nw a);rw [jh a _ (zu _),jh b _ hab] at hw;split
    ·subst i;congr 1;omega
    ·rw [if_pos (by omega)]
   have hbox4:=hbox.setOther (a:=⟨w2.heap.size,nw a,none⟩) (by simp;omega) (.int .u32 (cr a b (nw a)));have hbel4:=hbel.setCell (p:=⟨w2.heap.size,nw a,none⟩) (by simp;omega) (.int .u32 (cr a b (nw a)));go_wp2_with fail
   refine (zbX _ _ (nw a+1) (nw a+1) (a+b) (by omega) (fun i hi=>hr4.cell hi) hr4.lt ?_).mono ?_
   ·have:=zhy a b;unfold nw at hab ⊢;omega
   rintro e w5 ⟨rfl,hb5⟩;have hbx:=zo hbox4 hb5;have hc:=zV hbx;have hf:=hbx.frozen 0;go_wp2;exact pZ rfl _ rfl (qZ hbx _) rfl ⟨rfl,(hbel4.trans (hb5.mono (by have:=hbel4.size;omega))).setCell (by simp;omega) _⟩
theorem add_lt (w:World) (a b:Nat) (ha:n8 a≤1000000) (hb:n8 b≤1000000) (hab':nw a<nw b) :
  Calls Tryz.prog 71 #[zN a,zN b] w fun e w'=>e = .returned (zN (a+b))∧Below w.heap.size w w':=by
 go_enter Tryz.func71, Tryz.ntmps71;go_wp2_with fail
 go_region_held3 (fun w'=>w'.cell? ⟨w.heap.size,0,none⟩=some (.string (za a))∧w'.cell? ⟨w.heap.size+1,0,none⟩=some (.string (za b)))
  (first | go_keep | exact ⟨hk3,hk4⟩ | exact ⟨hk1,hk2⟩)
  (first
    | ((go_at_call 78;(with_reducible refine (pT _ a (by omega)).mono ?_);rintro e w1 ⟨g1,hg1,rfl,hr1,hb1⟩;simp at hg1
        have hk1:w1.cell? ⟨w.heap.size,0,none⟩=some (.string (za a)):=(hb1.cell (p:=⟨w.heap.size,0,none⟩) (by simp;omega)).trans (by go_simp);have hk2:w1.cell? ⟨w.heap.size+1,0,none⟩=some (.string (za b)):=(hb1.cell (p:=⟨w.heap.size+1,0,none⟩) (by simp)).trans (by go_simp)))
    | ((go_at_call 78;(with_reducible refine (pT _ b (by omega)).mono ?_);rintro e w2 ⟨g2,hg2,rfl,hr2,hb2⟩
        have hk3:w2.cell? ⟨w.heap.size,0,none⟩=some (.string (za a)):=(hb2.cell (p:=⟨w.heap.size,0,none⟩) (by have:=hb1.size;simp at this ⊢;omega)).trans hk1;have hk4:w2.cell? ⟨w.heap.size+1,0,none⟩=some (.string (za b)):=(hb2.cell (p:=⟨w.heap.size+1,0,none⟩) (by have:=hb1.size;simp at this ⊢;omega)).trans hk2)))
 have hz1:=hb1.size;simp at hz1;have hz2:=hb2.size;have hlt1:=hr1.lt;have hlt2:=hr2.lt;replace hr1:=zo hr1 hb2;have hbox:w2.rowIs (w.heap.size+1+1) 31 1 fun _=>.string ⟨#[]⟩:=zo (zo (qF ((w.alloc _).alloc _) _ _ _ (by simp)).drew hb1) hb2;have hbel:Below w.heap.size w w2:=((((((zx _ _).alloc (zu _) _).alloc (by simp) _).alloc (by simp;omega) _).drew).trans (hb1.mono (by simp;omega))).trans (hb2.mono (by omega));clear hb1 hb2 hk1 hk2 hk3 hk4;have hab:nw a≤nw b:=by omega
 have hmk:=zeZ (nw b+1) (by unfold nw;omega);rw [Int.natCast_succ] at hmk;have hnb:nw b≤1000000:=by unfold nw;omega
 have hna:nw a≤1000000:=by unfold nw;omega
 have hrow0:(w2.alloc (.cells (madeCells #[.int .u32 0] (nw b+1)) 124)).rowIs w2.heap.size 124 (nw b+1) (fun _=>.int .u32 0):=pS _ _ _ _ _ rfl fun _ _=>rfl;have hsrc:∀ j,j<nw a→(w2.alloc (.cells (madeCells #[.int .u32 0] (nw b+1)) 124)).cell? ⟨g1,0+j,none⟩=some (.int .u32 (wd a j)):=fun j hj=>by
  rw [Nat.zero_add];exact (hr1.alloc _).cell hj
 have Hsrc:=zb hsrc;clear hsrc;go_wp2_with ((with_reducible refine zca rfl (.tmp 25) (.tmp 26) 123 123 rfl 124 Tryz.underlying123 zgg w2.heap.size (nw b+1) (nw b+1) (nw a) (nw a) (some ⟨g1,0,none⟩) rfl rfl 124 (nw b+1) _ hrow0 (by omega) (by omega) (fun i=>.int .u32 (wd a i)) ?c1 ?c2 ?_);rotate_left;rotate_left;intro w3 hr3 hg3)
 case c1=>exact fun _=>⟨g1,0,rfl,Hsrc.out⟩
 case c2=>exact fun _ _=>rfl
 have hr2':=jl (hr2.alloc _) hg3 (by simp;omega);have hbox':=jl (hbox.alloc _) hg3 (by simp;omega);have hbel':=(hbel.alloc (by omega) _).grown hg3 (by simp;omega) (fun k e=>by cases e;omega);have hr3':=hr3.congr (g:=fun i=>.int .u32 (wd a i)) fun i _=>by
  split
  ·rfl
  ·rw [jh a i (by omega)];rfl
 have hw3:w2.heap.size<w3.heap.size:=hr3.lt;clear hr1 hr2 hbox hbel hr3 hg3 hrow0 Hsrc hmk;go_loopw [8,30] (fun c t wr=>∃ k:Nat,k≤nw b∧t = .int .i64 k∧c = .int .u64 (cr b a k)∧wr.rowIs (w.heap.size+1+1) 31 1 (fun _=>.string ⟨#[]⟩) ∧
   wr.rowIs g2 124 (nw b) (fun i=>.int .u32 (wd b i))∧wr.rowIs w2.heap.size 124 (nw b+1) (fun i=>.int .u32 (if i<k then wd (b+a) i else wd a i))∧Below w.heap.size w wr)
  (fun _ t _=>nw b-(intOf t).toNat)
 case atStart=>exact ⟨0,by omega,rfl,by rw [zgC];rfl,hbox',hr2',hr3'.congr fun i _=>by simp,hbel'⟩
 case round =>
  clear hr2' hbox' hbel' hr3';obtain ⟨k,hk,rfl,rfl,hbox,hr2,hr3,hbel⟩:=hrel;have hcr:=jd b a k;by_cases hlt:k<nw b
  ·have hc1:=hr2.cell hlt;have hc3:=hr3.cell (i:=k) (by omega);rw [if_neg (Nat.lt_irrefl k)] at hc3;have hf3:=hr3.frozen k;have hwa:=qz b k;have hwb:=qz a k;go_wp2
   go_quiet (fail)
   go_wp2;have e1:((cr b a k:Int)+((wd a k:Int)+(wd b k:Int))) / 4294967296=((cr b a (k+1):Nat):Int):=by rw [← zgD];simp
   have e2:((cr b a k:Int)+((wd a k:Int)+(wd b k:Int)))%4294967296=((wd (b+a) k:Nat):Int):=by rw [← zdx];simp
   rw [e1,e2];go_roundw
   case rel =>
    refine ⟨k+1,by omega,by go_num,rfl,(qT hbox _).setOther (by simp;omega) _,(qT hr2 _).setOther (by simp;omega) _,?_,(qV hbel _).setCell (by simp;omega) _⟩;refine ((qT hr3 _).set _ _).congr fun i hi=>?_;split
    ·subst i;rw [if_pos (by omega)]
    ·by_cases h:i<k
     ·rw [if_pos h,if_pos (by omega)]
     ·rw [if_neg h,if_neg (by omega)]
   case measure=>simp [intOf];omega
  ·obtain rfl:k=nw b:=by omega
   have hc3:=hr3.cell (i:=nw b) (by omega);have hf3:=hr3.frozen (nw b);have hr4:=(hr3.set (nw b) (.int .u32 (cr b a (nw b)))).congr (g:=fun i=>.int .u32 (wd (b+a) i)) fun i hi=>by
    have hw:=zdx b a (nw b);rw [jh b _ (zu _),jh a _ hab] at hw;split
    ·subst i;congr 1;omega
    ·rw [if_pos (by omega)]
   have hbox4:=hbox.setOther (a:=⟨w2.heap.size,nw b,none⟩) (by simp;omega) (.int .u32 (cr b a (nw b)));have hbel4:=hbel.setCell (p:=⟨w2.heap.size,nw b,none⟩) (by simp;omega) (.int .u32 (cr b a (nw b)));go_wp2_with fail
   refine (zbX _ _ (nw b+1) (nw b+1) (b+a) (by omega) (fun i hi=>hr4.cell hi) hr4.lt ?_).mono ?_
   ·have:=zhy b a;unfold nw at hab ⊢;omega
   rintro e w5 ⟨rfl,hb5⟩;have hbx:=zo hbox4 hb5;have hc:=zV hbx;have hf:=hbx.frozen 0;go_wp2;exact pZ rfl _ rfl (qZ hbx _) rfl ⟨by rw [Nat.add_comm],(hbel4.trans (hb5.mono (by have:=hbel4.size;omega))).setCell (by simp;omega) _⟩
theorem oG (w:World) (a b:Nat) (ha:n8 a≤1000000) (hb:n8 b≤1000000) :
  Calls Tryz.prog 71 #[zN a,zN b] w fun e w'=>e = .returned (zN (a+b))∧Below w.heap.size w w':=by
 rcases Nat.lt_or_ge (nw a) (nw b) with h | h
 ·exact add_lt w a b ha hb h
 ·exact add_ge w a b ha hb h
end Go.Proofs.YtmhllppjcilllaaGreatDoor
end
end
