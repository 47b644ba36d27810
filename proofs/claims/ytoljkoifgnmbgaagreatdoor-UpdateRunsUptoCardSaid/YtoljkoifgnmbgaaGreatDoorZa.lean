import Derived.Test.YtoljkoifgnmbgaaGreatDoorTe
import Derived.Test.YtoljkoifgnmbgaaGreatDoorDw
import Derived.WalkMore
import Derived.Maps.AppendAt
import Derived.OneCell
set_option linter.unusedSimpArgs false
set_option linter.unusedVariables false
set_option maxRecDepth 100000
set_option maxHeartbeats 4000000
open Go Go.RowKit Cs
namespace Cs
def qW (L:List ByteArray) (i:Nat):Value:=.string (L.getD i ⟨#[]⟩)
theorem zkb (L:List Pr) (k:Nat):(List.range ((k+1)*2)).map (zT L)=(List.range (k*2)).map (zT L)++[.string (zb (L.getD k (0,0)).1),.string (zb (L.getD k (0,0)).2)]:=by
 rw [show (k+1)*2=k*2+1+1 by omega,List.range_succ,List.range_succ];simp [jB,jC]
theorem setRow0 {w:World} {g:Nat} {t:TypeId} {x y:Value} (h:w.rowIs g t 2 (zE #[x,y])) (u:Value):(w.setCell ⟨g,0,none⟩ u).rowIs g t 2 (zE #[u,y]) :=
 (h.set 0 u).congr fun i hi=>by
  have:i=0∨i=1:=by omega
  rcases this with rfl | rfl <;> rfl
theorem setRow1 {w:World} {g:Nat} {t:TypeId} {x y:Value} (h:w.rowIs g t 2 (zE #[x,y])) (u:Value):(w.setCell ⟨g,1,none⟩ u).rowIs g t 2 (zE #[x,u]) :=
 (h.set 1 u).congr fun i hi=>by
  have:i=0∨i=1:=by omega
  rcases this with rfl | rfl <;> rfl
theorem zfD {w:World} {base n c:Nat} {e:TypeId} {a:Option Addr} {f:Nat→Value} (h:w.ownsRow base e 2 (.slice a n c) n ((List.range (n*2)).map f)):n≤c∧Rd w w.heap.size a (n*2) f:=by
 rcases Nat.eq_zero_or_pos n with h0 | h0
 ·exact ⟨by omega,fun h=>absurd h (by omega)⟩
 ·obtain ⟨g,cap,F,e1,hg,hlt,hc,hr,hf⟩:=zeW h h0;injection e1 with e2 e3 e4;subst e2;subst e4;refine ⟨hc,fun _=>⟨g,0,rfl,hlt,fun i hi=>?_⟩⟩;have:=hf i hi;have e5:((List.range (n*2)).map f)[i]?=some (f i):=by simp [hi]
  rw [e5] at this;rw [Nat.zero_add,hr.cell (i:=i) (by omega)];exact this.symm
theorem zjl {w:World} {base n:Nat} {e:TypeId} {v:Value} {xs:List Value} (h:w.ownsRow base e 2 v n xs):∀ b,v.ownBlock=some b→b<w.heap.size:=fun b hb=>(h.lt b hb).2
end Cs
namespace Go.Proofs.YtoljkoifgnmbgaaGreatDoor
def okT (s:ByteArray):Prop:=(∃ q,rdO s=some q)∧s.size≤9
noncomputable def prT (s:ByteArray):Pr:=match rdO s with
 | some q=>(qn q,q.den)
 | none=>(0,0)
noncomputable def prL (L:List ByteArray):List Pr:=L.map prT
theorem zf7 (L:List ByteArray) (k:Nat) (hk:k<L.length):(prL L).getD k (0,0)=prT (L.getD k ⟨#[]⟩):=by
 unfold prL;rw [List.getD_eq_getElem?_getD,List.getElem?_map,List.getElem?_eq_getElem hk,List.getD_eq_getElem?_getD,List.getElem?_eq_getElem hk];rfl
def qx (L:List ByteArray) (k:Nat):Prop:=∀ i,i<k→okT (L.getD i ⟨#[]⟩)
theorem zkj {L:List ByteArray} {k:Nat} (h:qx L k) (h2:okT (L.getD k ⟨#[]⟩)):qx L (k+1):=fun i hi=>by
 rcases Nat.lt_or_ge i k with h3 | h3
 ·exact h i h3
 ·obtain rfl:i=k:=by omega
  exact h2
def WtsR (w:World) (lo hi:List ByteArray) (e:Ending) (w':World):Prop :=
 Below w.heap.size w w' ∧
 ((¬ (qx lo lo.length∧qx hi hi.length)∧∃ (Al Ah:Option Addr) (m k c d:Nat),e = .returned (.tuple #[jM Al Ah m k c d,.bool false])) ∨
  ((qx lo lo.length∧qx hi hi.length)∧∃ Al Ah cl ch,e = .returned (.tuple #[jM Al Ah lo.length hi.length cl ch,.bool (decide (lo.length≤140)&&decide (hi.length≤140))])∧lo.length≤cl∧hi.length≤ch ∧
    Rd w' w'.heap.size Al (lo.length*2) (zT (prL lo))∧Rd w' w'.heap.size Ah (hi.length*2) (zT (prL hi))))
def WtsO (w:World) (lo hi:List ByteArray) (e:Ending) (w':World):Prop :=
 WtsR w lo hi e w'∧(qx lo lo.length∧qx hi hi.length→∃ (Al Ah:Option Addr) (cl ch:Nat) (b:Bool) (S1 S:Nat),e = .returned (.tuple #[jM Al Ah lo.length hi.length cl ch,.bool b])∧w.heap.size≤S1∧S1≤S ∧
  w'.ownsRow S1 60 2 (.slice Al lo.length cl) lo.length ((List.range (lo.length*2)).map (zT (prL lo)))∧w'.ownsRow S 60 2 (.slice Ah hi.length ch) hi.length ((List.range (hi.length*2)).map (zT (prL hi))) ∧
  ∀ x,(Value.slice Al lo.length cl).ownBlock=some x→x<S)
theorem zgS {w:World} {lo hi:List ByteArray} {e:Ending} {w':World} (hn:¬ (qx lo lo.length∧qx hi hi.length)) (h:WtsR w lo hi e w'):WtsO w lo hi e w':=⟨h,fun hy=>absurd hy hn⟩
theorem twoStr {a b:ByteArray} (u:Value) (h:u∈[Value.string a,Value.string b]):u.oneCell'=true:=by
 simp at h;rcases h with rfl | rfl <;> rfl
theorem gZ {w:World} {g:Nat} {a b:Value} {t:TypeId} (hg:w.heap.size=g) (j:Nat) (u:Value) (h:([a,b]:List Value)[j]?=some u):(w.alloc (.cells #[a,b] t)).cell? ((⟨g,0,none⟩:Addr).add j)=some u:=by
 have hr:=zU w #[a,b] t g 2 hg rfl
 match j,h with
 | 0,h=>simp at h;subst h;exact hr.cell (i:=0) (by decide)
 | 1,h=>simp at h;subst h;exact hr.cell (i:=1) (by decide)
theorem zes {fn:Func} {R:Ending→World→Prop} {a:Act} {w:World} {p u:Tmp} (h:fn.results=#[.cell p 30,.tmp u]) {g:Nat} {t:TypeId} {x y b:Value}
  (hp:a.tmps.getD p undef = .pointer (some ⟨g,0,none⟩)) (hb:a.tmps.getD u undef=b) (hrow:w.rowIs g t 2 (zE #[x,y])) (hdf:a.defers=[]) (hR:R (.returned (.tuple #[.agg #[x,y],b])) w):bodyPost Tryz.prog fn R .ret a w:=by
 refine bodyPost_ret (v:=.tuple #[.agg #[x,y],b]) ?_ hdf hR;rw [results_cell_tmp h,hp];have hl:=run_loadVar_row (P:=Tryz.prog) w g t 30 _ (0,0) _ (gp hrow) Tryz.underlying30 rfl (by simpa using size_wts);simp [asAddr,Result.andThen,hl,hb];rfl
theorem ziU (w:World) (lo hi:List ByteArray) (A B:Option Addr) (ca cb:Nat) (hl1:lo.length≤1000000000000) (hl2:hi.length≤1000000000000)
  (hA:Rd w w.heap.size A lo.length (qW lo)) (hB:Rd w w.heap.size B hi.length (qW hi)) (hs1:∀ i,(lo.getD i ⟨#[]⟩).size≤maxLen) (hs2:∀ i,(hi.getD i ⟨#[]⟩).size≤maxLen) :
  Calls Tryz.prog 14 #[.slice A lo.length ca,.slice B hi.length cb] w (WtsO w lo hi):=by
 obtain ⟨i0,hi0,hz0,hz1,hz2⟩:=info_parts zhz;obtain ⟨ll,hll⟩:∃ n,lo.length=n:=⟨_,rfl⟩;obtain ⟨lh,hlh⟩:∃ n,hi.length=n:=⟨_,rfl⟩;rw [hll] at hA hl1 ⊢;rw [hlh] at hB hl2 ⊢;have HLL:=za hll;have HLH:=za hlh;have hr1:=fun W i=>zio W (lo.getD i ⟨#[]⟩) (hs1 i);have hr2:=fun W i=>zio W (hi.getD i ⟨#[]⟩) (hs2 i);have HR1:=za hr1;have HR2:=za hr2;have HA:=za hA;have HB:=za hB;have hbl:=((Below.refl w.heap.size w).alloc (zi _) (.cells #[.slice none 0 0,.slice none 0 0] 30)).alloc (by simp) (.cells #[.slice none 0 0,.slice none 0 0] 30);have hx4:=(zU w #[.slice none 0 0,.slice none 0 0] 30 w.heap.size 2 rfl rfl).alloc (.cells #[.slice none 0 0,.slice none 0 0] 30);have hx6:=zU (w.alloc (.cells #[.slice none 0 0,.slice none 0 0] 30)) #[.slice none 0 0,.slice none 0 0] 30 (w.heap.size+1) 2 (by simp) rfl;clear hr1 hr2 hA hB hs1 hs2 hll hlh;go_enter Tryz.func14, Tryz.ntmps14;go_wp2_with fail
 go_loopw [7] (fun v wr=>∃ (k:Nat) (au:Option Addr) (cu:Nat),k≤ll∧v = .int .i64 k∧Hid (qx lo k)∧wr.rowIs w.heap.size 30 2 (zE #[.slice none 0 0,.slice none 0 0])∧wr.rowIs (w.heap.size+1) 30 2 (zE #[.slice au k cu,.slice none 0 0]) ∧
   wr.ownsRow (w.heap.size+1+1) 60 2 (.slice au k cu) k ((List.range (k*2)).map (zT (prL lo)))∧Below w.heap.size w wr∧w.heap.size+1+1≤wr.heap.size) (fun v _=>ll-(intOf v).toNat)
 case atStart=>exact ⟨0,none,0,Nat.zero_le _,rfl,za (fun i hi=>by omega),hx4,hx6,World.ownsRow_nil _ _ _ _,hbl,by simp⟩
 case round =>
  clear hx4 hx6 hbl;obtain ⟨k,au,cu,hk,rfl,HK,hx4,hx6,hown,hbl,hsz⟩:=hrel;by_cases hlt:k<ll
  ·have hc:decide ((k:Int)<(ll:Int))=true:=decide_eq_true (by omega);obtain ⟨ba,oa,rfl,hba,hca⟩:=HA.out (by omega);have hcell:∀ W,Below w.heap.size w W→W.cell? ⟨ba,oa+k,none⟩=some (qW lo k):=fun W hb=>by
    have:=hb.cell (p:=⟨ba,oa+k,none⟩) hba;rw [this];exact hca k hlt
   unfold qW at hcell;have HRK:=za (fun W=>HR1.out W k);have hget:=zf7 lo k (by rw [HLL.out];exact hlt);unfold prT at hget;have hokk:okT (lo.getD k ⟨#[]⟩)↔(∃ q,rdO (lo.getD k ⟨#[]⟩)=some q)∧(lo.getD k ⟨#[]⟩).size≤9:=Iff.rfl;have hsn:=zkb (prL lo) k;generalize hs:lo.getD k ⟨#[]⟩=s at HRK hget hokk hcell;have HS:=za hs;have HCE:=za hcell;have c0:=hcell wr hbl;clear hca hcell hs;cases hq:rdO s with
   | none =>
     have hrk:=HRK.out;simp only [hq,roV,yX,rdV] at hrk;replace HRK:=za hrk;clear hrk;go_wp2_with fail
     refine (HRK.out _).mono ?_;rintro e w1 ⟨rfl,hb1⟩;have z1:=hb1.size;replace hx4:=(zh hx4 hb1).alloc (.cells #[.string (zb 0),.string (zb 0)] 60);replace hx6:=(zh hx6 hb1).alloc (.cells #[.string (zb 0),.string (zb 0)] 60);replace hbl:=(zu hbl hb1 hbl.size).alloc (by omega) (.cells #[.string (zb 0),.string (zb 0)] 60);have hno:¬ okT s:=fun h=>by obtain ⟨⟨q,h1⟩,_⟩:=hokk.1 h;rw [hq] at h1;cases h1
     have HNO:=za hno;clear hokk hget hsn hq hno;have d0:World.cell? _ ⟨w.heap.size,0,none⟩=some (.slice none 0 0):=hx4.cell (i:=0) (by omega);have d1:World.cell? _ ⟨w.heap.size,1,none⟩=some (.slice none 0 0):=hx4.cell (i:=1) (by omega);have f0:=hx4.frozen 0;have f1:=hx4.frozen 1;have e0:World.cell? _ ⟨w.heap.size+1,0,none⟩=some (.slice au k cu):=hx6.cell (i:=0) (by omega);have e1:World.cell? _ ⟨w.heap.size+1,1,none⟩=some (.slice none 0 0):=hx6.cell (i:=1) (by omega);go_wp2_with fail
     exact zes rfl rfl rfl (yH hx4 (.slice au k cu) (.slice none 0 0)) rfl (zgS (fun h=>HNO.out (by have:=h.1 k (by rw [HLL.out];exact hlt);rwa [HS.out] at this)) ⟨(hbl.setCell (zi _) _).setCell (zi _) _,.inl ⟨fun h=>HNO.out (by have:=h.1 k (by rw [HLL.out];exact hlt);rwa [HS.out] at this),_,_,_,_,_,_,rfl⟩⟩)
   | some q =>
     have hrk:=HRK.out;simp only [hq,roV,yX,rdV] at hrk;replace HRK:=za hrk;clear hrk;go_wp2_with fail
     refine (HRK.out _).mono ?_;rintro e w1 ⟨rfl,hb1⟩;have z1:=hb1.size;replace hx4:=(zh hx4 hb1).alloc (.cells #[.string (zb (qn q)),.string (zb q.den)] 60);replace hx6:=(zh hx6 hb1).alloc (.cells #[.string (zb (qn q)),.string (zb q.den)] 60);replace hbl:=(zu hbl hb1 hbl.size).alloc (by omega) (.cells #[.string (zb (qn q)),.string (zb q.den)] 60);have cs:=HCE.out _ hbl;by_cases h9:s.size≤9
     ·have g9:decide ((9:Int)<(s.size:Int))=false:=decide_eq_false (by omega);have hyes:okT s:=hokk.2 ⟨⟨q,hq⟩,h9⟩;have HYES:=za hyes;replace hown:=(yp hown hb1).alloc (.cells #[.string (zb (qn q)),.string (zb q.den)] 60);have hq8:=zcK w1 (qn q) q.den 60 w1.heap.size rfl;obtain ⟨q0,q1⟩:=qB hq8;simp only [hq] at hget;rw [hget] at hsn;have e0:World.cell? _ ⟨w.heap.size+1,0,none⟩=some (.slice au k cu):=hx6.cell (i:=0) (by omega);have e1:World.cell? _ ⟨w.heap.size+1,1,none⟩=some (.slice none 0 0):=hx6.cell (i:=1) (by omega);have hlt0:∀ b,(Value.slice au k cu).ownBlock=some b→(w.heap.size+1+1)≤b:=fun b hb=>(hown.lt b hb).1;have hnb:∀ b,b≤w.heap.size+1→(Value.slice au k cu).ownBlock≠some b:=fun b hb e=>by have:=hlt0 _ e;omega
      clear hokk hget hyes hq8 hq;go_wp2_with (
       at_builtin
       go_loud (refine wpList_append_own _ rfl _ _ 28 rfl (w.heap.size+1+1) 60 i0 (.agg #[.string ⟨#[]⟩,.string ⟨#[]⟩]) 2 32 Tryz.underlying28 hi0 hz0 hz1 hz2 rfl (by decide) _ _ _ rfl (hown.alloc _) ⟨w1.heap.size+1,0,none⟩ 1 1 [.string (zb (qn q)),.string (zb q.den)] ?qa0 rfl ?qa1 twoStr (by unfold maxLen;omega) (by omega) (by simp;omega) ?_)
       case qa0=>rfl
       case qa1=>exact gZ (by simp)
       intro v' w3 hown3 hgr3 _;obtain ⟨g3,c3,rfl,hg3,hg3l⟩:=yO hown3 (by omega);rw [← hsn] at hown3;have hng:(Value.slice (some ⟨g3,0,none⟩) (k+1) c3).ownBlock≠some (w.heap.size+1):=fun h=>by
        have:(w.heap.size+1+1)≤w.heap.size+1:=(hown3.lt _ h).1;omega
       have hx4':=yy (hx4.alloc _) hgr3 (fun e=>hnb _ (by omega) e.symm);have hx6':=yy (hx6.alloc _) hgr3 (fun e=>hnb _ (by omega) e.symm);have hbl3:=(hbl.alloc (by simp;omega) _).grown hgr3 (by simp;omega) (fun b e=>by have:=hlt0 b e;omega);have hsz3:=hx6'.lt;have k0:World.cell? w3 ⟨w.heap.size+1,0,none⟩=some (.slice au k cu):=hx6'.cell (i:=0) (by omega);have kf:=hx6'.frozen 0;clear hx4 hx6 hbl hown e0 e1 q0 q1 cs)
      go_roundw
      case rel=>exact ⟨k+1,some ⟨g3,0,none⟩,c3,by omega,by go_num,za (zkj HK.out (by rw [HS.out];exact HYES.out)),hx4'.setOther (by simp) _,setRow0 hx6' _,ownsRow_setCell_other hown3 hng _,hbl3.setCell (by simp) _,by rw [zf];omega⟩
      case measure=>simp [intOf];omega
     ·have g9:decide ((9:Int)<(s.size:Int))=true:=decide_eq_true (by omega);have hno:¬ okT s:=fun h=>h9 (hokk.1 h).2;have HNO:=za hno;clear hokk hget hsn hno hq;have d0:World.cell? _ ⟨w.heap.size,0,none⟩=some (.slice none 0 0):=hx4.cell (i:=0) (by omega);have d1:World.cell? _ ⟨w.heap.size,1,none⟩=some (.slice none 0 0):=hx4.cell (i:=1) (by omega);have f0:=hx4.frozen 0;have f1:=hx4.frozen 1;have e0:World.cell? _ ⟨w.heap.size+1,0,none⟩=some (.slice au k cu):=hx6.cell (i:=0) (by omega);have e1:World.cell? _ ⟨w.heap.size+1,1,none⟩=some (.slice none 0 0):=hx6.cell (i:=1) (by omega);go_wp2_with fail
      exact zes rfl rfl rfl (yH hx4 (.slice au k cu) (.slice none 0 0)) rfl (zgS (fun h=>HNO.out (by have:=h.1 k (by rw [HLL.out];exact hlt);rwa [HS.out] at this)) ⟨(hbl.setCell (zi _) _).setCell (zi _) _,.inl ⟨fun h=>HNO.out (by have:=h.1 k (by rw [HLL.out];exact hlt);rwa [HS.out] at this),_,_,_,_,_,_,rfl⟩⟩)
  ·obtain rfl:k=ll:=by omega
   have hc:decide ((k:Int)<(k:Int))=false:=decide_eq_false (by omega);have HK1:=HK;obtain ⟨hcp1,hrd1⟩:=zfD hown;have h1l:=zjl hown;obtain ⟨S5,hS5⟩:∃ S5,wr.heap.size=S5:=⟨_,rfl⟩;rw [hS5] at h1l hsz;have H1L:=za h1l;clear h1l hrd1 hlt hk;go_wp2_with fail
   go_loopw [10] (fun v wr=>∃ (j:Nat) (a2:Option Addr) (c2:Nat),j≤lh∧v = .int .i64 j∧Hid (qx hi j)∧wr.rowIs w.heap.size 30 2 (zE #[.slice none 0 0,.slice none 0 0])∧wr.rowIs (w.heap.size+1) 30 2 (zE #[.slice au k cu,.slice a2 j c2]) ∧
     wr.ownsRow S5 60 2 (.slice a2 j c2) j ((List.range (j*2)).map (zT (prL hi)))∧wr.ownsRow (w.heap.size+1+1) 60 2 (.slice au k cu) k ((List.range (k*2)).map (zT (prL lo)))∧Below w.heap.size w wr∧S5≤wr.heap.size) (fun v _=>lh-(intOf v).toNat)
   case atStart=>exact ⟨0,none,0,Nat.zero_le _,rfl,za (fun i hi=>by omega),hx4,hx6,World.ownsRow_nil _ _ _ _,hown,hbl,by omega⟩
   case round =>
    clear hx4 hx6 hbl hown hS5;obtain ⟨j,a2,c2,hj,rfl,HK,hx4,hx6,hown,hown1,hbl,hsz5⟩:=hrel;by_cases hlt:j<lh
    ·have hc:decide ((j:Int)<(lh:Int))=true:=decide_eq_true (by omega);obtain ⟨ba,oa,rfl,hba,hca⟩:=HB.out (by omega);have hcell:∀ W,Below w.heap.size w W→W.cell? ⟨ba,oa+j,none⟩=some (qW hi j):=fun W hb=>by
      have:=hb.cell (p:=⟨ba,oa+j,none⟩) hba;rw [this];exact hca j hlt
     unfold qW at hcell;have HRK:=za (fun W=>HR2.out W j);have hget:=zf7 hi j (by rw [HLH.out];exact hlt);unfold prT at hget;have hokk:okT (hi.getD j ⟨#[]⟩)↔(∃ q,rdO (hi.getD j ⟨#[]⟩)=some q)∧(hi.getD j ⟨#[]⟩).size≤9:=Iff.rfl;have hsn:=zkb (prL hi) j;generalize hs:hi.getD j ⟨#[]⟩=s at HRK hget hokk hcell;have HS:=za hs;have HCE:=za hcell;have c0:=hcell wr hbl;clear hca hcell hs;cases hq:rdO s with
     | none =>
       have hrk:=HRK.out;simp only [hq,roV,yX,rdV] at hrk;replace HRK:=za hrk;clear hrk;go_wp2_with fail
       refine (HRK.out _).mono ?_;rintro e w1 ⟨rfl,hb1⟩;have z1:=hb1.size;replace hx4:=(zh hx4 hb1).alloc (.cells #[.string (zb 0),.string (zb 0)] 60);replace hx6:=(zh hx6 hb1).alloc (.cells #[.string (zb 0),.string (zb 0)] 60);replace hbl:=(zu hbl hb1 hbl.size).alloc (by omega) (.cells #[.string (zb 0),.string (zb 0)] 60);have hno:¬ okT s:=fun h=>by obtain ⟨⟨q,h1⟩,_⟩:=hokk.1 h;rw [hq] at h1;cases h1
       have HNO:=za hno;clear hokk hget hsn hq hno;have d0:World.cell? _ ⟨w.heap.size,0,none⟩=some (.slice none 0 0):=hx4.cell (i:=0) (by omega);have d1:World.cell? _ ⟨w.heap.size,1,none⟩=some (.slice none 0 0):=hx4.cell (i:=1) (by omega);have f0:=hx4.frozen 0;have f1:=hx4.frozen 1;have e0:World.cell? _ ⟨w.heap.size+1,0,none⟩=some (.slice au k cu):=hx6.cell (i:=0) (by omega);have e1:World.cell? _ ⟨w.heap.size+1,1,none⟩=some (.slice a2 j c2):=hx6.cell (i:=1) (by omega);go_wp2_with fail
       exact zes rfl rfl rfl (yH hx4 (.slice au k cu) (.slice a2 j c2)) rfl (zgS (fun h=>HNO.out (by have:=h.2 j (by rw [HLH.out];exact hlt);rwa [HS.out] at this)) ⟨(hbl.setCell (zi _) _).setCell (zi _) _,.inl ⟨fun h=>HNO.out (by have:=h.2 j (by rw [HLH.out];exact hlt);rwa [HS.out] at this),_,_,_,_,_,_,rfl⟩⟩)
     | some q =>
       have hrk:=HRK.out;simp only [hq,roV,yX,rdV] at hrk;replace HRK:=za hrk;clear hrk;go_wp2_with fail
       refine (HRK.out _).mono ?_;rintro e w1 ⟨rfl,hb1⟩;have z1:=hb1.size;replace hx4:=(zh hx4 hb1).alloc (.cells #[.string (zb (qn q)),.string (zb q.den)] 60);replace hx6:=(zh hx6 hb1).alloc (.cells #[.string (zb (qn q)),.string (zb q.den)] 60);replace hbl:=(zu hbl hb1 hbl.size).alloc (by omega) (.cells #[.string (zb (qn q)),.string (zb q.den)] 60);have cs:=HCE.out _ hbl;by_cases h9:s.size≤9
       ·have g9:decide ((9:Int)<(s.size:Int))=false:=decide_eq_false (by omega);have hyes:okT s:=hokk.2 ⟨⟨q,hq⟩,h9⟩;have HYES:=za hyes;replace hown:=(yp hown hb1).alloc (.cells #[.string (zb (qn q)),.string (zb q.den)] 60);have hq8:=zcK w1 (qn q) q.den 60 w1.heap.size rfl;obtain ⟨q0,q1⟩:=qB hq8;simp only [hq] at hget;rw [hget] at hsn;have e0:World.cell? _ ⟨w.heap.size+1,0,none⟩=some (.slice au k cu):=hx6.cell (i:=0) (by omega);have e1:World.cell? _ ⟨w.heap.size+1,1,none⟩=some (.slice a2 j c2):=hx6.cell (i:=1) (by omega);have hlt0:∀ b,(Value.slice a2 j c2).ownBlock=some b→S5≤b:=fun b hb=>(hown.lt b hb).1;have hnb:∀ b,b≤w.heap.size+1→(Value.slice a2 j c2).ownBlock≠some b:=fun b hb e=>by have:=hlt0 _ e;omega
        replace hown1:=(yp hown1 hb1).alloc (.cells #[.string (zb (qn q)),.string (zb q.den)] 60);have hlt1:∀ b,(Value.slice au k cu).ownBlock=some b→b<S5:=H1L.out;have hap:(Value.slice au k cu).ownBlock=none∨(Value.slice au k cu).ownBlock≠(Value.slice a2 j c2).ownBlock:=by
         cases h1:(Value.slice au k cu).ownBlock with
         | none=>exact .inl rfl
         | some b=>exact .inr fun h2=>by have:=hlt1 b h1;have:=hlt0 b h2.symm;omega
        have hn1:(Value.slice au k cu).ownBlock≠some (w.heap.size+1):=fun h=>by have:=(hown1.lt _ h).1;omega
        clear hokk hget hyes hq8 hq;go_wp2_with (
         at_builtin
         go_loud (refine wpList_append_own _ rfl _ _ 28 rfl S5 60 i0 (.agg #[.string ⟨#[]⟩,.string ⟨#[]⟩]) 2 32 Tryz.underlying28 hi0 hz0 hz1 hz2 rfl (by decide) _ _ _ rfl (hown.alloc _) ⟨w1.heap.size+1,0,none⟩ 1 1 [.string (zb (qn q)),.string (zb q.den)] ?qa0 rfl ?qa1 twoStr (by unfold maxLen;omega) (by omega) (by simp;omega) ?_)
         case qa0=>rfl
         case qa1=>exact gZ (by simp)
         intro v' w3 hown3 hgr3 _;obtain ⟨g3,c3,rfl,hg3,hg3l⟩:=yO hown3 (by omega);rw [← hsn] at hown3;have hng:(Value.slice (some ⟨g3,0,none⟩) (j+1) c3).ownBlock≠some (w.heap.size+1):=fun h=>by
          have:S5≤w.heap.size+1:=(hown3.lt _ h).1;omega
         have hown1':=((hown1.alloc _).kept hgr3 hap);have hx4':=yy (hx4.alloc _) hgr3 (fun e=>hnb _ (by omega) e.symm);have hx6':=yy (hx6.alloc _) hgr3 (fun e=>hnb _ (by omega) e.symm);have hbl3:=(hbl.alloc (by simp;omega) _).grown hgr3 (by simp;omega) (fun b e=>by have:=hlt0 b e;omega);have hsz3:=hx6'.lt;have k0:World.cell? w3 ⟨w.heap.size+1,1,none⟩=some (.slice a2 j c2):=hx6'.cell (i:=1) (by omega);have kf:=hx6'.frozen 1;clear hx4 hx6 hbl hown e0 e1 q0 q1 cs)
        go_roundw
        case rel=>exact ⟨j+1,some ⟨g3,0,none⟩,c3,by omega,by go_num,za (zkj HK.out (by rw [HS.out];exact HYES.out)),hx4'.setOther (by simp) _,setRow1 hx6' _,ownsRow_setCell_other hown3 hng _,ownsRow_setCell_other hown1' hn1 _,hbl3.setCell (by simp) _,by rw [zf];omega⟩
        case measure=>simp [intOf];omega
       ·have g9:decide ((9:Int)<(s.size:Int))=true:=decide_eq_true (by omega);have hno:¬ okT s:=fun h=>h9 (hokk.1 h).2;have HNO:=za hno;clear hokk hget hsn hno hq;have d0:World.cell? _ ⟨w.heap.size,0,none⟩=some (.slice none 0 0):=hx4.cell (i:=0) (by omega);have d1:World.cell? _ ⟨w.heap.size,1,none⟩=some (.slice none 0 0):=hx4.cell (i:=1) (by omega);have f0:=hx4.frozen 0;have f1:=hx4.frozen 1;have e0:World.cell? _ ⟨w.heap.size+1,0,none⟩=some (.slice au k cu):=hx6.cell (i:=0) (by omega);have e1:World.cell? _ ⟨w.heap.size+1,1,none⟩=some (.slice a2 j c2):=hx6.cell (i:=1) (by omega);go_wp2_with fail
        exact zes rfl rfl rfl (yH hx4 (.slice au k cu) (.slice a2 j c2)) rfl (zgS (fun h=>HNO.out (by have:=h.2 j (by rw [HLH.out];exact hlt);rwa [HS.out] at this)) ⟨(hbl.setCell (zi _) _).setCell (zi _) _,.inl ⟨fun h=>HNO.out (by have:=h.2 j (by rw [HLH.out];exact hlt);rwa [HS.out] at this),_,_,_,_,_,_,rfl⟩⟩)
    ·obtain rfl:j=lh:=by omega
     have hc2:decide ((j:Int)<(j:Int))=false:=decide_eq_false (by omega);obtain ⟨hcp1,hrd1⟩:=zfD hown1;obtain ⟨hcp2,hrd2⟩:=zfD hown;have hok:qx lo lo.length∧qx hi hi.length:=⟨by rw [HLL.out];exact HK1.out,by rw [HLH.out];exact HK.out⟩;have d0:World.cell? _ ⟨w.heap.size,0,none⟩=some (.slice none 0 0):=hx4.cell (i:=0) (by omega);have d1:World.cell? _ ⟨w.heap.size,1,none⟩=some (.slice none 0 0):=hx4.cell (i:=1) (by omega);have f0:=hx4.frozen 0;have f1:=hx4.frozen 1;have e0:World.cell? _ ⟨w.heap.size+1,0,none⟩=some (.slice au k cu):=hx6.cell (i:=0) (by omega);have e1:World.cell? _ ⟨w.heap.size+1,1,none⟩=some (.slice a2 j c2):=hx6.cell (i:=1) (by omega);have hfin:∀ b:Bool,b=(decide (lo.length≤140)&&decide (hi.length≤140))→WtsO w lo hi (.returned (.tuple #[.agg #[.slice au k cu,.slice a2 j c2],.bool b])) ((wr.setCell ⟨w.heap.size,0,none⟩ (.slice au k cu)).setCell ⟨w.heap.size,1,none⟩ (.slice a2 j c2)):=fun b hb=>by
      have n1:∀ b,b≤w.heap.size→(Value.slice au k cu).ownBlock≠some b:=fun b hb h=>by
       have:w.heap.size+1+1≤b:=(hown1.lt _ h).1;omega
      have n2:∀ b,b≤w.heap.size→(Value.slice a2 j c2).ownBlock≠some b:=fun b hb h=>by
       have:S5≤b:=(hown.lt _ h).1;omega
      have o1:=ownsRow_setCell_other (ownsRow_setCell_other hown1 (a:=⟨w.heap.size,0,none⟩) (n1 _ (zi _)) (.slice au k cu)) (a:=⟨w.heap.size,1,none⟩) (n1 _ (zi _)) (.slice a2 j c2);have o2:=ownsRow_setCell_other (ownsRow_setCell_other hown (a:=⟨w.heap.size,0,none⟩) (n2 _ (zi _)) (.slice au k cu)) (a:=⟨w.heap.size,1,none⟩) (n2 _ (zi _)) (.slice a2 j c2);have r1:=(zfD o1).2;have r2:=(zfD o2).2;refine ⟨⟨(hbl.setCell (zi _) _).setCell (zi _) _,.inr ⟨hok,au,a2,cu,c2,?_,?_,?_,?_,?_⟩⟩,fun _=>⟨au,a2,cu,c2,b,w.heap.size+1+1,S5,?_,by omega,hsz,?_,?_,?_⟩⟩
      ·rw [hb,HLL.out,HLH.out]
      ·rw [HLL.out];exact hcp1
      ·rw [HLH.out];exact hcp2
      ·rw [HLL.out];exact r1
      ·rw [HLH.out];exact r2
      ·rw [HLL.out,HLH.out]
      ·rw [HLL.out];exact o1
      ·rw [HLH.out];exact o2
      ·rw [HLL.out];exact H1L.out
     rw [HLL.out,HLH.out] at hfin;have HF:=za hfin;clear hfin hrd1 hrd2 hown hown1 hcp1 hcp2 hok hbl;by_cases h1:k≤140
     ·have g1:decide ((k:Int)≤140)=true:=decide_eq_true (by omega);go_wp2_with fail
      refine zes rfl rfl rfl (yH hx4 _ _) rfl (HF.out _ ?_);rw [decide_eq_true h1,Bool.true_and];exact decide_eq_decide.2 (by omega)
     ·have g1:decide ((k:Int)≤140)=false:=decide_eq_false (by omega);go_wp2_with fail
      refine zes rfl rfl rfl (yH hx4 _ _) rfl (HF.out _ ?_);rw [decide_eq_false h1,Bool.false_and]
theorem zfp (w:World) (lo hi:List ByteArray) (A B:Option Addr) (ca cb:Nat) (hl1:lo.length≤1000000000000) (hl2:hi.length≤1000000000000)
  (hA:Rd w w.heap.size A lo.length (qW lo)) (hB:Rd w w.heap.size B hi.length (qW hi)) (hs1:∀ i,(lo.getD i ⟨#[]⟩).size≤maxLen) (hs2:∀ i,(hi.getD i ⟨#[]⟩).size≤maxLen) :
  Calls Tryz.prog 14 #[.slice A lo.length ca,.slice B hi.length cb] w (WtsR w lo hi) :=
 (ziU w lo hi A B ca cb hl1 hl2 hA hB hs1 hs2).mono fun e w' h=>h.1
end Go.Proofs.YtoljkoifgnmbgaaGreatDoor
