import Derived.Test.YtmhllppjcilllaaGreatDoorAk
import Derived.Test.YtmhllppjcilllaaGreatDoorQ2
import Derived.Test.YtmhllppjcilllaaGreatDoorN3
import Derived.Test.YtmhllppjcilllaaGreatDoorZa
import Derived.Lib.MinMax
set_option linter.unusedSimpArgs false
set_option linter.unusedVariables false
set_option maxRecDepth 100000
set_option maxHeartbeats 4000000
open Go Go.RowKit Cs
namespace Cs
open Go.Proofs.YtmhllppjcilllaaGreatDoor
def pD (lw:Nat) (F:Nat→Nat) (v:Nat):Pr:=pq (qq (qs lw F v 0) (qs lw F v 1))
def pE (lw:Nat) (F:Nat→Nat) (v:Nat):Pr:=pq (qq (qs lw F v 2) (qs lw F v 3))
def qK (lw:Nat) (F:Nat→Nat) (k:Nat):List Pr:=(List.range k).map (pD lw F)
def qL (lw:Nat) (F:Nat→Nat) (k:Nat):List Pr:=(List.range k).map (pE lw F)
theorem zfG (f:Nat→Pr) (k:Nat):(List.range ((k+1)*2)).map (zD ((List.range (k+1)).map f))=(List.range (k*2)).map (zD ((List.range k).map f))++[.string (za (f k).1),.string (za (f k).2)]:=by
 rw [prs_snoc];have e:((List.range (k+1)).map f).getD k (0,0)=f k:=by simp [List.getD_eq_getElem?_getD]
 rw [e];congr 1;refine List.map_congr_left fun i hi=>?_;rw [List.mem_range] at hi;unfold zD;have e2:((List.range (k+1)).map f).getD (i / 2) (0,0)=((List.range k).map f).getD (i / 2) (0,0):=by
  have h1:i / 2<k:=by omega
  simp [List.getD_eq_getElem?_getD,h1,Nat.lt_succ_of_lt h1]
 rw [e2]
end Cs
namespace Go.Proofs.YtmhllppjcilllaaGreatDoor
theorem zcs {P:Program} {o:Oper} {a:Act} {w:World} {K:Act→World→Prop} {s x:Operand} {t:TypeId} {v1 v2 v':Value} {w':World} {tm:Nat→Option Bool} {B:Prop} (ho:o.op = .call { callee:=.builtin .append,args:=#[s,x],argTypes:=#[t,t] }) (hg:o.guard=none)
  (hs:a.eval s=v1) (hx:a.eval x=v2) (hr:(Builtin.append_ #[t,t] o.type #[v1,v2]).run P w = .ok v' w') (hK:K (a.put o.dst v') w'):if Region.wanted o tm=true then Oper.wp P o a w K (fun _ _ _=>False) else B:=by
 have e:Region.wanted o tm=true:=by unfold Region.wanted;rw [hg]
 rw [if_pos e];unfold Oper.wp execOp;simp only [ho,resolve,invoke,builtin,Sem.run_bind,Sem.run_pure,Result.andThen_ok,List.map_toArray,List.map_cons,List.map_nil,hs,hx,hr];exact hK
theorem ji {V W:World} {r1 r2:Option Nat} {g n:Nat} {t:TypeId} {f:Nat→Value} (h:Far2 V r1 r2 W) (hr:V.rowIs g t n f) (h1:some g≠r1) (h2:some g≠r2):W.rowIs g t n f:=hr.of_block (h.block g hr.lt h1 h2)
structure AwS (w:World) (ask:List Value) (k:Nat) (L H:List Pr) (s1 s2:Value) (W:World):Prop where
 bx:W.rowIs w.heap.size 28 4 (zy ask.toArray)
 rs:W.rowIs (w.heap.size+1) 39 2 (zy #[.slice none 0 0,.slice none 0 0])
 wt:W.rowIs (w.heap.size+1+1) 39 2 (zy #[s1,s2])
 o1:W.ownsRow (w.heap.size+1+1+1) 33 2 s1 k ((List.range (k*2)).map (zD L))
 o2:W.ownsRow (w.heap.size+1+1+1) 33 2 s2 k ((List.range (k*2)).map (zD H))
 dis:∀ b,s1.ownBlock=some b→s2.ownBlock≠some b
 bl:Below w.heap.size w W
section
variable {w W W':World} {ask:List Value} {k:Nat} {L H:List Pr} {s1 s2:Value}
theorem AwS.below (h:AwS w ask k L H s1 s2 W) (hb:Below W.heap.size W W'):AwS w ask k L H s1 s2 W' :=
 ⟨zo h.bx hb,zo h.rs hb,zo h.wt hb,yB h.o1 hb,yB h.o2 hb,h.dis,zw h.bl hb h.bl.size⟩
theorem AwS.alloc (h:AwS w ask k L H s1 s2 W) (o:Obj):AwS w ask k L H s1 s2 (W.alloc o):=h.below ((zx _ _).alloc (zu _) _)
theorem AwS.hs (h:AwS w ask k L H s1 s2 W):w.heap.size+1+1+1≤W.heap.size:=h.wt.lt
theorem AwS.n1 (h:AwS w ask k L H s1 s2 W) {g:Nat} (hg:g<w.heap.size+1+1+1):some g≠s1.ownBlock:=fun e=>by have:=(h.o1.lt g e.symm).1;omega
theorem AwS.n2 (h:AwS w ask k L H s1 s2 W) {g:Nat} (hg:g<w.heap.size+1+1+1):some g≠s2.ownBlock:=fun e=>by have:=(h.o2.lt g e.symm).1;omega
theorem AwS.next {V Wf:World} {L' H':List Pr} {u1 u2:Value} {n1 n2:List Value} (h:AwS w ask k L H s1 s2 V) (hI:Two V (w.heap.size+1+1+1) 33 2 s1 k ((List.range (k*2)).map (zD L)) s2 k ((List.range (k*2)).map (zD H)) Wf)
  (d1:ApP V (w.heap.size+1+1+1) 33 2 s1 (k+1) ((List.range (k*2)).map (zD L)++n1) u1 Wf) (d2:ApP V (w.heap.size+1+1+1) 33 2 s2 (k+1) ((List.range (k*2)).map (zD H)++n2) u2 Wf) (hnn:u1.ownBlock≠u2.ownBlock)
  (hL:(List.range ((k+1)*2)).map (zD L')=(List.range (k*2)).map (zD L)++n1) (hH:(List.range ((k+1)*2)).map (zD H')=(List.range (k*2)).map (zD H)++n2) :
  AwS w ask (k+1) L' H' u1 u2 ((Wf.setCell ⟨w.heap.size+1+1,0,none⟩ u1).setCell ⟨w.heap.size+1+1,1,none⟩ u2):=by
 have far:=fun {g:Nat} (hg:g<w.heap.size+1+1+1) {t:TypeId} {n:Nat} {f:Nat→Value} (hr:V.rowIs g t n f)=>ji hI.far hr (h.n1 hg) (h.n2 hg);have b1:∀ b,u1.ownBlock=some b→w.heap.size+1+1+1≤b:=fun b hb=>(d1.1.lt b hb).1;have b2:∀ b,u2.ownBlock=some b→w.heap.size+1+1+1≤b:=fun b hb=>(d2.1.lt b hb).1;have m1:u1.ownBlock≠some (w.heap.size+1+1):=fun e=>by have:=b1 _ e;omega
 have m2:u2.ownBlock≠some (w.heap.size+1+1):=fun e=>by have:=b2 _ e;omega
 refine ⟨((far (by omega) h.bx).setOther (show w.heap.size≠w.heap.size+1+1 by omega) _).setOther (show w.heap.size≠w.heap.size+1+1 by omega) _,((far (by omega) h.rs).setOther (show w.heap.size+1≠w.heap.size+1+1 by omega) _).setOther (show w.heap.size+1≠w.heap.size+1+1 by omega) _,j9 (gd (far (by omega) h.wt) _) _,?_,?_,fun b hb he=>hnn (hb.trans he.symm),?_⟩
 ·rw [hL];exact ownsRow_setCell_other (ownsRow_setCell_other d1.1 m1 _) m1 _
 ·rw [hH];exact ownsRow_setCell_other (ownsRow_setCell_other d2.1 m2 _) m2 _
 ·have hb:=h.bl;have hs:=h.hs;refine ((hI.far.below hb (by omega) (fun b hb=>?_) (fun b hb=>?_)).setCell (p:=⟨w.heap.size+1+1,0,none⟩) (by simp;omega) _).setCell (p:=⟨w.heap.size+1+1,1,none⟩) (by simp;omega) _
  ·have:=(h.o1.lt b hb).1;omega
  ·have:=(h.o2.lt b hb).1;omega
end
theorem ret_wts1 {fn:Func} {R:Ending→World→Prop} {a:Act} {w:World} {p:Tmp} (h:fn.results=#[.cell p 39]) {g:Nat} {t:TypeId} {x y:Value}
  (hp:a.tmps.getD p undef = .pointer (some ⟨g,0,none⟩)) (hrow:w.rowIs g t 2 (zy #[x,y])) (hdf:a.defers=[]) (hR:R (.returned (.agg #[x,y])) w):bodyPost Tryz.prog fn R .ret a w :=
 zdX h g t 2 _ hp hrow _ Tryz.underlying39 rfl ziL hdf hR
structure AwR (w:World) (k:Nat) (L H:List Pr) (s1 s2:Value) (W:World):Prop where
 o1:W.ownsRow w.heap.size 33 2 s1 k ((List.range (k*2)).map (zD L))
 o2:W.ownsRow w.heap.size 33 2 s2 k ((List.range (k*2)).map (zD H))
 dis:∀ b,s1.ownBlock=some b→s2.ownBlock≠some b
 bl:Below w.heap.size w W
theorem yL {W:World} {base n sz:Nat} {e:TypeId} {v:Value} {xs:List Value} (h:W.ownsRow base e sz v n xs):∃ a c,v = .slice a n c:=by
 rcases h.2 with ⟨rfl,rfl⟩ | ⟨g,cap,cur,rfl,_⟩
 ·exact ⟨none,0,rfl⟩
 ·exact ⟨_,cap,rfl⟩
theorem zdE {W:World} {base base' n sz:Nat} {e:TypeId} {v:Value} {xs:List Value} (h:W.ownsRow base e sz v n xs) (hb:base'≤base):W.ownsRow base' e sz v n xs:=by
 obtain ⟨h1,h2⟩:=h;refine ⟨h1,h2.imp id fun ⟨g,cap,cur,e,hg,r⟩=>⟨g,cap,cur,e,Nat.le_trans hb hg,r⟩⟩
theorem AwS.store {w W:World} {ask:List Value} {k:Nat} {L H:List Pr} {s1 s2 u v:Value} (h:AwS w ask k L H s1 s2 W):AwR w k L H s1 s2 ((W.setCell ⟨w.heap.size+1,0,none⟩ u).setCell ⟨w.heap.size+1,1,none⟩ v):=by
 have m1:s1.ownBlock≠some (w.heap.size+1):=fun e=>h.n1 (g:=w.heap.size+1) (by omega) e.symm;have m2:s2.ownBlock≠some (w.heap.size+1):=fun e=>h.n2 (g:=w.heap.size+1) (by omega) e.symm;exact ⟨zdE (ownsRow_setCell_other (ownsRow_setCell_other h.o1 m1 _) m1 _) (by omega),zdE (ownsRow_setCell_other (ownsRow_setCell_other h.o2 m2 _) m2 _) (by omega),h.dis,
  (h.bl.setCell (p:=⟨w.heap.size+1,0,none⟩) (by simp) _).setCell (p:=⟨w.heap.size+1,1,none⟩) (by simp) _⟩
theorem zgK (w:World) (N:Nt) (A:Option Addr) (c:Nat) (Aw:Option Addr) (lw cw:Nat) (At:Option Addr) (lt ct:Nat) (F:Nat→Nat) (hlw:lw≤140737488355328) (hw:Rd w w.heap.size Aw (lw*4) (fun i=>.int .u8 (F i:Nat))) (hF:∀ i,F i<256) (K:Nat) (hKK:(K:Int)=max 0 (min N.n 128+1)) :
  Calls Tryz.prog 17 #[yu N A c Aw lw cw At lt ct] w fun e w'=>∃ s1 s2,e = .returned (.agg #[s1,s2])∧AwR w K (qK lw F K) (qL lw F K) s1 s2 w':=by
 have hp1:∀ v j,qs lw F v j<18446744073709551616:=fun v j=>by
  unfold qs;split
  ·decide
  ·split <;> omega
 have hp0:∀ v j,j%2=1→0<qs lw F v j:=fun v j hj=>by
  unfold qs;rw [if_neg (by omega:¬ j%2=0)];split <;> omega
 have hpa:∀ W,Below w.heap.size w W→∀ v,v≤128→_:=fun W hb v hv=>zhq W N A c Aw lw cw At lt ct F v hv hlw ((hw.below hb).more hb.size) hF;have hof:∀ W v j,j%2=0→_:=fun W v j hj=>zik W (qs lw F v j) (qs lw F v (j+1)) (hp1 v j) (hp1 v (j+1)) (hp0 v (j+1) (by omega));have q0:AwS w [.int .i64 N.n,.slice A N.l.length c,.slice Aw lw cw,.slice At lt ct] 0 (qK lw F 0) (qL lw F 0) (.slice none 0 0) (.slice none 0 0) (((w.alloc (.cells #[.int .i64 N.n,.slice A N.l.length c,.slice Aw lw cw,.slice At lt ct] 28)).alloc (.cells #[.slice none 0 0,.slice none 0 0] 39)).alloc (.cells #[.slice none 0 0,.slice none 0 0] 39)) :=
  ⟨((zF w _ _ _ 4 rfl rfl).alloc _).alloc _,(zF _ _ _ _ 2 (by simp) rfl).alloc _,zF _ _ _ _ 2 (by simp) rfl,World.ownsRow_nil _ _ _ _,World.ownsRow_nil _ _ _ _,fun b h=>by simp [Value.ownBlock] at h,(((zx _ _).alloc (zu _) _).alloc (by simp) _).alloc (by simp;omega) _⟩
 have HPA:=zb hpa;have HOF:=zb hof;clear hpa hof hw hF hp1 hp0;go_enter Tryz.func17, Tryz.ntmps17;go_wp2_with fail
 go_loopw [4] (fun v wr=>∃ (k:Nat) (s1 s2:Value),k≤K∧v = .int .i64 k∧AwS w [.int .i64 N.n,.slice A N.l.length c,.slice Aw lw cw,.slice At lt ct] k (qK lw F k) (qL lw F k) s1 s2 wr) (fun v _=>K-(intOf v).toNat)
 case atStart=>exact ⟨0,_,_,Nat.zero_le _,rfl,q0⟩
 case round =>
  clear q0;obtain ⟨k,s1,s2,hk,rfl,hq⟩:=hrel;have e0:World.cell? _ ⟨w.heap.size,0,none⟩=some (.int .i64 N.n):=hq.bx.cell (i:=0) (by decide);have e1:World.cell? _ ⟨w.heap.size,1,none⟩=some (.slice A N.l.length c):=hq.bx.cell (i:=1) (by decide);have e2:World.cell? _ ⟨w.heap.size,2,none⟩=some (.slice Aw lw cw):=hq.bx.cell (i:=2) (by decide);have e3:World.cell? _ ⟨w.heap.size,3,none⟩=some (.slice At lt ct):=hq.bx.cell (i:=3) (by decide);by_cases hlt:k<K
  ·have hc:decide ((k:Int)≤min N.n 128)=true:=decide_eq_true (by omega);have h128:k≤128:=by omega
   have hp:=HPA.out wr hq.bl k h128;have ho1:=fun W=>HOF.out W k 0 rfl;have ho2:=fun W=>HOF.out W k 2 rfl;obtain ⟨y0,hy0⟩:∃ y,qs lw F k 0=y:=⟨_,rfl⟩;obtain ⟨y1,hy1⟩:∃ y,qs lw F k 1=y:=⟨_,rfl⟩;obtain ⟨y2,hy2⟩:∃ y,qs lw F k 2=y:=⟨_,rfl⟩;obtain ⟨y3,hy3⟩:∃ y,qs lw F k 3=y:=⟨_,rfl⟩;obtain ⟨p1,hp1⟩:∃ p,qn (qq y0 y1)=p:=⟨_,rfl⟩;obtain ⟨p2,hp2⟩:∃ p,(qq y0 y1).den=p:=⟨_,rfl⟩;obtain ⟨q1,hq1⟩:∃ p,qn (qq y2 y3)=p:=⟨_,rfl⟩;obtain ⟨q2,hq2⟩:∃ p,(qq y2 y3).den=p:=⟨_,rfl⟩;have hl:pD lw F k=(p1,p2):=by unfold pD pq;rw [hy0,hy1,hp1,hp2]
   have hh:pE lw F k=(q1,q2):=by unfold pE pq;rw [hy2,hy3,hq1,hq2]
   rw [hy0,hy1,hy2,hy3] at hp;simp only [hy0,hy1,hp1,hp2] at ho1;simp only [hy2,hy3,hq1,hq2] at ho2;clear hy0 hy1 hy2 hy3 hp1 hp2 hq1 hq2;have HP:=zb hp;have HO1:=zb ho1;have HO2:=zb ho2;have L1:=zb (fun b hb=>(hq.o1.lt b hb).2);have L2:=zb (fun b hb=>(hq.o2.lt b hb).2);have Q0:=zb hq;have HLT:=zb hlt;clear hp ho1 ho2 hq hlt;go_upto_region 8 with (first
    | (go_at_call 54;(with_reducible refine (HP.out).mono ?_);rintro e w1 ⟨rfl,hb1⟩;have Q1:=zb (Q0.out.below hb1);have Z1:=zb hb1.size;clear hb1 e0 e1 e2 e3 Q0)
    | (go_at_call 55;(with_reducible refine (HO1.out _).mono ?_);rintro e w2 ⟨rfl,hb2⟩;have Q2:=zb (Q1.out.below hb2);have Z2:=zb hb2.size;clear hb2 Q1)
    | (go_at_call 55;(with_reducible refine (HO2.out _).mono ?_);rintro e w3 ⟨rfl,hb3⟩))
   have Q3:AwS w [.int .i64 N.n,.slice A N.l.length c,.slice Aw lw cw,.slice At lt ct] k (qK lw F k) (qL lw F k) s1 s2 (w3.alloc (.cells #[.string (za q1),.string (za q2)] 33)):=((Q2.out.alloc _).below hb3).alloc _;have pw:(w3.alloc (.cells #[.string (za q1),.string (za q2)] 33)).rowIs w2.heap.size 33 2 (qI p1 p2):=(zo (pN w2 p1 p2 33 _ rfl) hb3).alloc _;have qw:(w3.alloc (.cells #[.string (za q1),.string (za q2)] 33)).rowIs w3.heap.size 33 2 (qI q1 q2):=pN w3 q1 q2 33 _ rfl;have z3:w2.heap.size<w3.heap.size:=Nat.lt_of_lt_of_le (by simp) hb3.size;have hgp:wr.heap.size≤w2.heap.size:=Nat.le_trans Z1.out Z2.out;have hgq:wr.heap.size≤w3.heap.size:=by omega
   obtain ⟨gp,hgp'⟩:∃ g,w2.heap.size=g:=⟨_,rfl⟩;obtain ⟨gq,hgq'⟩:∃ g,w3.heap.size=g:=⟨_,rfl⟩;rw [hgp'] at pw hgp ⊢;rw [hgq'] at qw hgq ⊢;obtain ⟨V,hV⟩:∃ V,w3.alloc (.cells #[.string (za q1),.string (za q2)] 33)=V:=⟨_,rfl⟩;rw [hV] at Q3 pw qw ⊢;clear hV hgp' hgq' hb3 Q2 z3;have np1:some gp≠s1.ownBlock:=fun e=>by have:=L1.out gp e.symm;omega
   have np2:some gp≠s2.ownBlock:=fun e=>by have:=L2.out gp e.symm;omega
   have nq1:some gq≠s1.ownBlock:=fun e=>by have:=L1.out gq e.symm;omega
   have nq2:some gq≠s2.ownBlock:=fun e=>by have:=L2.out gq e.symm;omega
   have hx1:=zfG (pD lw F) k;have hx2:=zfG (pE lw F) k;rw [hl] at hx1;rw [hh] at hx2;clear hl hh hgp hgq L1 L2 Z1 Z2;have hk1000:k≤1000:=by omega
   have HK:=zb hk1000;have N1:=zb (Q3.n1 (g:=w.heap.size+1+1) (by omega));have N2:=zb (Q3.n2 (g:=w.heap.size+1+1) (by omega));have O1:=zb Q3.o1;have O2:=zb Q3.o2;have DIS:=zb Q3.dis;have T3:=zb Q3.wt;have HB3:=zb Q3.hs;have X1:=zb hx1;have X2:=zb hx2;have HS:Hid (∀ W,Far2 V s1.ownBlock s2.ownBlock W→W.cell? ⟨w.heap.size+1+1,0,none⟩=some s1∧W.cell? ⟨w.heap.size+1+1,1,none⟩=some s2∧W.cell? ⟨gp,0,none⟩=some (.string (za p1))∧W.cell? ⟨gp,1,none⟩=some (.string (za p2))∧W.cell? ⟨gq,0,none⟩=some (.string (za q1))∧W.cell? ⟨gq,1,none⟩=some (.string (za q2))) :=
    zb fun W hf=>⟨(ji hf T3.out N1.out N2.out).cell (i:=0) (by decide),(ji hf T3.out N1.out N2.out).cell (i:=1) (by decide),(qj (ji hf pw np1 np2)).1,(qj (ji hf pw np1 np2)).2,(qj (ji hf qw nq1 nq2)).1,(qj (ji hf qw nq1 nq2)).2⟩
   have QQ:=zb Q3;clear Q3 pw qw np1 np2 nq1 nq2 hk1000 hx1 hx2 h128 hc;refine zd1 (V:=V) (base:=w.heap.size+1+1+1) (e:=33) (size:=2) (s1:=s1) (k:=k) (xs:=((List.range (k*2)).map (zD (qK lw F k)))) (s2:=s2) (m:=k) (ys:=((List.range (k*2)).map (zD (qL lw F k)))) (a1:=4) (a2:=9) [.string (za p1),.string (za p2)] [.string (za q1),.string (za q2)]
     (PX:=[zl (.pointer (some ⟨w.heap.size+1+1,0,none⟩)),
       zl s1,
       zl (zI p1 p2),
       fun xl xv xw=>∃ X,xv = .slice (some ⟨X,0,none⟩) 1 1∧V.heap.size≤X∧World.rowIs xw X 33 2 (qI p1 p2),
       fun _ xv xw=>ApP V (w.heap.size+1+1+1) 33 2 s1 (k+1) (((List.range (k*2)).map (zD (qK lw F k)))++[.string (za p1),.string (za p2)]) xv xw,
       zl (.pointer (some ⟨w.heap.size+1+1,1,none⟩)),
       zl s2,
       zl (zI q1 q2),
       fun xl xv xw=>∃ X,xv = .slice (some ⟨X,0,none⟩) 1 1∧V.heap.size≤X∧World.rowIs xw X 33 2 (qI q1 q2),
       fun _ xv xw=>ApP V (w.heap.size+1+1+1) 33 2 s2 (k+1) (((List.range (k*2)).map (zD (qL lw F k)))++[.string (za q1),.string (za q2)]) xv xw,
       zl (.pointer (some ⟨w.heap.size+1+1,0,none⟩))])
     (DP:=[[],[0],[],[2],[1,3],[],[5],[],[7],[6,8],[]]) (L1:=[0,1,2,3,4,5,6,7,8,9,10]) (ex:=[]) (n:=_) O1.out O2.out DIS.out (by decide) (by kernel_rfl) rfl (by kernel_rfl) rfl rfl (fun _ _ _ _ h=>zef h) ?_ ?_ (fun bs hbs=>?_)
   ·intro i i1 i2
    match i,i1,i2 with
    | 0,_,_=>exact fun _ _ _ _ h _=>h
    | 1,_,_=>exact fun _ _ _ _ h _=>h
    | 2,_,_=>exact fun _ _ _ _ h _=>h
    | 3,_,_=>exact fun l v W W2 h hb=>by obtain ⟨X,h1,h2,h3⟩:=h;exact ⟨X,h1,h2,hb.row h3 h2⟩
    | 4,i1,i2=>exact absurd rfl i1
    | 5,_,_=>exact fun _ _ _ _ h _=>h
    | 6,_,_=>exact fun _ _ _ _ h _=>h
    | 7,_,_=>exact fun _ _ _ _ h _=>h
    | 8,_,_=>exact fun l v W W2 h hb=>by obtain ⟨X,h1,h2,h3⟩:=h;exact ⟨X,h1,h2,hb.row h3 h2⟩
    | 9,i1,i2=>exact absurd rfl i2
    | 10,_,_=>exact fun _ _ _ _ h _=>h
    | i+11,_,_=>exact fun _ _ _ _ _ _=>trivial
   ·refine zk ?_ (zk ?_ (zk ?_ (zk ?_ (zk ?_ (zk ?_ (zk ?_ (zk ?_ (zk ?_ (zk ?_ (zk ?_ zW))))))))))
    ·refine StepR.intro rfl [] (by kernel_rfl) ?_;intro vs W hI hd K hK;clear hd;try simp only [zm,Act.put,zj,zi,zh,zg,zf,ze] at hK ⊢
     go_simp;exact hK.out _ _ rfl ⟨fun h=>absurd h (by decide),fun h=>absurd h (by decide),fun _ _=>zx _ _⟩
    ·refine StepR.intro rfl [(0,some 41)] (by kernel_rfl) ?_;intro vs W hI hd K hK;have d0:=hd 0 (by decide);clear hd;replace d0:(vs 0) = .pointer (some ⟨w.heap.size+1+1,0,none⟩):=d0;try simp only [d0,zm,Act.put,zj,zi,zh,zg,zf,ze] at hK ⊢
     obtain ⟨m1,m2,m3,m4,m5,m6⟩:=HS.out W hI.far;go_simp;exact hK.out _ _ rfl ⟨fun h=>absurd h (by decide),fun h=>absurd h (by decide),fun _ _=>zx _ _⟩
    ·refine StepR.intro rfl [] (by kernel_rfl) ?_;intro vs W hI hd K hK;clear hd;try simp only [zm,Act.put,zj,zi,zh,zg,zf,ze] at hK ⊢
     obtain ⟨m1,m2,m3,m4,m5,m6⟩:=HS.out W hI.far;go_simp;exact hK.out _ _ rfl ⟨fun h=>absurd h (by decide),fun h=>absurd h (by decide),fun _ _=>zx _ _⟩
    ·refine StepR.intro rfl [(2,some 43)] (by kernel_rfl) ?_;intro vs W hI hd K hK;have d2:=hd 2 (by decide);clear hd;replace d2:(vs 2)=zI p1 p2:=d2;try simp only [d2,zm,Act.put,zj,zi,zh,zg,zf,ze] at hK ⊢
     go_simp;exact hK.out _ _ ⟨W.heap.size,rfl,hI.far.size,pN _ _ _ _ _ rfl⟩ ⟨fun h=>absurd h (by decide),fun h=>absurd h (by decide),fun _ _=>(zx _ _).alloc (zu _) _⟩
    ·refine StepR.intro rfl [(1,some 42),(3,some 44)] (by kernel_rfl) ?_;intro vs W hI hd K hK;have d1:=hd 1 (by decide);obtain ⟨X3,d3,b3,r3⟩:=hd 3 (by decide);clear hd;replace d1:(vs 1)=s1:=d1;replace d3:vs 3 = .slice (some ⟨X3,0,none⟩) 1 1:=d3;try simp only [d1,d3,zm,Act.put,zj,zi,zh,zg,zf,ze] at hK ⊢
     obtain ⟨v',W',hrun,t1,t2,t3,t4⟩:=oD W (w.heap.size+1+1+1) s1 k ((List.range (k*2)).map (zD (qK lw F k))) hI.o1 (Nat.le_trans HB3.out hI.far.size) X3 (p1,p2) r3 HK.out;refine zcs rfl rfl rfl rfl hrun ?_;exact hK.out _ _ ⟨t1,t4.imp id fun h=>⟨_,h,hI.far.size⟩⟩ ⟨fun _=>⟨t3,t2,t4⟩,fun h=>absurd h (by decide),fun h _=>absurd rfl h⟩
    ·refine StepR.intro rfl [] (by kernel_rfl) ?_;intro vs W hI hd K hK;clear hd;try simp only [zm,Act.put,zj,zi,zh,zg,zf,ze] at hK ⊢
     go_simp;exact hK.out _ _ rfl ⟨fun h=>absurd h (by decide),fun h=>absurd h (by decide),fun _ _=>zx _ _⟩
    ·refine StepR.intro rfl [(5,some 46)] (by kernel_rfl) ?_;intro vs W hI hd K hK;have d5:=hd 5 (by decide);clear hd;replace d5:(vs 5) = .pointer (some ⟨w.heap.size+1+1,1,none⟩):=d5;try simp only [d5,zm,Act.put,zj,zi,zh,zg,zf,ze] at hK ⊢
     obtain ⟨m1,m2,m3,m4,m5,m6⟩:=HS.out W hI.far;go_simp;exact hK.out _ _ rfl ⟨fun h=>absurd h (by decide),fun h=>absurd h (by decide),fun _ _=>zx _ _⟩
    ·refine StepR.intro rfl [] (by kernel_rfl) ?_;intro vs W hI hd K hK;clear hd;try simp only [zm,Act.put,zj,zi,zh,zg,zf,ze] at hK ⊢
     obtain ⟨m1,m2,m3,m4,m5,m6⟩:=HS.out W hI.far;go_simp;exact hK.out _ _ rfl ⟨fun h=>absurd h (by decide),fun h=>absurd h (by decide),fun _ _=>zx _ _⟩
    ·refine StepR.intro rfl [(7,some 48)] (by kernel_rfl) ?_;intro vs W hI hd K hK;have d7:=hd 7 (by decide);clear hd;replace d7:(vs 7)=zI q1 q2:=d7;try simp only [d7,zm,Act.put,zj,zi,zh,zg,zf,ze] at hK ⊢
     go_simp;exact hK.out _ _ ⟨W.heap.size,rfl,hI.far.size,pN _ _ _ _ _ rfl⟩ ⟨fun h=>absurd h (by decide),fun h=>absurd h (by decide),fun _ _=>(zx _ _).alloc (zu _) _⟩
    ·refine StepR.intro rfl [(6,some 47),(8,some 49)] (by kernel_rfl) ?_;intro vs W hI hd K hK;have d6:=hd 6 (by decide);obtain ⟨X8,d8,b8,r8⟩:=hd 8 (by decide);clear hd;replace d6:(vs 6)=s2:=d6;replace d8:vs 8 = .slice (some ⟨X8,0,none⟩) 1 1:=d8;try simp only [d6,d8,zm,Act.put,zj,zi,zh,zg,zf,ze] at hK ⊢
     obtain ⟨v',W',hrun,t1,t2,t3,t4⟩:=oD W (w.heap.size+1+1+1) s2 k ((List.range (k*2)).map (zD (qL lw F k))) hI.o2 (Nat.le_trans HB3.out hI.far.size) X8 (q1,q2) r8 HK.out;refine zcs rfl rfl rfl rfl hrun ?_;exact hK.out _ _ ⟨t1,t4.imp id fun h=>⟨_,h,hI.far.size⟩⟩ ⟨fun h=>absurd h (by decide),fun _=>⟨t3,t2,t4⟩,fun _ h=>absurd rfl h⟩
    ·refine StepR.intro rfl [] (by kernel_rfl) ?_;intro vs W hI hd K hK;clear hd;try simp only [zm,Act.put,zj,zi,zh,zg,zf,ze] at hK ⊢
     go_simp;exact hK.out _ _ rfl ⟨fun h=>absurd h (by decide),fun h=>absurd h (by decide),fun _ _=>zx _ _⟩
   obtain rfl:bs=[]:=List.eq_nil_of_length_eq_zero hbs;refine FinR.intro [(0,some 41),(1,some 42),(2,some 43),(3,some 44),(4,some 45),(5,some 46),(6,some 47),(7,some 48),(8,some 49),(9,some 50),(10,some 51)] #[true,true,true,true,true,true,true,true,true,true,true,false,false,false] 3 (by kernel_rfl) (by kernel_rfl) (by kernel_rfl) ?_;intro vs Wf hI hd hcx kf;have d0:(vs 0) = .pointer (some ⟨w.heap.size+1+1,0,none⟩):=hd 0 (by decide);have d1:(vs 1)=s1:=hd 1 (by decide);have d2:(vs 2)=zI p1 p2:=hd 2 (by decide);obtain ⟨X3,d3,b3,r3⟩:=hd 3 (by decide);replace d3:vs 3 = .slice (some ⟨X3,0,none⟩) 1 1:=d3;have d4:ApP V (w.heap.size+1+1+1) 33 2 s1 (k+1) (((List.range (k*2)).map (zD (qK lw F k)))++[.string (za p1),.string (za p2)]) (vs 4) Wf:=hd 4 (by decide);have d5:(vs 5) = .pointer (some ⟨w.heap.size+1+1,1,none⟩):=hd 5 (by decide);have d6:(vs 6)=s2:=hd 6 (by decide);have d7:(vs 7)=zI q1 q2:=hd 7 (by decide);obtain ⟨X8,d8,b8,r8⟩:=hd 8 (by decide);replace d8:vs 8 = .slice (some ⟨X8,0,none⟩) 1 1:=d8;have d9:ApP V (w.heap.size+1+1+1) 33 2 s2 (k+1) (((List.range (k*2)).map (zD (qL lw F k)))++[.string (za q1),.string (za q2)]) (vs 9) Wf:=hd 9 (by decide);have d10:(vs 10) = .pointer (some ⟨w.heap.size+1+1,0,none⟩):=hd 10 (by decide);have hnn:=hcx 4 (by decide) 9 (by decide) (by decide) (Or.inl ⟨rfl,rfl⟩);clear hd hcx;obtain ⟨u1,hu1⟩:∃ u,vs 4=u:=⟨_,rfl⟩;obtain ⟨u2,hu2⟩:∃ u,vs 9=u:=⟨_,rfl⟩;rw [hu1] at d4 hnn;rw [hu2] at d9 hnn;try simp only [d0,d1,d2,d3,hu1,d5,d6,d7,d8,hu2,d10,zm,Act.put,zj,zi,zh,zg,zf,ze]
   clear d0 d1 d2 d3 d5 d6 d7 d8 d10 hu1 hu2 vs;obtain ⟨g1,c1,rfl,hg1,hg1l⟩:=yX d4.1 (by omega);obtain ⟨g2,c2,rfl,hg2,hg2l⟩:=yX d9.1 (by omega);have hx:=ji hI.far T3.out N1.out N2.out;have v0:=hx.cell (i:=0) (by decide);have v1:=hx.cell (i:=1) (by decide);have z0:=hx.frozen 0;have z1:=hx.frozen 1;refine zE 11 (by kernel_rfl) rfl (fun K hK=>?_);go_simp;refine hK.out _ _ ?_;clear hK K;try simp only [zm,Act.put,zj,zi,zh,zg,zf,ze]
   refine zE 12 (by kernel_rfl) rfl (fun K hK=>?_);go_simp;refine hK.out _ _ ?_;clear hK K;try simp only [zm,Act.put,zj,zi,zh,zg,zf,ze]
   refine zE 13 (by kernel_rfl) rfl (fun K hK=>?_);go_simp;refine hK.out _ _ ?_;clear hK K;try simp only [zm,Act.put,zj,zi,zh,zg,zf,ze]
   refine qc (by kernel_rfl) ?_ _;go_wp2;go_roundw
   case rel=>exact ⟨k+1,_,_,Nat.succ_le_of_lt HLT.out,by go_num,QQ.out.next hI d4 d9 hnn X1.out X2.out⟩
   case measure=>have:=HLT.out;simp [intOf];omega
  ·obtain rfl:k=K:=by omega
   have hc:decide ((k:Int)≤min N.n 128)=false:=decide_eq_false (by omega);obtain ⟨sa1,sc1,rfl⟩:=yL hq.o1;obtain ⟨sa2,sc2,rfl⟩:=yL hq.o2;have QQ:=zb hq;have c0:World.cell? _ ⟨w.heap.size+1+1,0,none⟩=some (.slice sa1 k sc1):=hq.wt.cell (i:=0) (by decide);have c1:World.cell? _ ⟨w.heap.size+1+1,1,none⟩=some (.slice sa2 k sc2):=hq.wt.cell (i:=1) (by decide);have d0:World.cell? _ ⟨w.heap.size+1,0,none⟩=some (.slice none 0 0):=hq.rs.cell (i:=0) (by decide);have d1:World.cell? _ ⟨w.heap.size+1,1,none⟩=some (.slice none 0 0):=hq.rs.cell (i:=1) (by decide);have f0:=hq.rs.frozen 0;have f1:=hq.rs.frozen 1;clear hq;go_wp2_with fail
   exact ret_wts1 rfl rfl (qx QQ.out.rs _ _) rfl ⟨_,_,rfl,QQ.out.store⟩
end Go.Proofs.YtmhllppjcilllaaGreatDoor
