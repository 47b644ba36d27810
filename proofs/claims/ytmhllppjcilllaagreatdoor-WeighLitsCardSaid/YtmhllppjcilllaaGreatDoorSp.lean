import Derived.Test.YtmhllppjcilllaaGreatDoorAw
import Derived.Test.YtmhllppjcilllaaGreatDoorRi
set_option linter.unusedSimpArgs false
set_option linter.unusedVariables false
set_option maxRecDepth 100000
set_option maxHeartbeats 4000000
open Go Go.RowKit Cs
namespace Cs
open Go.Proofs.YtmhllppjcilllaaGreatDoor
def qG (L:List Pr) (i:Nat):Value:=if i%2=0 then .string (zc (L.getD (i / 2) (0,0)).1) else .string (zc (L.getD (i / 2) (0,0)).2)
theorem prF_0 (L:List Pr) (k:Nat):qG L (k*2) = .string (zc (L.getD k (0,0)).1):=by
 unfold qG;rw [if_pos (by omega),show k*2 / 2=k by omega]
theorem prF_1 (L:List Pr) (k:Nat):qG L (k*2+1) = .string (zc (L.getD k (0,0)).2):=by
 unfold qG;rw [if_neg (by omega),show (k*2+1) / 2=k by omega]
theorem prF_snoc (L:List Pr) (k:Nat):(List.range ((k+1)*2)).map (qG L)=(List.range (k*2)).map (qG L)++[.string (zc (L.getD k (0,0)).1),.string (zc (L.getD k (0,0)).2)]:=by
 rw [show (k+1)*2=k*2+1+1 by omega,List.range_succ,List.range_succ];simp [prF_0,prF_1]
theorem zfF (f:Nat→Pr) (k:Nat):(List.range ((k+1)*2)).map (qG ((List.range (k+1)).map f))=(List.range (k*2)).map (qG ((List.range k).map f))++[.string (zc (f k).1),.string (zc (f k).2)]:=by
 rw [prF_snoc];have e:((List.range (k+1)).map f).getD k (0,0)=f k:=by simp [List.getD_eq_getElem?_getD]
 rw [e];congr 1;refine List.map_congr_left fun i hi=>?_;rw [List.mem_range] at hi;unfold qG;have e2:((List.range (k+1)).map f).getD (i / 2) (0,0)=((List.range k).map f).getD (i / 2) (0,0):=by
  have h1:i / 2<k:=by omega
  simp [List.getD_eq_getElem?_getD,h1,Nat.lt_succ_of_lt h1]
 rw [e2]
theorem zeL {w:World} {g n d:Nat} {t:TypeId} (h:w.rowIs g t 2 (zy #[.string (zc n),.string (zc d)])):w.cell? ⟨g,0,none⟩=some (.string (zc n))∧w.cell? ⟨g,1,none⟩=some (.string (zc d)):=⟨h.cell (i:=0) (by decide),h.cell (i:=1) (by decide)⟩
end Cs
namespace Go.Proofs.YtmhllppjcilllaaGreatDoor
theorem size_wtr:(Tryz.prog.info? 47).map (·.size)=some 2:=by kernel_rfl
theorem zjI (W:World) (base:Nat) (v1:Value) (k:Nat) (xs:List Value) (hown:W.ownsRow base 42 2 v1 k xs) (hbase:base≤W.heap.size) (g:Nat) (p:Pr) (hr:W.rowIs g 42 2 (zy #[.string (zc p.1),.string (zc p.2)])) (hk:k≤1000) :
  ∃ v' W',(Builtin.append_ #[45, 45] 45 #[v1,.slice (some ⟨g,0,none⟩) 1 1]).run Tryz.prog W = .ok v' W'∧W'.ownsRow base 42 2 v' (k+1) (xs++[.string (zc p.1),.string (zc p.2)])∧W'.ownsRow base 42 2 v1 k xs∧W.grownBy W' v1.ownBlock∧(v'.ownBlock=v1.ownBlock∨v'.ownBlock=some W.heap.size):=by
 obtain ⟨i0,hi0,hz0,hz1,hz2⟩:=info_parts zfc;obtain ⟨c1,c2⟩:=zeL hr;have hnews:∀ j u,([.string (zc p.1),.string (zc p.2)]:List Value)[j]?=some u→W.cell? ((⟨g,0,none⟩:Addr).add j)=some u:=fun j u h=>by
  match j,h with
  | 0,h=>cases h;exact c1
  | 1,h=>cases h;exact c2
 have hone:∀ u∈([.string (zc p.1),.string (zc p.2)]:List Value),u.oneCell'=true:=fun u hu=>by
  simp at hu;rcases hu with rfl | rfl <;> rfl
 obtain ⟨v',W',hrun,r1,r2,_,r4⟩:=run_append_own_at (P:=Tryz.prog) (w:=W) base 45 45 42 i0 (.agg #[.string ⟨#[]⟩,.string ⟨#[]⟩]) 2 32 Tryz.underlying45 hi0 hz0 hz1 hz2 rfl (by decide) v1 k xs hown ⟨g,0,none⟩ 1 1 [.string (zc p.1),.string (zc p.2)] rfl hnews hone (by unfold maxLen;omega) (by omega) hbase;refine ⟨v',W',hrun,r1,?_,r2,r4⟩;have hlen:=hown.1;have hown':=hown;rcases hown.2 with ⟨rfl,rfl⟩ | ⟨g1,cap,cur,rfl,hb,hg,hc,hm,hs,ht⟩
 ·obtain rfl:xs=[]:=List.eq_nil_of_length_eq_zero (by omega);exact World.ownsRow_nil W' base _ _
 ·rcases Nat.lt_or_ge cap (k+1) with hfull | hroom
  ·obtain ⟨v2,W2,hrun2,_,s2⟩:=run_append_arg_grows (P:=Tryz.prog) (w:=W) 45 45 42 i0 (.agg #[.string ⟨#[]⟩,.string ⟨#[]⟩]) 2 32 Tryz.underlying45 hi0 hz0 hz1 hz2 rfl (by decide) ⟨g1,0,none⟩ k cap xs hlen (fun j u hj=>by
    have hj2:j<xs.length:=(List.getElem?_eq_some_iff.1 hj).1;rw [← ht,List.getElem?_take,if_pos (by omega)] at hj;have hadd:(⟨g1,0,none⟩:Addr).add j=⟨g1,j,none⟩:=by unfold Addr.add;split <;> simp_all
    rw [hadd];rw [Array.getElem?_toList] at hj;have hsz:j<cur.size:=by omega
    have e:W.cell? ⟨g1,j,none⟩=cur[j]?:=by simp [World.cell?,hg]
    rw [e];exact hj) ⟨g,0,none⟩ 1 1 [.string (zc p.1),.string (zc p.2)] rfl hnews hfull (by unfold maxLen;omega) (by omega)
   rw [hrun] at hrun2;simp only [Result.ok.injEq] at hrun2;obtain ⟨rfl,rfl⟩:=hrun2;exact hown'.kept s2 (Or.inr (by simp [Value.ownBlock]))
  ·obtain ⟨W2,hrun2,s1,_⟩:=run_append_own_spare (P:=Tryz.prog) (w:=W) base 45 45 42 i0 2 Tryz.underlying45 hi0 hz1 g1 k cap xs hown' ⟨g,0,none⟩ 1 1 [.string (zc p.1),.string (zc p.2)] rfl hnews hone hroom;rw [hrun] at hrun2;simp only [Result.ok.injEq] at hrun2;obtain ⟨rfl,rfl⟩:=hrun2;exact zjn s1 hlen (by omega)
structure AvS (w:World) (ask:List Value) (k:Nat) (L H:List Pr) (s1 s2:Value) (W:World):Prop where
 bx:W.rowIs w.heap.size 28 4 (zy ask.toArray)
 rs:W.rowIs (w.heap.size+1) 47 2 (zy #[.slice none 0 0,.slice none 0 0])
 wt:W.rowIs (w.heap.size+1+1) 47 2 (zy #[s1,s2])
 o1:W.ownsRow (w.heap.size+1+1+1) 42 2 s1 k ((List.range (k*2)).map (qG L))
 o2:W.ownsRow (w.heap.size+1+1+1) 42 2 s2 k ((List.range (k*2)).map (qG H))
 dis:∀ b,s1.ownBlock=some b→s2.ownBlock≠some b
 bl:Below w.heap.size w W
section
variable {w W W':World} {ask:List Value} {k:Nat} {L H:List Pr} {s1 s2:Value}
theorem AvS.below (h:AvS w ask k L H s1 s2 W) (hb:Below W.heap.size W W'):AvS w ask k L H s1 s2 W' :=
 ⟨zo h.bx hb,zo h.rs hb,zo h.wt hb,yB h.o1 hb,yB h.o2 hb,h.dis,zw h.bl hb h.bl.size⟩
theorem AvS.alloc (h:AvS w ask k L H s1 s2 W) (o:Obj):AvS w ask k L H s1 s2 (W.alloc o):=h.below ((zx _ _).alloc (zu _) _)
theorem AvS.hs (h:AvS w ask k L H s1 s2 W):w.heap.size+1+1+1≤W.heap.size:=h.wt.lt
theorem AvS.n1 (h:AvS w ask k L H s1 s2 W) {g:Nat} (hg:g<w.heap.size+1+1+1):some g≠s1.ownBlock:=fun e=>by have:=(h.o1.lt g e.symm).1;omega
theorem AvS.n2 (h:AvS w ask k L H s1 s2 W) {g:Nat} (hg:g<w.heap.size+1+1+1):some g≠s2.ownBlock:=fun e=>by have:=(h.o2.lt g e.symm).1;omega
theorem AvS.next {V Wf:World} {L' H':List Pr} {u1 u2:Value} {n1 n2:List Value} (h:AvS w ask k L H s1 s2 V) (hI:Two V (w.heap.size+1+1+1) 42 2 s1 k ((List.range (k*2)).map (qG L)) s2 k ((List.range (k*2)).map (qG H)) Wf)
  (d1:ApP V (w.heap.size+1+1+1) 42 2 s1 (k+1) ((List.range (k*2)).map (qG L)++n1) u1 Wf) (d2:ApP V (w.heap.size+1+1+1) 42 2 s2 (k+1) ((List.range (k*2)).map (qG H)++n2) u2 Wf) (hnn:u1.ownBlock≠u2.ownBlock)
  (hL:(List.range ((k+1)*2)).map (qG L')=(List.range (k*2)).map (qG L)++n1) (hH:(List.range ((k+1)*2)).map (qG H')=(List.range (k*2)).map (qG H)++n2) :
  AvS w ask (k+1) L' H' u1 u2 ((Wf.setCell ⟨w.heap.size+1+1,0,none⟩ u1).setCell ⟨w.heap.size+1+1,1,none⟩ u2):=by
 have far:=fun {g:Nat} (hg:g<w.heap.size+1+1+1) {t:TypeId} {n:Nat} {f:Nat→Value} (hr:V.rowIs g t n f)=>ji hI.far hr (h.n1 hg) (h.n2 hg);have b1:∀ b,u1.ownBlock=some b→w.heap.size+1+1+1≤b:=fun b hb=>(d1.1.lt b hb).1;have b2:∀ b,u2.ownBlock=some b→w.heap.size+1+1+1≤b:=fun b hb=>(d2.1.lt b hb).1;have m1:u1.ownBlock≠some (w.heap.size+1+1):=fun e=>by have:=b1 _ e;omega
 have m2:u2.ownBlock≠some (w.heap.size+1+1):=fun e=>by have:=b2 _ e;omega
 refine ⟨((far (by omega) h.bx).setOther (show w.heap.size≠w.heap.size+1+1 by omega) _).setOther (show w.heap.size≠w.heap.size+1+1 by omega) _,((far (by omega) h.rs).setOther (show w.heap.size+1≠w.heap.size+1+1 by omega) _).setOther (show w.heap.size+1≠w.heap.size+1+1 by omega) _,j9 (gd (far (by omega) h.wt) _) _,?_,?_,fun b hb he=>hnn (hb.trans he.symm),?_⟩
 ·rw [hL];exact ownsRow_setCell_other (ownsRow_setCell_other d1.1 m1 _) m1 _
 ·rw [hH];exact ownsRow_setCell_other (ownsRow_setCell_other d2.1 m2 _) m2 _
 ·have hb:=h.bl;have hs:=h.hs;refine ((hI.far.below hb (by omega) (fun b hb=>?_) (fun b hb=>?_)).setCell (p:=⟨w.heap.size+1+1,0,none⟩) (by simp;omega) _).setCell (p:=⟨w.heap.size+1+1,1,none⟩) (by simp;omega) _
  ·have:=(h.o1.lt b hb).1;omega
  ·have:=(h.o2.lt b hb).1;omega
end
theorem ziZ {fn:Func} {R:Ending→World→Prop} {a:Act} {w:World} {p:Tmp} (h:fn.results=#[.cell p 47]) {g:Nat} {t:TypeId} {x y:Value}
  (hp:a.tmps.getD p undef = .pointer (some ⟨g,0,none⟩)) (hrow:w.rowIs g t 2 (zy #[x,y])) (hdf:a.defers=[]) (hR:R (.returned (.agg #[x,y])) w):bodyPost Tryz.prog fn R .ret a w :=
 zdX h g t 2 _ hp hrow _ Tryz.underlying47 rfl size_wtr hdf hR
structure AvR (w:World) (k:Nat) (L H:List Pr) (s1 s2:Value) (W:World):Prop where
 o1:W.ownsRow w.heap.size 42 2 s1 k ((List.range (k*2)).map (qG L))
 o2:W.ownsRow w.heap.size 42 2 s2 k ((List.range (k*2)).map (qG H))
 dis:∀ b,s1.ownBlock=some b→s2.ownBlock≠some b
 bl:Below w.heap.size w W
theorem AvS.store {w W:World} {ask:List Value} {k:Nat} {L H:List Pr} {s1 s2 u v:Value} (h:AvS w ask k L H s1 s2 W):AvR w k L H s1 s2 ((W.setCell ⟨w.heap.size+1,0,none⟩ u).setCell ⟨w.heap.size+1,1,none⟩ v):=by
 have m1:s1.ownBlock≠some (w.heap.size+1):=fun e=>h.n1 (g:=w.heap.size+1) (by omega) e.symm;have m2:s2.ownBlock≠some (w.heap.size+1):=fun e=>h.n2 (g:=w.heap.size+1) (by omega) e.symm;exact ⟨zdE (ownsRow_setCell_other (ownsRow_setCell_other h.o1 m1 _) m1 _) (by omega),zdE (ownsRow_setCell_other (ownsRow_setCell_other h.o2 m2 _) m2 _) (by omega),h.dis,
  (h.bl.setCell (p:=⟨w.heap.size+1,0,none⟩) (by simp) _).setCell (p:=⟨w.heap.size+1,1,none⟩) (by simp) _⟩
theorem zgL (w:World) (N:Nt) (A:Option Addr) (c:Nat) (Aw:Option Addr) (lw cw:Nat) (At:Option Addr) (lt ct:Nat) (F:Nat→Nat) (hlw:lw≤140737488355328) (hw:Rd w w.heap.size Aw (lw*4) (fun i=>.int .u8 (F i:Nat))) (hF:∀ i,F i<256) (K:Nat) (hKK:(K:Int)=max 0 (min N.n 128+1)) :
  Calls Tryz.prog 19 #[yu N A c Aw lw cw At lt ct] w fun e w'=>∃ s1 s2,e = .returned (.agg #[s1,s2])∧AvR w K (qK lw F K) (qL lw F K) s1 s2 w':=by
 have hp1:∀ v j,qs lw F v j<18446744073709551616:=fun v j=>by
  unfold qs;split
  ·decide
  ·split <;> omega
 have hp0:∀ v j,j%2=1→0<qs lw F v j:=fun v j hj=>by
  unfold qs;rw [if_neg (by omega:¬ j%2=0)];split <;> omega
 have hpa:∀ W,Below w.heap.size w W→∀ v,v≤128→_:=fun W hb v hv=>zhq W N A c Aw lw cw At lt ct F v hv hlw ((hw.below hb).more hb.size) hF;have hof:∀ W v j,j%2=0→_:=fun W v j hj=>rof02 W (qs lw F v j) (qs lw F v (j+1)) (hp1 v j) (hp1 v (j+1)) (hp0 v (j+1) (by omega));have q0:AvS w [.int .i64 N.n,.slice A N.l.length c,.slice Aw lw cw,.slice At lt ct] 0 (qK lw F 0) (qL lw F 0) (.slice none 0 0) (.slice none 0 0) (((w.alloc (.cells #[.int .i64 N.n,.slice A N.l.length c,.slice Aw lw cw,.slice At lt ct] 28)).alloc (.cells #[.slice none 0 0,.slice none 0 0] 47)).alloc (.cells #[.slice none 0 0,.slice none 0 0] 47)) :=
  ⟨((zF w _ _ _ 4 rfl rfl).alloc _).alloc _,(zF _ _ _ _ 2 (by simp) rfl).alloc _,zF _ _ _ _ 2 (by simp) rfl,World.ownsRow_nil _ _ _ _,World.ownsRow_nil _ _ _ _,fun b h=>by simp [Value.ownBlock] at h,(((zx _ _).alloc (zu _) _).alloc (by simp) _).alloc (by simp;omega) _⟩
 have HPA:=zb hpa;have HOF:=zb hof;clear hpa hof hw hF hp1 hp0;go_enter Tryz.func19, Tryz.ntmps19;go_wp2_with fail
 go_loopw [4] (fun v wr=>∃ (k:Nat) (s1 s2:Value),k≤K∧v = .int .i64 k∧AvS w [.int .i64 N.n,.slice A N.l.length c,.slice Aw lw cw,.slice At lt ct] k (qK lw F k) (qL lw F k) s1 s2 wr) (fun v _=>K-(intOf v).toNat)
 case atStart=>exact ⟨0,_,_,Nat.zero_le _,rfl,q0⟩
 case round =>
  clear q0;obtain ⟨k,s1,s2,hk,rfl,hq⟩:=hrel;have e0:World.cell? _ ⟨w.heap.size,0,none⟩=some (.int .i64 N.n):=hq.bx.cell (i:=0) (by decide);have e1:World.cell? _ ⟨w.heap.size,1,none⟩=some (.slice A N.l.length c):=hq.bx.cell (i:=1) (by decide);have e2:World.cell? _ ⟨w.heap.size,2,none⟩=some (.slice Aw lw cw):=hq.bx.cell (i:=2) (by decide);have e3:World.cell? _ ⟨w.heap.size,3,none⟩=some (.slice At lt ct):=hq.bx.cell (i:=3) (by decide);by_cases hlt:k<K
  ·have hc:decide ((k:Int)≤min N.n 128)=true:=decide_eq_true (by omega);have h128:k≤128:=by omega
   have hp:=HPA.out wr hq.bl k h128;have ho1:=fun W=>HOF.out W k 0 rfl;have ho2:=fun W=>HOF.out W k 2 rfl;unfold zS at ho1 ho2;obtain ⟨y0,hy0⟩:∃ y,qs lw F k 0=y:=⟨_,rfl⟩;obtain ⟨y1,hy1⟩:∃ y,qs lw F k 1=y:=⟨_,rfl⟩;obtain ⟨y2,hy2⟩:∃ y,qs lw F k 2=y:=⟨_,rfl⟩;obtain ⟨y3,hy3⟩:∃ y,qs lw F k 3=y:=⟨_,rfl⟩;obtain ⟨p1,hp1⟩:∃ p,qn (qq y0 y1)=p:=⟨_,rfl⟩;obtain ⟨p2,hp2⟩:∃ p,(qq y0 y1).den=p:=⟨_,rfl⟩;obtain ⟨q1,hq1⟩:∃ p,qn (qq y2 y3)=p:=⟨_,rfl⟩;obtain ⟨q2,hq2⟩:∃ p,(qq y2 y3).den=p:=⟨_,rfl⟩;have hl:pD lw F k=(p1,p2):=by unfold pD pq;rw [hy0,hy1,hp1,hp2]
   have hh:pE lw F k=(q1,q2):=by unfold pE pq;rw [hy2,hy3,hq1,hq2]
   rw [hy0,hy1,hy2,hy3] at hp;simp only [hy0,hy1,hp1,hp2] at ho1;simp only [hy2,hy3,hq1,hq2] at ho2;clear hy0 hy1 hy2 hy3 hp1 hp2 hq1 hq2;have HP:=zb hp;have HO1:=zb ho1;have HO2:=zb ho2;have L1:=zb (fun b hb=>(hq.o1.lt b hb).2);have L2:=zb (fun b hb=>(hq.o2.lt b hb).2);have Q0:=zb hq;have HLT:=zb hlt;clear hp ho1 ho2 hq hlt;go_upto_region 8 with (first
    | (go_at_call 54;(with_reducible refine (HP.out).mono ?_);rintro e w1 ⟨rfl,hb1⟩;have Q1:=zb (Q0.out.below hb1);have Z1:=zb hb1.size;clear hb1 e0 e1 e2 e3 Q0)
    | (go_at_call 57;(with_reducible refine (HO1.out _).mono ?_);rintro e w2 ⟨rfl,hb2⟩;have Q2:=zb (Q1.out.below hb2);have Z2:=zb hb2.size;clear hb2 Q1)
    | (go_at_call 57;(with_reducible refine (HO2.out _).mono ?_);rintro e w3 ⟨rfl,hb3⟩))
   have Q3:AvS w [.int .i64 N.n,.slice A N.l.length c,.slice Aw lw cw,.slice At lt ct] k (qK lw F k) (qL lw F k) s1 s2 (w3.alloc (.cells #[.string (zc q1),.string (zc q2)] 42)):=((Q2.out.alloc _).below hb3).alloc _;have pw:(w3.alloc (.cells #[.string (zc q1),.string (zc q2)] 42)).rowIs w2.heap.size 42 2 (zy #[.string (zc p1),.string (zc p2)]):=(zo (zF w2 #[.string (zc p1),.string (zc p2)] 42 _ 2 rfl rfl) hb3).alloc _;have qw:(w3.alloc (.cells #[.string (zc q1),.string (zc q2)] 42)).rowIs w3.heap.size 42 2 (zy #[.string (zc q1),.string (zc q2)]):=zF w3 #[.string (zc q1),.string (zc q2)] 42 _ 2 rfl rfl;have z3:w2.heap.size<w3.heap.size:=Nat.lt_of_lt_of_le (by simp) hb3.size;have hgp:wr.heap.size≤w2.heap.size:=Nat.le_trans Z1.out Z2.out;have hgq:wr.heap.size≤w3.heap.size:=by omega
   obtain ⟨gp,hgp'⟩:∃ g,w2.heap.size=g:=⟨_,rfl⟩;obtain ⟨gq,hgq'⟩:∃ g,w3.heap.size=g:=⟨_,rfl⟩;rw [hgp'] at pw hgp ⊢;rw [hgq'] at qw hgq ⊢;obtain ⟨V,hV⟩:∃ V,w3.alloc (.cells #[.string (zc q1),.string (zc q2)] 42)=V:=⟨_,rfl⟩;rw [hV] at Q3 pw qw ⊢;clear hV hgp' hgq' hb3 Q2 z3;have np1:some gp≠s1.ownBlock:=fun e=>by have:=L1.out gp e.symm;omega
   have np2:some gp≠s2.ownBlock:=fun e=>by have:=L2.out gp e.symm;omega
   have nq1:some gq≠s1.ownBlock:=fun e=>by have:=L1.out gq e.symm;omega
   have nq2:some gq≠s2.ownBlock:=fun e=>by have:=L2.out gq e.symm;omega
   have hx1:=zfF (pD lw F) k;have hx2:=zfF (pE lw F) k;rw [hl] at hx1;rw [hh] at hx2;clear hl hh hgp hgq L1 L2 Z1 Z2;have hk1000:k≤1000:=by omega
   have HK:=zb hk1000;have N1:=zb (Q3.n1 (g:=w.heap.size+1+1) (by omega));have N2:=zb (Q3.n2 (g:=w.heap.size+1+1) (by omega));have O1:=zb Q3.o1;have O2:=zb Q3.o2;have DIS:=zb Q3.dis;have T3:=zb Q3.wt;have HB3:=zb Q3.hs;have X1:=zb hx1;have X2:=zb hx2;have HS:Hid (∀ W,Far2 V s1.ownBlock s2.ownBlock W→W.cell? ⟨w.heap.size+1+1,0,none⟩=some s1∧W.cell? ⟨w.heap.size+1+1,1,none⟩=some s2∧W.cell? ⟨gp,0,none⟩=some (.string (zc p1))∧W.cell? ⟨gp,1,none⟩=some (.string (zc p2))∧W.cell? ⟨gq,0,none⟩=some (.string (zc q1))∧W.cell? ⟨gq,1,none⟩=some (.string (zc q2))) :=
    zb fun W hf=>⟨(ji hf T3.out N1.out N2.out).cell (i:=0) (by decide),(ji hf T3.out N1.out N2.out).cell (i:=1) (by decide),(zeL (ji hf pw np1 np2)).1,(zeL (ji hf pw np1 np2)).2,(zeL (ji hf qw nq1 nq2)).1,(zeL (ji hf qw nq1 nq2)).2⟩
   have QQ:=zb Q3;clear Q3 pw qw np1 np2 nq1 nq2 hk1000 hx1 hx2 h128 hc;refine zd1 (V:=V) (base:=w.heap.size+1+1+1) (e:=42) (size:=2) (s1:=s1) (k:=k) (xs:=((List.range (k*2)).map (qG (qK lw F k)))) (s2:=s2) (m:=k) (ys:=((List.range (k*2)).map (qG (qL lw F k)))) (a1:=4) (a2:=9) [.string (zc p1),.string (zc p2)] [.string (zc q1),.string (zc q2)]
     (PX:=[zl (.pointer (some ⟨w.heap.size+1+1,0,none⟩)),
       zl s1,
       zl (.agg #[.string (zc p1),.string (zc p2)]),
       fun xl xv xw=>∃ X,xv = .slice (some ⟨X,0,none⟩) 1 1∧V.heap.size≤X∧World.rowIs xw X 42 2 (zy #[.string (zc p1),.string (zc p2)]),
       fun _ xv xw=>ApP V (w.heap.size+1+1+1) 42 2 s1 (k+1) (((List.range (k*2)).map (qG (qK lw F k)))++[.string (zc p1),.string (zc p2)]) xv xw,
       zl (.pointer (some ⟨w.heap.size+1+1,1,none⟩)),
       zl s2,
       zl (.agg #[.string (zc q1),.string (zc q2)]),
       fun xl xv xw=>∃ X,xv = .slice (some ⟨X,0,none⟩) 1 1∧V.heap.size≤X∧World.rowIs xw X 42 2 (zy #[.string (zc q1),.string (zc q2)]),
       fun _ xv xw=>ApP V (w.heap.size+1+1+1) 42 2 s2 (k+1) (((List.range (k*2)).map (qG (qL lw F k)))++[.string (zc q1),.string (zc q2)]) xv xw,
       zl (.pointer (some ⟨w.heap.size+1+1,0,none⟩))])
     (DP:=[[],[0],[],[2],[1,3],[],[5],[],[7],[6,8],[]]) (L1:=[0,1,2,3,4,5,6,7,8,9,10]) (ex:=[]) (n:=_) O1.out O2.out DIS.out (by decide) (by kernel_rfl) rfl (by kernel_rfl) rfl rfl (fun _ _ _ _ h=>zef h) ?_ ?_ (fun bs hbs=>?_)
   ·intro i i1 i2
    match i,i1,i2 with
    | 0,_,_=>exact fun _ _ _ _ h _=>h
    | 1,_,_=>exact fun _ _ _ _ h _=>h
    | 2,_,_=>exact fun _ _ _ _ h _=>h
    | 3,_,_=>exact fun l v W W2 h hb=>by obtain ⟨X,h1,h2,h3⟩:=h;exact ⟨X,h1,h2,hb.row h3 h2⟩
    | 4,i1,i2=>exact absurd rfl i1
    | 5,_,_=>exact fun _ _ _ _ h _=>h
    | 6,_,_=>exact fun _ _ _ _ h _=>h
    | 7,_,_=>exact fun _ _ _ _ h _=>h
    | 8,_,_=>exact fun l v W W2 h hb=>by obtain ⟨X,h1,h2,h3⟩:=h;exact ⟨X,h1,h2,hb.row h3 h2⟩
    | 9,i1,i2=>exact absurd rfl i2
    | 10,_,_=>exact fun _ _ _ _ h _=>h
    | i+11,_,_=>exact fun _ _ _ _ _ _=>trivial
   ·refine zk ?_ (zk ?_ (zk ?_ (zk ?_ (zk ?_ (zk ?_ (zk ?_ (zk ?_ (zk ?_ (zk ?_ (zk ?_ zW))))))))))
    ·refine StepR.intro rfl [] (by kernel_rfl) ?_;intro vs W hI hd K hK;clear hd;try simp only [zm,Act.put,zj,zi,zh,zg,zf,ze] at hK ⊢
     go_simp;exact hK.out _ _ rfl ⟨fun h=>absurd h (by decide),fun h=>absurd h (by decide),fun _ _=>zx _ _⟩
    ·refine StepR.intro rfl [(0,some 41)] (by kernel_rfl) ?_;intro vs W hI hd K hK;have d0:=hd 0 (by decide);clear hd;replace d0:(vs 0) = .pointer (some ⟨w.heap.size+1+1,0,none⟩):=d0;try simp only [d0,zm,Act.put,zj,zi,zh,zg,zf,ze] at hK ⊢
     obtain ⟨m1,m2,m3,m4,m5,m6⟩:=HS.out W hI.far;go_simp;exact hK.out _ _ rfl ⟨fun h=>absurd h (by decide),fun h=>absurd h (by decide),fun _ _=>zx _ _⟩
    ·refine StepR.intro rfl [] (by kernel_rfl) ?_;intro vs W hI hd K hK;clear hd;try simp only [zm,Act.put,zj,zi,zh,zg,zf,ze] at hK ⊢
     obtain ⟨m1,m2,m3,m4,m5,m6⟩:=HS.out W hI.far;go_simp;exact hK.out _ _ rfl ⟨fun h=>absurd h (by decide),fun h=>absurd h (by decide),fun _ _=>zx _ _⟩
    ·refine StepR.intro rfl [(2,some 43)] (by kernel_rfl) ?_;intro vs W hI hd K hK;have d2:=hd 2 (by decide);clear hd;replace d2:(vs 2) = .agg #[.string (zc p1),.string (zc p2)]:=d2;try simp only [d2,zm,Act.put,zj,zi,zh,zg,zf,ze] at hK ⊢
     go_simp;exact hK.out _ _ ⟨W.heap.size,rfl,hI.far.size,zF _ _ _ _ 2 rfl rfl⟩ ⟨fun h=>absurd h (by decide),fun h=>absurd h (by decide),fun _ _=>(zx _ _).alloc (zu _) _⟩
    ·refine StepR.intro rfl [(1,some 42),(3,some 44)] (by kernel_rfl) ?_;intro vs W hI hd K hK;have d1:=hd 1 (by decide);obtain ⟨X3,d3,b3,r3⟩:=hd 3 (by decide);clear hd;replace d1:(vs 1)=s1:=d1;replace d3:vs 3 = .slice (some ⟨X3,0,none⟩) 1 1:=d3;try simp only [d1,d3,zm,Act.put,zj,zi,zh,zg,zf,ze] at hK ⊢
     obtain ⟨v',W',hrun,t1,t2,t3,t4⟩:=zjI W (w.heap.size+1+1+1) s1 k ((List.range (k*2)).map (qG (qK lw F k))) hI.o1 (Nat.le_trans HB3.out hI.far.size) X3 (p1,p2) r3 HK.out;refine zcs rfl rfl rfl rfl hrun ?_;exact hK.out _ _ ⟨t1,t4.imp id fun h=>⟨_,h,hI.far.size⟩⟩ ⟨fun _=>⟨t3,t2,t4⟩,fun h=>absurd h (by decide),fun h _=>absurd rfl h⟩
    ·refine StepR.intro rfl [] (by kernel_rfl) ?_;intro vs W hI hd K hK;clear hd;try simp only [zm,Act.put,zj,zi,zh,zg,zf,ze] at hK ⊢
     go_simp;exact hK.out _ _ rfl ⟨fun h=>absurd h (by decide),fun h=>absurd h (by decide),fun _ _=>zx _ _⟩
    ·refine StepR.intro rfl [(5,some 46)] (by kernel_rfl) ?_;intro vs W hI hd K hK;have d5:=hd 5 (by decide);clear hd;replace d5:(vs 5) = .pointer (some ⟨w.heap.size+1+1,1,none⟩):=d5;try simp only [d5,zm,Act.put,zj,zi,zh,zg,zf,ze] at hK ⊢
     obtain ⟨m1,m2,m3,m4,m5,m6⟩:=HS.out W hI.far;go_simp;exact hK.out _ _ rfl ⟨fun h=>absurd h (by decide),fun h=>absurd h (by decide),fun _ _=>zx _ _⟩
    ·refine StepR.intro rfl [] (by kernel_rfl) ?_;intro vs W hI hd K hK;clear hd;try simp only [zm,Act.put,zj,zi,zh,zg,zf,ze] at hK ⊢
     obtain ⟨m1,m2,m3,m4,m5,m6⟩:=HS.out W hI.far;go_simp;exact hK.out _ _ rfl ⟨fun h=>absurd h (by decide),fun h=>absurd h (by decide),fun _ _=>zx _ _⟩
    ·refine StepR.intro rfl [(7,some 48)] (by kernel_rfl) ?_;intro vs W hI hd K hK;have d7:=hd 7 (by decide);clear hd;replace d7:(vs 7) = .agg #[.string (zc q1),.string (zc q2)]:=d7;try simp only [d7,zm,Act.put,zj,zi,zh,zg,zf,ze] at hK ⊢
     go_simp;exact hK.out _ _ ⟨W.heap.size,rfl,hI.far.size,zF _ _ _ _ 2 rfl rfl⟩ ⟨fun h=>absurd h (by decide),fun h=>absurd h (by decide),fun _ _=>(zx _ _).alloc (zu _) _⟩
    ·refine StepR.intro rfl [(6,some 47),(8,some 49)] (by kernel_rfl) ?_;intro vs W hI hd K hK;have d6:=hd 6 (by decide);obtain ⟨X8,d8,b8,r8⟩:=hd 8 (by decide);clear hd;replace d6:(vs 6)=s2:=d6;replace d8:vs 8 = .slice (some ⟨X8,0,none⟩) 1 1:=d8;try simp only [d6,d8,zm,Act.put,zj,zi,zh,zg,zf,ze] at hK ⊢
     obtain ⟨v',W',hrun,t1,t2,t3,t4⟩:=zjI W (w.heap.size+1+1+1) s2 k ((List.range (k*2)).map (qG (qL lw F k))) hI.o2 (Nat.le_trans HB3.out hI.far.size) X8 (q1,q2) r8 HK.out;refine zcs rfl rfl rfl rfl hrun ?_;exact hK.out _ _ ⟨t1,t4.imp id fun h=>⟨_,h,hI.far.size⟩⟩ ⟨fun h=>absurd h (by decide),fun _=>⟨t3,t2,t4⟩,fun _ h=>absurd rfl h⟩
    ·refine StepR.intro rfl [] (by kernel_rfl) ?_;intro vs W hI hd K hK;clear hd;try simp only [zm,Act.put,zj,zi,zh,zg,zf,ze] at hK ⊢
     go_simp;exact hK.out _ _ rfl ⟨fun h=>absurd h (by decide),fun h=>absurd h (by decide),fun _ _=>zx _ _⟩
   obtain rfl:bs=[]:=List.eq_nil_of_length_eq_zero hbs;refine FinR.intro [(0,some 41),(1,some 42),(2,some 43),(3,some 44),(4,some 45),(5,some 46),(6,some 47),(7,some 48),(8,some 49),(9,some 50),(10,some 51)] #[true,true,true,true,true,true,true,true,true,true,true,false,false,false] 3 (by kernel_rfl) (by kernel_rfl) (by kernel_rfl) ?_;intro vs Wf hI hd hcx kf;have d0:(vs 0) = .pointer (some ⟨w.heap.size+1+1,0,none⟩):=hd 0 (by decide);have d1:(vs 1)=s1:=hd 1 (by decide);have d2:(vs 2) = .agg #[.string (zc p1),.string (zc p2)]:=hd 2 (by decide);obtain ⟨X3,d3,b3,r3⟩:=hd 3 (by decide);replace d3:vs 3 = .slice (some ⟨X3,0,none⟩) 1 1:=d3;have d4:ApP V (w.heap.size+1+1+1) 42 2 s1 (k+1) (((List.range (k*2)).map (qG (qK lw F k)))++[.string (zc p1),.string (zc p2)]) (vs 4) Wf:=hd 4 (by decide);have d5:(vs 5) = .pointer (some ⟨w.heap.size+1+1,1,none⟩):=hd 5 (by decide);have d6:(vs 6)=s2:=hd 6 (by decide);have d7:(vs 7) = .agg #[.string (zc q1),.string (zc q2)]:=hd 7 (by decide);obtain ⟨X8,d8,b8,r8⟩:=hd 8 (by decide);replace d8:vs 8 = .slice (some ⟨X8,0,none⟩) 1 1:=d8;have d9:ApP V (w.heap.size+1+1+1) 42 2 s2 (k+1) (((List.range (k*2)).map (qG (qL lw F k)))++[.string (zc q1),.string (zc q2)]) (vs 9) Wf:=hd 9 (by decide);have d10:(vs 10) = .pointer (some ⟨w.heap.size+1+1,0,none⟩):=hd 10 (by decide);have hnn:=hcx 4 (by decide) 9 (by decide) (by decide) (Or.inl ⟨rfl,rfl⟩);clear hd hcx;obtain ⟨u1,hu1⟩:∃ u,vs 4=u:=⟨_,rfl⟩;obtain ⟨u2,hu2⟩:∃ u,vs 9=u:=⟨_,rfl⟩;rw [hu1] at d4 hnn;rw [hu2] at d9 hnn;try simp only [d0,d1,d2,d3,hu1,d5,d6,d7,d8,hu2,d10,zm,Act.put,zj,zi,zh,zg,zf,ze]
   clear d0 d1 d2 d3 d5 d6 d7 d8 d10 hu1 hu2 vs;obtain ⟨g1,c1,rfl,hg1,hg1l⟩:=yX d4.1 (by omega);obtain ⟨g2,c2,rfl,hg2,hg2l⟩:=yX d9.1 (by omega);have hx:=ji hI.far T3.out N1.out N2.out;have v0:=hx.cell (i:=0) (by decide);have v1:=hx.cell (i:=1) (by decide);have z0:=hx.frozen 0;have z1:=hx.frozen 1;refine zE 11 (by kernel_rfl) rfl (fun K hK=>?_);go_simp;refine hK.out _ _ ?_;clear hK K;try simp only [zm,Act.put,zj,zi,zh,zg,zf,ze]
   refine zE 12 (by kernel_rfl) rfl (fun K hK=>?_);go_simp;refine hK.out _ _ ?_;clear hK K;try simp only [zm,Act.put,zj,zi,zh,zg,zf,ze]
   refine zE 13 (by kernel_rfl) rfl (fun K hK=>?_);go_simp;refine hK.out _ _ ?_;clear hK K;try simp only [zm,Act.put,zj,zi,zh,zg,zf,ze]
   refine qc (by kernel_rfl) ?_ _;go_wp2;go_roundw
   case rel=>exact ⟨k+1,_,_,Nat.succ_le_of_lt HLT.out,by go_num,QQ.out.next hI d4 d9 hnn X1.out X2.out⟩
   case measure=>have:=HLT.out;simp [intOf];omega
  ·obtain rfl:k=K:=by omega
   have hc:decide ((k:Int)≤min N.n 128)=false:=decide_eq_false (by omega);obtain ⟨sa1,sc1,rfl⟩:=yL hq.o1;obtain ⟨sa2,sc2,rfl⟩:=yL hq.o2;have QQ:=zb hq;have c0:World.cell? _ ⟨w.heap.size+1+1,0,none⟩=some (.slice sa1 k sc1):=hq.wt.cell (i:=0) (by decide);have c1:World.cell? _ ⟨w.heap.size+1+1,1,none⟩=some (.slice sa2 k sc2):=hq.wt.cell (i:=1) (by decide);have d0:World.cell? _ ⟨w.heap.size+1,0,none⟩=some (.slice none 0 0):=hq.rs.cell (i:=0) (by decide);have d1:World.cell? _ ⟨w.heap.size+1,1,none⟩=some (.slice none 0 0):=hq.rs.cell (i:=1) (by decide);have f0:=hq.rs.frozen 0;have f1:=hq.rs.frozen 1;clear hq;go_wp2_with fail
   exact ziZ rfl rfl (qx QQ.out.rs _ _) rfl ⟨_,_,rfl,QQ.out.store⟩
end Go.Proofs.YtmhllppjcilllaaGreatDoor
