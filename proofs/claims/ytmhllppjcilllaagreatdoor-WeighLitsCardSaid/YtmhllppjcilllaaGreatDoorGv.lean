import Derived.Test.YtmhllppjcilllaaGreatDoorIs
set_option linter.unusedSimpArgs false
set_option linter.unusedVariables false
set_option maxRecDepth 100000
set_option maxHeartbeats 4000000
open Go Go.RowKit Cs
namespace Cs
open Go.Proofs.YtmhllppjcilllaaGreatDoor
def RfOwn (W:World) (t:TypeId) (g cap m:Nat) (L:List Pr):Prop:=m≤cap∧∃ F,W.rowIs g t (cap*2) F∧∀ i,i<m*2→F i=zL (L.map qp) i
section
variable {W W':World} {t:TypeId} {g cap m:Nat} {L:List Pr}
theorem RfOwn.below (h:RfOwn W t g cap m L) (hb:Below W.heap.size W W'):RfOwn W' t g cap m L:=by
 obtain ⟨h0,F,h1,h2⟩:=h;exact ⟨h0,F,zo h1 hb,h2⟩
theorem RfOwn.other (h:RfOwn W t g cap m L) {b:Nat} (hb:g≠b) (i:Nat) (v:Value):RfOwn (W.setCell ⟨b,i,none⟩ v) t g cap m L:=by
 obtain ⟨h0,F,h1,h2⟩:=h;exact ⟨h0,F,h1.setOther hb _,h2⟩
theorem RfOwn.cells (h:RfOwn W t g cap m L) (k:Nat) (hk:k<m):W.cell? ⟨g,k*2,none⟩=some (.string (zc (qn ((L.map qp).getD k 0))))∧W.cell? ⟨g,k*2+1,none⟩=some (.string (zc ((L.map qp).getD k 0).den)) ∧
  W.frozen? ⟨g,k*2,none⟩=false∧W.frozen? ⟨g,k*2+1,none⟩=false:=by
 obtain ⟨h0,F,h1,h2⟩:=h;exact ⟨(h1.cell (i:=k*2) (by omega)).trans (by rw [h2 _ (by omega),oP]),(h1.cell (i:=k*2+1) (by omega)).trans (by rw [h2 _ (by omega),oQ]),h1.frozen _,h1.frozen _⟩
theorem RfOwn.le (h:RfOwn W t g cap m L):m≤cap:=h.1
theorem RfOwn.zero (h:RfOwn W t g cap m L) (k:Nat) (hk:k<m) (hL:L.length=m) :
  RfOwn ((W.setCell ⟨g,k*2,none⟩ (.string (zc 0))).setCell ⟨g,k*2+1,none⟩ (.string (zc 1))) t g cap m (L.set k (0,0)):=by
 obtain ⟨h0,F,h1,h2⟩:=h;refine ⟨h0,_,(h1.set _ _).set _ _,fun i hi=>?_⟩;have e:∀ j,((L.set k (0,0)).map qp).getD j 0=if j=k then 0 else (L.map qp).getD j 0:=fun j=>by
  rw [yV,yV,List.getD_eq_getElem?_getD,List.getD_eq_getElem?_getD,List.getElem?_set];split
  ·rename_i h1;rw [if_pos h1.symm];subst h1;rw [if_pos (by omega)];exact qp_zero
  ·rename_i h1;rw [if_neg (fun h=>h1 h.symm)]
 have e0:qn (0:Rat)=0:=by decide
 have e1:(0:Rat).den=1:=rfl;by_cases h3:i=k*2+1
 ·subst h3;rw [if_pos rfl,oQ,e,if_pos rfl,e1]
 ·rw [if_neg h3];by_cases h4:i=k*2
  ·subst h4;rw [if_pos rfl,oP,e,if_pos rfl,e0]
  ·rw [if_neg h4,h2 i hi];have h5:¬ i / 2=k:=by omega
   unfold zL;simp only [e,h5,if_false]
theorem RfOwn.rd (h:RfOwn W t g cap m L):Rd W W.heap.size (some ⟨g,0,none⟩) (m*2) (zL (L.map qp)):=fun _=>by
 obtain ⟨h0,F,h1,h2⟩:=h;exact ⟨g,0,rfl,h1.lt,fun i hi=>by rw [Nat.zero_add,h1.cell (i:=i) (by omega),h2 i hi]⟩
theorem RfOwn.of_own {base:Nat} {v:Value} (h:W.ownsRow base t 2 v m ((List.range (m*2)).map (zL (L.map qp)))) (hm:0<m):∃ g cap,v = .slice (some ⟨g,0,none⟩) m cap∧base≤g∧RfOwn W t g cap m L:=by
 obtain ⟨hlen,h2⟩:=h;rcases h2 with ⟨_,h0⟩ | ⟨g,cap,cur,rfl,hb,hg,hc,_,hsz,htk⟩
 ·omega
 ·refine ⟨g,cap,rfl,hb,hc,fun i=>(cur[i]?).getD undef,⟨cur,hg,hsz,fun i hi=>?_⟩,fun i hi=>?_⟩
  ·show cur[i]?=some ((cur[i]?).getD undef);rw [Array.getElem?_eq_getElem (by omega)];rfl
  ·have h3:(cur.toList.take (m*2))[i]?=((List.range (m*2)).map (zL (L.map qp)))[i]?:=by rw [htk]
   rw [List.getElem?_take_of_lt hi,List.getElem?_map,List.getElem?_range hi] at h3;simp at h3;show (cur[i]?).getD undef=_;rw [h3];rfl
end
theorem rfStr (L:List Rat) (m:Nat):∀ u∈(List.range m).map (zL L),u.oneCell'=true:=fun u hu=>by
 obtain ⟨i,_,rfl⟩:=List.mem_map.1 hu;unfold zL;split <;> rfl
def RdV (W:World) (v:Value) (m:Nat) (ys:List Value):Prop:=∃ A cap f,v = .slice A m cap∧ys=(List.range (m*2)).map f∧0<m∧Rd W W.heap.size A (m*2) f
end Cs
namespace Go.Proofs.YtmhllppjcilllaaGreatDoor
theorem oC (W:World) (base:Nat) (hbase:base≤W.heap.size) (v1:Value) (k:Nat) (xs:List Value) (h1:W.ownsRow base 42 2 v1 k xs) (base2:Nat) (v2:Value) (m:Nat) (ys:List Value) (h2:RdV W v2 m ys) (hone:∀ u∈ys,u.oneCell'=true) (hk:k+m≤100000) :
  ∃ v' W',(Builtin.append_ #[45, 45] 45 #[v1,v2]).run Tryz.prog W = .ok v' W'∧W'.ownsRow base 42 2 v' (k+m) (xs++ys)∧W.grownBy W' v1.ownBlock∧(v'.ownBlock=v1.ownBlock∨v'.ownBlock=some W.heap.size):=by
 obtain ⟨i0,hi0,hz0,hz1,hz2⟩:=info_parts zfc;obtain ⟨A,cap,f,rfl,rfl,h0,hrd⟩:=h2;obtain ⟨g,o,rfl,hg,hc⟩:=hrd (by omega);have hnl:∀ j u,((List.range (m*2)).map f)[j]?=some u→W.cell? ((⟨g,o,none⟩:Addr).add j)=some u:=fun j u hj=>by
  have hjn:j<m*2:=by
   rcases Nat.lt_or_ge j (m*2) with h | h
   ·exact h
   ·rw [List.getElem?_eq_none (by simpa using h)] at hj;cases hj
  rw [List.getElem?_map,List.getElem?_range hjn] at hj;injection hj with hj;subst hj;have e:(⟨g,o,none⟩:Addr).add j=⟨g,o+j,none⟩:=by unfold Addr.add;split <;> simp_all
  rw [e];exact hc j hjn
 obtain ⟨v',W',hrun,r1,r2,_,r4⟩:=run_append_own_at (P:=Tryz.prog) (w:=W) base 45 45 42 i0 (.agg #[.string ⟨#[]⟩,.string ⟨#[]⟩]) 2 32 Tryz.underlying45 hi0 hz0 hz1 hz2 rfl (by decide) v1 k xs h1 ⟨g,o,none⟩ m cap _ (by simp) hnl hone (by unfold maxLen;omega) (by omega) hbase;exact ⟨v',W',hrun,r1,r2,r4⟩
structure GvR (w:World) (X g1 c1 g2 c2 n:Nat) (L H:List Pr) (W:World):Prop where
 fr:W.rowIs (w.heap.size+1) 47 2 (zy #[.slice none 0 0,.slice none 0 0])
 fb:W.rowIs X 47 2 (zy #[.slice (some ⟨g1,0,none⟩) (n+1) c1,.slice (some ⟨g2,0,none⟩) (n+1) c2])
 o1:RfOwn W 42 g1 c1 (n+1) L
 o2:RfOwn W 42 g2 c2 (n+1) H
 ne:g1≠g2
 x1:X≠g1
 x2:X≠g2
 xr:w.heap.size+1<X
 h1:w.heap.size+1<g1
 h2:w.heap.size+1<g2
 bl:Below w.heap.size w W
section
variable {w W W':World} {X g1 c1 g2 c2 n:Nat} {L H:List Pr}
theorem GvR.below (h:GvR w X g1 c1 g2 c2 n L H W) (hb:Below W.heap.size W W'):GvR w X g1 c1 g2 c2 n L H W' :=
 ⟨zo h.fr hb,zo h.fb hb,h.o1.below hb,h.o2.below hb,h.ne,h.x1,h.x2,h.xr,h.h1,h.h2,zw h.bl hb h.bl.size⟩
theorem GvR.zero1 (h:GvR w X g1 c1 g2 c2 n L H W) (k:Nat) (hk:k<n+1) (hL:L.length=n+1):GvR w X g1 c1 g2 c2 n (L.set k (0,0)) H ((W.setCell ⟨g1,k*2,none⟩ (.string (zc 0))).setCell ⟨g1,k*2+1,none⟩ (.string (zc 1))) :=
 ⟨(h.fr.setOther (show w.heap.size+1≠g1 from Nat.ne_of_lt h.h1) _).setOther (show w.heap.size+1≠g1 from Nat.ne_of_lt h.h1) _,(h.fb.setOther h.x1 _).setOther h.x1 _,h.o1.zero k hk hL,(h.o2.other (Ne.symm h.ne) _ _).other (Ne.symm h.ne) _ _,h.ne,h.x1,h.x2,h.xr,h.h1,h.h2,
   (h.bl.setCell (p:=⟨g1,k*2,none⟩) (by have:=h.h1;simp;omega) _).setCell (p:=⟨g1,k*2+1,none⟩) (by have:=h.h1;simp;omega) _⟩
theorem GvR.zero2 (h:GvR w X g1 c1 g2 c2 n L H W) (k:Nat) (hk:k<n+1) (hL:H.length=n+1):GvR w X g1 c1 g2 c2 n L (H.set k (0,0)) ((W.setCell ⟨g2,k*2,none⟩ (.string (zc 0))).setCell ⟨g2,k*2+1,none⟩ (.string (zc 1))) :=
 ⟨(h.fr.setOther (show w.heap.size+1≠g2 from Nat.ne_of_lt h.h2) _).setOther (show w.heap.size+1≠g2 from Nat.ne_of_lt h.h2) _,(h.fb.setOther h.x2 _).setOther h.x2 _,(h.o1.other h.ne _ _).other h.ne _ _,h.o2.zero k hk hL,h.ne,h.x1,h.x2,h.xr,h.h1,h.h2,
   (h.bl.setCell (p:=⟨g2,k*2,none⟩) (by have:=h.h2;simp;omega) _).setCell (p:=⟨g2,k*2+1,none⟩) (by have:=h.h2;simp;omega) _⟩
end
theorem zkd (w:World) (cl ch n ct:Nat) (lo hi:List Pr) (t:List Int) (Al Ah At:Option Addr) (hn:n≤128) (hlo:Rd w w.heap.size Al ((n+1)*2) (zL (lo.map qp))) (hhi:Rd w w.heap.size Ah ((n+1)*2) (zL (hi.map qp)))
  (ht:Rd w w.heap.size At t.length (zO t)) (htl:t.length≤1000000) (hto:∀ l∈t,(1≤l∧l≤n)∨(l≤-1∧-l≤n)) (hll:lo.length=n+1) (hlh:hi.length=n+1) :
  Calls Tryz.prog 61 #[.agg #[.slice Al (n+1) cl,.slice Ah (n+1) ch],.slice At t.length ct] w fun e w'=>∃ g1 c1 g2 c2,e = .returned (.agg #[.slice (some ⟨g1,0,none⟩) (n+1) c1,.slice (some ⟨g2,0,none⟩) (n+1) c2])∧n+1≤c1∧n+1≤c2 ∧
   Rd w' w'.heap.size (some ⟨g1,0,none⟩) ((n+1)*2) (zL ((z6 n lo t).map qp))∧Rd w' w'.heap.size (some ⟨g2,0,none⟩) ((n+1)*2) (zL ((z8 n hi t).map qp))∧Below w.heap.size w w':=by
 have q0:=((Kp.nil w).new #[.slice Al (n+1) cl,.slice Ah (n+1) ch] 47 w.heap.size 2 rfl rfl).new #[.slice none 0 0,.slice none 0 0] 47 (w.heap.size+1) 2 (by simp) rfl;have s1:World.cell? _ ⟨w.heap.size,0,none⟩=some (.slice Al (n+1) cl):=(q0.row 1 rfl).cell (i:=0) (by decide);have s2:World.cell? _ ⟨w.heap.size,1,none⟩=some (.slice Ah (n+1) ch):=(q0.row 1 rfl).cell (i:=1) (by decide);have hrl:∀ W,Below w.heap.size w W→RdV W (.slice Al (n+1) cl) (n+1) ((List.range ((n+1)*2)).map (zL (lo.map qp))):=fun W hW=>⟨Al,cl,_,rfl,rfl,Nat.succ_pos _,(hlo.below hW).more hW.size⟩;have hrh:∀ W,Below w.heap.size w W→RdV W (.slice Ah (n+1) ch) (n+1) ((List.range ((n+1)*2)).map (zL (hi.map qp))):=fun W hW=>⟨Ah,ch,_,rfl,rfl,Nat.succ_pos _,(hhi.below hW).more hW.size⟩;have HRL:=zb hrl;have HRH:=zb hrh;have HN128:=zb hn;have HT:=zb ht;have HTL:=zb htl;have HTO:=zb hto;have HLL:=zb hll;have HLH:=zb hlh;have Q0:=zb q0;clear hrl hrh hn ht htl hto hll hlh q0 hlo hhi;go_enter Tryz.func61, Tryz.ntmps61;go_upto_region 1 with (fail)
 go_cut [5] from 7 to 15 (fun p wx=>∃ X g1 c1 g2 c2,p = .pointer (some ⟨X,0,none⟩)∧GvR w X g1 c1 g2 c2 n lo hi wx)
 case first =>
  obtain ⟨V,hV⟩:∃ V,(w.alloc (.cells #[.slice Al (n+1) cl,.slice Ah (n+1) ch] 47)).alloc (.cells #[.slice none 0 0,.slice none 0 0] 47)=V:=⟨_,rfl⟩;have gb2:=World.block_lt_of_cell? _ _ s1;rw [hV] at s1 s2 gb2 Q0 ⊢;have RL:=zb (fun W (hW:Below V.heap.size V W)=>HRL.out W (zw Q0.out.bl hW Q0.out.bl.size));have RH:=zb (fun W (hW:Below V.heap.size V W)=>HRH.out W (zw Q0.out.bl hW Q0.out.bl.size));clear hV HRL HRH;have HS:Hid (∀ W,Below V.heap.size V W→W.cell? ⟨w.heap.size,0,none⟩=some (.slice Al (n+1) cl)∧W.cell? ⟨w.heap.size,1,none⟩=some (.slice Ah (n+1) ch)):=zb fun W hb=>⟨zC hb s1 gb2,zC hb s2 gb2⟩;refine zd2 (n:=_) (PX:=[fun xl xv xw=>World.ownsRow xw V.heap.size 42 2 xv 0 [],
     zl (.pointer (some ⟨w.heap.size,0,none⟩)),
     zl (.slice Al (n+1) cl),
     fun xl xv xw=>World.ownsRow xw V.heap.size 42 2 xv (0+(n+1)) ([]++((List.range ((n+1)*2)).map (zL (lo.map qp)))),
     fun xl xv xw=>World.ownsRow xw V.heap.size 42 2 xv 0 [],
     zl (.pointer (some ⟨w.heap.size,1,none⟩)),
     zl (.slice Ah (n+1) ch),
     fun xl xv xw=>World.ownsRow xw V.heap.size 42 2 xv (0+(n+1)) ([]++((List.range ((n+1)*2)).map (zL (hi.map qp)))),
     fun xl xv xw=>xv = .agg #[xl.getD 0 undef,xl.getD 1 undef],
     fun xl xv xw=>∃ X,xv = .pointer (some ⟨X,0,none⟩)∧V.heap.size≤X∧World.rowIs xw X 47 2 (zy #[.slice none 0 0,.slice none 0 0]),
     fun xl xv xw=>xv=xl.headD undef∧∃ X,xv = .pointer (some ⟨X,0,none⟩)∧V.heap.size≤X∧World.rowIs xw X 47 2 (zy #[xl.getD 2 undef,xl.getD 3 undef])])
    (AL:=[0,3,4,7,9,10]) (KL:=[(3,0),(7,4),(10,9)]) (DP:=[[],[],[1],[0,2],[],[],[5],[4,6],[3,7],[],[9,8,3,7]]) (L1:=[0,1,2,3,4,5,6,7,8,9,10]) (ex:=[]) (by kernel_rfl) rfl (by kernel_rfl) (by kernel_rfl) ?_ ?_ ?_ (fun bs hbs=>?_)
  ·intro i hi
   match i,hi with
   | 0,hi=>exact absurd hi (by decide)
   | 1,hi=>exact fun _ _ _ _ h=>h
   | 2,hi=>exact fun _ _ _ _ h=>h
   | 3,hi=>exact absurd hi (by decide)
   | 4,hi=>exact absurd hi (by decide)
   | 5,hi=>exact fun _ _ _ _ h=>h
   | 6,hi=>exact fun _ _ _ _ h=>h
   | 7,hi=>exact absurd hi (by decide)
   | 8,hi=>exact fun _ _ _ _ h=>h
   | 9,hi=>exact absurd hi (by decide)
   | 10,hi=>exact absurd hi (by decide)
   | i+11,_=>exact fun _ _ _ _ _=>trivial
  ·intro i hi
   match i,hi with
   | 0,hi=>exact fun l v w w2 h _ hb=>zgu h hb
   | 1,hi=>exact absurd hi (by decide)
   | 2,hi=>exact absurd hi (by decide)
   | 3,hi=>exact fun l v w w2 h _ hb=>zgu h hb
   | 4,hi=>exact fun l v w w2 h _ hb=>zgu h hb
   | 5,hi=>exact absurd hi (by decide)
   | 6,hi=>exact absurd hi (by decide)
   | 7,hi=>exact fun l v w w2 h _ hb=>zgu h hb
   | 8,hi=>exact absurd hi (by decide)
   | 9,hi=>exact fun l v w w2 h _ hb=>by obtain ⟨X,h1,h2,h3⟩:=h;subst h1;exact ⟨X,rfl,h2,zgi h3 hb⟩
   | 10,hi=>exact fun l v w w2 h _ hb=>by obtain ⟨h0,X,h1,h2,h3⟩:=h;subst h1;exact ⟨h0,X,rfl,h2,zgi h3 hb⟩
   | i+11,_=>exact fun _ _ _ _ _ _ _=>trivial
  ·refine zk ?_ (zk ?_ (zk ?_ (zk ?_ (zk ?_ (zk ?_ (zk ?_ (zk ?_ (zk ?_ (zk ?_ (zk ?_ zW))))))))))
   ·refine StepO.intro rfl [] (by kernel_rfl) ?_;intro vs W hW0 hd K hK;have hW:=qB hW0;clear hd;try simp only [zm,Act.put,zj,zi,zh,zg,zf,ze] at hK ⊢
    go_simp;exact hK.out _ _ (World.ownsRow_lit W #[] 0 hW.size (by decide) rfl) (ziY rfl _ rfl)
   ·refine StepO.intro rfl [] (by kernel_rfl) ?_;intro vs W hW0 hd K hK;have hW:=qB hW0;clear hd;try simp only [zm,Act.put,zj,zi,zh,zg,zf,ze] at hK ⊢
    obtain ⟨m1,m2⟩:=HS.out W hW;go_simp;exact hK.out _ _ rfl (yU rfl rfl)
   ·refine StepO.intro rfl [(1,some 8)] (by kernel_rfl) ?_;intro vs W hW0 hd K hK;have hW:=qB hW0;have d1:(vs 1) = .pointer (some ⟨w.heap.size,0,none⟩):=hd 1 (by decide);clear hd;try simp only [d1,zm,Act.put,zj,zi,zh,zg,zf,ze] at hK ⊢
    obtain ⟨m1,m2⟩:=HS.out W hW;go_simp;exact hK.out _ _ rfl (yU rfl rfl)
   ·refine StepO.intro rfl [(0,some 7),(2,some 9)] (by kernel_rfl) ?_;intro vs W hW0 hd K hK;have hW:=qB hW0;have o0:World.ownsRow W V.heap.size 42 2 (vs 0) 0 []:=hd 0 (by decide);have d2:(vs 2) = .slice Al (n+1) cl:=hd 2 (by decide);clear hd;try simp only [d2,zm,Act.put,zj,zi,zh,zg,zf,ze] at hK ⊢
    obtain ⟨v',W',hrun,t1,t2,t3⟩:=oC W V.heap.size hW.size (vs 0) _ _ o0 0 (.slice Al (n+1) cl) _ _ (RL.out W hW) (rfStr _ _) (by have:=HN128.out;omega);refine zcs rfl rfl rfl rfl hrun ?_;exact hK.out _ _ t1 (rl_app (by decide) rfl o0 t1 t2 t3)
   ·refine StepO.intro rfl [] (by kernel_rfl) ?_;intro vs W hW0 hd K hK;have hW:=qB hW0;clear hd;try simp only [zm,Act.put,zj,zi,zh,zg,zf,ze] at hK ⊢
    go_simp;exact hK.out _ _ (World.ownsRow_lit W #[] 0 hW.size (by decide) rfl) (ziY rfl _ rfl)
   ·refine StepO.intro rfl [] (by kernel_rfl) ?_;intro vs W hW0 hd K hK;have hW:=qB hW0;clear hd;try simp only [zm,Act.put,zj,zi,zh,zg,zf,ze] at hK ⊢
    obtain ⟨m1,m2⟩:=HS.out W hW;go_simp;exact hK.out _ _ rfl (yU rfl rfl)
   ·refine StepO.intro rfl [(5,some 12)] (by kernel_rfl) ?_;intro vs W hW0 hd K hK;have hW:=qB hW0;have d5:(vs 5) = .pointer (some ⟨w.heap.size,1,none⟩):=hd 5 (by decide);clear hd;try simp only [d5,zm,Act.put,zj,zi,zh,zg,zf,ze] at hK ⊢
    obtain ⟨m1,m2⟩:=HS.out W hW;go_simp;exact hK.out _ _ rfl (yU rfl rfl)
   ·refine StepO.intro rfl [(4,some 11),(6,some 13)] (by kernel_rfl) ?_;intro vs W hW0 hd K hK;have hW:=qB hW0;have o4:World.ownsRow W V.heap.size 42 2 (vs 4) 0 []:=hd 4 (by decide);have d6:(vs 6) = .slice Ah (n+1) ch:=hd 6 (by decide);clear hd;try simp only [d6,zm,Act.put,zj,zi,zh,zg,zf,ze] at hK ⊢
    obtain ⟨v',W',hrun,t1,t2,t3⟩:=oC W V.heap.size hW.size (vs 4) _ _ o4 0 (.slice Ah (n+1) ch) _ _ (RH.out W hW) (rfStr _ _) (by have:=HN128.out;omega);refine zcs rfl rfl rfl rfl hrun ?_;exact hK.out _ _ t1 (rl_app (by decide) rfl o4 t1 t2 t3)
   ·refine StepO.intro rfl [(3,some 10),(7,some 14)] (by kernel_rfl) ?_;intro vs W hW0 hd K hK;have hW:=qB hW0;have o3:World.ownsRow W V.heap.size 42 2 (vs 3) (0+(n+1)) ([]++((List.range ((n+1)*2)).map (zL (lo.map qp)))):=hd 3 (by decide);have o7:World.ownsRow W V.heap.size 42 2 (vs 7) (0+(n+1)) ([]++((List.range ((n+1)*2)).map (zL (hi.map qp)))):=hd 7 (by decide);clear hd;try simp only [zm,Act.put,zj,zi,zh,zg,zf,ze] at hK ⊢
    obtain ⟨ga3,gc3,e3⟩:=yL o3;obtain ⟨ga7,gc7,e7⟩:=yL o7;simp only [Nat.zero_add] at e3 e7;simp only [e3,e7] at hK ⊢;go_simp;exact hK.out _ _ (show _=Value.agg #[vs 3,vs 7] from by rw [e3,e7]) (yU rfl rfl)
   ·refine StepO.intro rfl [] (by kernel_rfl) ?_;intro vs W hW0 hd K hK;have hW:=qB hW0;clear hd;try simp only [zm,Act.put,zj,zi,zh,zg,zf,ze] at hK ⊢
    go_simp;exact hK.out _ _ ⟨W.heap.size,rfl,hW.size,zF _ _ _ _ _ rfl rfl⟩ (ziY rfl _ rfl)
   ·refine StepO.intro rfl [(9,some 5),(8,some 15),(3,some 10),(7,some 14)] (by kernel_rfl) ?_;intro vs W hW0 hd K hK;have hW:=qB hW0;obtain ⟨X9,d9,b9,r9⟩:∃ X,(vs 9) = .pointer (some ⟨X,0,none⟩)∧V.heap.size≤X∧World.rowIs W X 47 2 (zy #[.slice none 0 0,.slice none 0 0]):=hd 9 (by decide);have d8:(vs 8) = .agg #[vs 3,vs 7]:=hd 8 (by decide);have o3:World.ownsRow W V.heap.size 42 2 (vs 3) (0+(n+1)) ([]++((List.range ((n+1)*2)).map (zL (lo.map qp)))):=hd 3 (by decide);have o7:World.ownsRow W V.heap.size 42 2 (vs 7) (0+(n+1)) ([]++((List.range ((n+1)*2)).map (zL (hi.map qp)))):=hd 7 (by decide);clear hd;try simp only [d9,d8,zm,Act.put,zj,zi,zh,zg,zf,ze] at hK ⊢
    have l9:=r9.lt;have y9_0:=r9.frozen 0;have k9_0:=r9.cell (i:=0) (by decide);have y9_1:=r9.frozen 1;have k9_1:=r9.cell (i:=1) (by decide);obtain ⟨ga3,gc3,e3⟩:=yL o3;obtain ⟨ga7,gc7,e7⟩:=yL o7;simp only [Nat.zero_add] at e3 e7;simp only [e3,e7] at hK ⊢;go_simp;exact hK.out (.pointer (some ⟨X9,0,none⟩)) _ ⟨d9.symm,X9,rfl,b9,(show World.rowIs _ X9 47 2 (zy #[vs 3,vs 7]) from by rw [e3,e7];exact qx r9 _ _)⟩ (ziX (by decide) (d9) rfl ((zdK _ _ _ _).trans (zdK _ _ _ _)) (by simp;exact r9.lt))
  obtain rfl:bs=[]:=List.eq_nil_of_length_eq_zero hbs;refine FinO.intro [(0,some 7),(1,some 8),(2,some 9),(3,some 10),(4,some 11),(5,some 12),(6,some 13),(7,some 14),(8,some 15),(9,some 5),(10,none)] #[true,true,true,true,true,true,true,true,true,true,true] 0 (by kernel_rfl) (by kernel_rfl) (by kernel_rfl) ?_;intro vs Wf hI kf;have hW:Below V.heap.size V Wf:=zw (qV (zx _ _) 1) hI.bl (zu _);have d1:(vs 1) = .pointer (some ⟨w.heap.size,0,none⟩):=hI.px 1 (by decide) (qW (by decide));have d2:(vs 2) = .slice Al (n+1) cl:=hI.px 2 (by decide) (qW (by decide));have o3:World.ownsRow Wf V.heap.size 42 2 (vs 3) (0+(n+1)) ([]++((List.range ((n+1)*2)).map (zL (lo.map qp)))):=hI.px 3 (by decide) (qW (by decide));have d5:(vs 5) = .pointer (some ⟨w.heap.size,1,none⟩):=hI.px 5 (by decide) (qW (by decide));have d6:(vs 6) = .slice Ah (n+1) ch:=hI.px 6 (by decide) (qW (by decide));have o7:World.ownsRow Wf V.heap.size 42 2 (vs 7) (0+(n+1)) ([]++((List.range ((n+1)*2)).map (zL (hi.map qp)))):=hI.px 7 (by decide) (qW (by decide));have d8:(vs 8) = .agg #[vs 3,vs 7]:=hI.px 8 (by decide) (qW (by decide));obtain ⟨e10,X10,d10,b10,r10⟩:(vs 10)=vs 9∧∃ X,(vs 10) = .pointer (some ⟨X,0,none⟩)∧V.heap.size≤X∧World.rowIs Wf X 47 2 (zy #[vs 3,vs 7]):=hI.px 10 (by decide) (qW (by decide));have f10:vs 9 = .pointer (some ⟨X10,0,none⟩):=e10.symm.trans d10;have n3_7:=hI.dis 3 (by decide) 7 (by decide) (by decide) rfl rfl (qW (by decide)) (qW (by decide));obtain ⟨u3,hu3⟩:∃ u,vs 3=u:=⟨_,rfl⟩;rw [hu3] at o3;try rw [hu3] at r10
  obtain ⟨u7,hu7⟩:∃ u,vs 7=u:=⟨_,rfl⟩;rw [hu7] at o7;try rw [hu7] at r10
  rw [hu3,hu7] at n3_7;clear hI;try simp only [d1,d2,d5,d6,d8,d10,f10,hu3,hu7,zm,Act.put,zj,zi,zh,zg,zf,ze]
  clear d1 d2 d5 d6 d8 d10 f10 hu3 hu7 e10;clear HS;refine qc (by kernel_rfl) ?_ _;all_goals
   try go_wp2
   go_meet;have p3:Wf.ownsRow V.heap.size 42 2 u3 (n+1) ((List.range ((n+1)*2)).map (zL (lo.map qp))):=by
    have:=o3;rwa [Nat.zero_add,List.nil_append] at this
   have p7:Wf.ownsRow V.heap.size 42 2 u7 (n+1) ((List.range ((n+1)*2)).map (zL (hi.map qp))):=by
    have:=o7;rwa [Nat.zero_add,List.nil_append] at this
   obtain ⟨ga,gc,rfl,q1,o1⟩:=RfOwn.of_own p3 (Nat.succ_pos _);obtain ⟨ha,hc,rfl,q2,o2⟩:=RfOwn.of_own p7 (Nat.succ_pos _);have hvs:w.heap.size+1<V.heap.size:=(Q0.out.row 0 rfl).lt;refine ⟨X10,ga,gc,ha,hc,rfl,zo (Q0.out.row 0 rfl) hW,r10,o1,o2,fun e=>n3_7 ga rfl (by rw [e];rfl),?_,?_,by omega,by omega,by omega,(Q0.out.below hW).bl⟩
   ·obtain ⟨_,F1,r1,_⟩:=o1;exact row_ne r10 r1 (by decide)
   ·obtain ⟨_,F1,r1,_⟩:=o2;exact row_ne r10 r1 (by decide)
 case rest =>
 obtain ⟨X,g1,c1,g2,c2,rfl,hq⟩:=hcut;have hq0:GvR w X g1 c1 g2 c2 n (z6 n lo (t.take 0)) (z8 n hi (t.take 0)) wc:=by
  rw [List.take_zero,zhQ HLL.out,jX HLH.out];exact hq
 have HQ0:=zb hq0;clear s1 s2 hq hq0 Q0 HRL HRH;go_wp2;go_loopw [6] (fun u wr=>∃ k:Nat,k≤t.length∧u = .int .i64 (k:Int)∧GvR w X g1 c1 g2 c2 n (z6 n lo (t.take k)) (z8 n hi (t.take k)) wr) (fun u _=>t.length-(intOf u).toNat)
 case atStart=>exact ⟨0,Nat.zero_le _,rfl,HQ0.out⟩
 case round =>
  clear HQ0;obtain ⟨k,hk,rfl,hq⟩:=hrel;by_cases hlt:k<t.length
  ·have hc0:decide ((k:Int)<(t.length:Int))=true:=decide_eq_true (by omega);have hc1:(k:Int)<(t.length:Int):=by omega
   have hc2:(0:Int)≤(k:Int):=by omega
   obtain ⟨tb,ot,rfl,hbt,hct⟩:=HT.out (by omega);have hc:wr.cell? ⟨tb,ot+k,none⟩=some (.int .i64 (t.getD k 0)):=zB hq.bl hbt (hct k hlt);have hm:t.getD k 0=t[k]:=by rw [List.getD_eq_getElem?_getD,List.getElem?_eq_getElem hlt];rfl
   have hto:=HTO.out t[k] (List.getElem_mem hlt);have htk:t.take (k+1)=t.take k++[t[k]]:=List.take_succ_eq_append_getElem hlt;rw [hm] at hc;obtain ⟨l,hl⟩:∃ l,t[k]=l:=⟨_,rfl⟩;rw [hl] at hc hto htk;have hst:((k:Int)+1)=((k+1:Nat):Int):=rfl;have htlen:=HTL.out;have e9:IntKind.i64.wrap ((k:Int)+1)=(k:Int)+1:=by rw [IntKind.wrap_i64];omega
   have gt:=World.block_lt_of_cell? _ _ hc;have gx:=hq.fb.lt;have b1:wr.cell? ⟨X,0,none⟩=some (.slice (some ⟨g1,0,none⟩) (n+1) c1):=hq.fb.cell (i:=0) (by decide);have b2:wr.cell? ⟨X,1,none⟩=some (.slice (some ⟨g2,0,none⟩) (n+1) c2):=hq.fb.cell (i:=1) (by decide);rcases hto with ⟨l1,l2⟩ | ⟨l1,l2⟩
   ·obtain ⟨v,rfl⟩:∃ v:Nat,l=(v:Int):=⟨l.toNat,by omega⟩;have hv1:(v:Int)<(n:Int)+1:=by omega
    have hv2:(0:Int)≤(v:Int):=by omega
    have hp:decide ((0:Int)<(v:Int))=true:=decide_eq_true (by omega);have hp0:0<v:=by omega
    have hlo':z6 n lo (t.take (k+1))=(z6 n lo (t.take k)).set v (0,0):=by rw [htk,ziC (by omega),Int.natAbs_natCast]
    have hhi':z8 n hi (t.take (k+1))=z8 n hi (t.take k):=by rw [htk,ziF (by omega)]
    have HLO:=zb hlo';have HHI:=zb hhi';have HVN:=zb (show v≤n by omega);have QQ:=zb hq;have HLT:=zb hlt;clear hlo' hhi' htk hl hm hq hlt hk l1 l2 hct hst htlen;go_upto_region 6 with (fail)
    have s1:=b1;have s2:=hc;clear b1 b2 hc;have HS:Hid (∀ W,Below wr.heap.size wr W→W.cell? ⟨X,0,none⟩=some (.slice (some ⟨g1,0,none⟩) (n+1) c1)∧W.cell? ⟨tb,ot+k,none⟩=some (.int .i64 (v:Int))):=zb fun W hb=>⟨zC hb s1 gx,zC hb s2 gt⟩;refine yx (n:=_) (PX:=[zl (.pointer (some ⟨X,0,none⟩)),
       zl (.slice (some ⟨g1,0,none⟩) (n+1) c1),
       zl (.slice (some ⟨tb,ot,none⟩) t.length ct),
       zl (.int .i64 (k:Int)),
       zl (.pointer (some ⟨tb,ot+k,none⟩)),
       zl (.int .i64 (v:Int)),
       zl (.agg #[.string (zc 0),.string (zc 1)]),
       zl (.pointer (some ⟨g1,v*2,none⟩))])
      (AL:=[]) (DP:=[[],[0],[],[],[2,3],[4],[],[1,5]]) (L1:=[0,1,2,3,4,5,6,7]) (ex:=[]) (by kernel_rfl) rfl (by kernel_rfl) ?_ ?_ (yH ?_)
    ·repeat' first|exact zW|refine zk ?_ ?_|exact fun _ _ _ _ h _=>h
    ·refine zk (zv rfl [] ?_) (zk (zv rfl [(0,some 27)] ?_) (zk (zv rfl [] ?_) (zk (zv rfl [] ?_) (zk (zv rfl [(2,some 29),(3,some 30)] ?_) (zk (zv rfl [(4,some 31)] ?_) (zk ?_ (zk (zv rfl [(1,some 28),(5,some 32)] ?_) zW)))))));all_goals try (intro vs W hW hd K hK;(try simp only [qa,zl,and_true,List.getD_cons_succ,List.getD_cons_zero] at hd);(first | simp only [hd,zm,Act.put,zj,zi,zh,zg,zf,ze] at hK ⊢ | simp only [zm,Act.put,zj,zi,zh,zg,zf,ze] at hK ⊢ | skip);obtain ⟨m1,m2⟩:=HS.out W hW;go_simp;exact hK.out _ _ rfl (zx _ _) (qU rfl))
     ·refine zJ rfl [] ?_;intro vs W hW hd K hK;clear hd;try simp only [zm,Act.put,zj,zi,zh,zg,zf,ze] at hK ⊢
      go_simp;go_at_call 37;(with_reducible first | refine (jt _).mono ?_);rintro e w9 ⟨rfl,hb9⟩;exact hK.out _ _ (rfl) hb9 (fun h=>absurd h (by decide))
    refine qQ [(0,some 27),(1,some 28),(2,some 29),(3,some 30),(4,some 31),(5,some 32),(6,some 33),(7,some 34)] #[true,true,true,true,true,true,true,true,false] 1 ?_;intro vs Wf hW hd hbk hdis kf;simp only [qa,zl,and_true,List.getD_cons_succ,List.getD_cons_zero] at hd;obtain ⟨d0,d1,d2,d3,d4,d5,d6,d7⟩:=hd;clear hbk hdis;try simp only [d0,d1,d2,d3,d4,d5,d6,d7,zm,Act.put,zj,zi,zh,zg,zf,ze]
    clear d0 d1 d2 d3 d4 d5 d6 d7 vs;clear HS;have qf:=QQ.out.below hW;obtain ⟨z1,z2,y1,y2⟩:=RfOwn.cells qf.o1 v (by have:=HVN.out;omega);have HQF:=zb qf;clear qf;refine zE 8 (by kernel_rfl) rfl (fun K hK=>?_);go_simp;refine hK.out _ _ ?_;clear hK K;try simp only [zm,Act.put,zj,zi,zh,zg,zf,ze]
    refine qc (by kernel_rfl) ?_ _;all_goals
     go_wp2;go_roundw
    case rel=>exact ⟨k+1,Nat.succ_le_of_lt HLT.out,by go_num,by rw [HLO.out,HHI.out];exact HQF.out.zero1 v (by have:=HVN.out;omega) jW⟩
    case measure=>have:=HLT.out;simp [intOf];omega
   ·obtain ⟨v,rfl⟩:∃ v:Nat,l = -(v:Int):=⟨(-l).toNat,by omega⟩;have hv1:(v:Int)<(n:Int)+1:=by omega
    have hv2:(0:Int)≤(v:Int):=by omega
    have hp:decide ((0:Int) < -(v:Int))=false:=decide_eq_false (by omega);have i6:((0:Int) < -(v:Int))=False:=eq_false (by omega);have hp0:0<v:=by omega
    have i9:IntKind.i64.wrap (-(-(v:Int)))=(v:Int):=by have:=HN128.out;rw [IntKind.wrap_i64];omega
    have i10:IntKind.i64.wrap (v:Int)=(v:Int):=by have:=HN128.out;rw [IntKind.wrap_i64];omega
    have hlo':z6 n lo (t.take (k+1))=z6 n lo (t.take k):=by rw [htk,ziD (by omega)]
    have hhi':z8 n hi (t.take (k+1))=(z8 n hi (t.take k)).set v (0,0):=by rw [htk,ziE (by omega),Int.natAbs_neg,Int.natAbs_natCast]
    have HLO:=zb hlo';have HHI:=zb hhi';have HVN:=zb (show v≤n by omega);have QQ:=zb hq;have HLT:=zb hlt;clear hlo' hhi' htk hl hm hq hlt hk l1 l2 hct hst htlen;go_upto_region 7 with (fail)
    have s1:=b2;have s2:=hc;clear b1 b2 hc;have HS:Hid (∀ W,Below wr.heap.size wr W→W.cell? ⟨X,1,none⟩=some (.slice (some ⟨g2,0,none⟩) (n+1) c2)∧W.cell? ⟨tb,ot+k,none⟩=some (.int .i64 (-(v:Int)))):=zb fun W hb=>⟨zC hb s1 gx,zC hb s2 gt⟩;refine yx (n:=_) (PX:=[zl (.pointer (some ⟨X,1,none⟩)),
       zl (.slice (some ⟨g2,0,none⟩) (n+1) c2),
       zl (.slice (some ⟨tb,ot,none⟩) t.length ct),
       zl (.int .i64 (k:Int)),
       zl (.pointer (some ⟨tb,ot+k,none⟩)),
       zl (.int .i64 (-(v:Int))),
       zl (.int .i64 (v:Int)),
       zl (.agg #[.string (zc 0),.string (zc 1)]),
       zl (.pointer (some ⟨g2,v*2,none⟩))])
      (AL:=[]) (DP:=[[],[0],[],[],[2,3],[4],[5],[],[1,6]]) (L1:=[0,1,2,3,4,5,6,7,8]) (ex:=[]) (by kernel_rfl) rfl (by kernel_rfl) ?_ ?_ (yH ?_)
    ·repeat' first|exact zW|refine zk ?_ ?_|exact fun _ _ _ _ h _=>h
    ·refine zk (zv rfl [] ?_) (zk (zv rfl [(0,some 35)] ?_) (zk (zv rfl [] ?_) (zk (zv rfl [] ?_) (zk (zv rfl [(2,some 37),(3,some 38)] ?_) (zk (zv rfl [(4,some 39)] ?_) (zk (zv rfl [(5,some 40)] ?_) (zk ?_ (zk (zv rfl [(1,some 36),(6,some 41)] ?_) zW))))))));all_goals try (intro vs W hW hd K hK;(try simp only [qa,zl,and_true,List.getD_cons_succ,List.getD_cons_zero] at hd);(first | simp only [hd,zm,Act.put,zj,zi,zh,zg,zf,ze] at hK ⊢ | simp only [zm,Act.put,zj,zi,zh,zg,zf,ze] at hK ⊢ | skip);obtain ⟨m1,m2⟩:=HS.out W hW;go_simp;exact hK.out _ _ rfl (zx _ _) (qU rfl))
     ·refine zJ rfl [] ?_;intro vs W hW hd K hK;clear hd;try simp only [zm,Act.put,zj,zi,zh,zg,zf,ze] at hK ⊢
      go_simp;go_at_call 37;(with_reducible first | refine (jt _).mono ?_);rintro e w9 ⟨rfl,hb9⟩;exact hK.out _ _ (rfl) hb9 (fun h=>absurd h (by decide))
    refine qQ [(0,some 35),(1,some 36),(2,some 37),(3,some 38),(4,some 39),(5,some 40),(6,some 41),(7,some 42),(8,some 43)] #[true,true,true,true,true,true,true,true,true,false] 1 ?_;intro vs Wf hW hd hbk hdis kf;simp only [qa,zl,and_true,List.getD_cons_succ,List.getD_cons_zero] at hd;obtain ⟨d0,d1,d2,d3,d4,d5,d6,d7,d8⟩:=hd;clear hbk hdis;try simp only [d0,d1,d2,d3,d4,d5,d6,d7,d8,zm,Act.put,zj,zi,zh,zg,zf,ze]
    clear d0 d1 d2 d3 d4 d5 d6 d7 d8 vs;clear HS;have qf:=QQ.out.below hW;obtain ⟨z1,z2,y1,y2⟩:=RfOwn.cells qf.o2 v (by have:=HVN.out;omega);have HQF:=zb qf;clear qf;refine zE 9 (by kernel_rfl) rfl (fun K hK=>?_);go_simp;refine hK.out _ _ ?_;clear hK K;try simp only [zm,Act.put,zj,zi,zh,zg,zf,ze]
    refine qc (by kernel_rfl) ?_ _;all_goals
     go_wp2;go_roundw
    case rel=>exact ⟨k+1,Nat.succ_le_of_lt HLT.out,by go_num,by rw [HLO.out,HHI.out];exact HQF.out.zero2 v (by have:=HVN.out;omega) jY⟩
    case measure=>have:=HLT.out;simp [intOf];omega
  ·obtain rfl:k=t.length:=by omega
   rw [List.take_length] at hq;have hc0:decide ((t.length:Int)<(t.length:Int))=false:=decide_eq_false (by omega);have b1:wr.cell? ⟨X,0,none⟩=some (.slice (some ⟨g1,0,none⟩) (n+1) c1):=hq.fb.cell (i:=0) (by decide);have b2:wr.cell? ⟨X,1,none⟩=some (.slice (some ⟨g2,0,none⟩) (n+1) c2):=hq.fb.cell (i:=1) (by decide);have d1:wr.cell? ⟨w.heap.size+1,0,none⟩=some (.slice none 0 0):=hq.fr.cell (i:=0) (by decide);have d2:wr.cell? ⟨w.heap.size+1,1,none⟩=some (.slice none 0 0):=hq.fr.cell (i:=1) (by decide);have f1:=hq.fr.frozen 0;have f2:=hq.fr.frozen 1;have QQ:=zb hq;clear hq hk hlt;go_wp2_with fail
   have hz1:=QQ.out.h1;have hz2:=QQ.out.h2;refine ziZ rfl rfl (qx QQ.out.fr _ _) rfl ⟨g1,c1,g2,c2,rfl,QQ.out.o1.le,QQ.out.o2.le,?_,?_,jv QQ.out.bl (by omega) _ _⟩
   ·exact RfOwn.rd ((QQ.out.o1.other (by omega) _ _).other (by omega) _ _)
   ·exact RfOwn.rd ((QQ.out.o2.other (by omega) _ _).other (by omega) _ _)
end Go.Proofs.YtmhllppjcilllaaGreatDoor
