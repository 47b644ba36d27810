import Derived.Test.YtmhllppjcilllaaGreatDoorD7
import Derived.Test.YtmhllppjcilllaaGreatDoorDl
import Derived.Test.YtmhllppjcilllaaGreatDoorQ2
set_option linter.unusedSimpArgs false
set_option linter.unusedVariables false
set_option maxRecDepth 100000
set_option maxHeartbeats 2000000
section
open Go Go.RowKit Cs
namespace Cs
abbrev Pr:=Nat×Nat
def qp (p:Pr):Rat:=qq p.1 p.2
def pq (q:Rat):Pr:=(qn q,q.den)
def padd (a b:Pr):Pr:=pq (qp a+qp b)
def pmul (a b:Pr):Pr:=pq (qp a*qp b)
def Lp (p:Pr):Prop:=Lt p.1 p.2
theorem Lp.zero:Lp (0,0):=Lt.zero
theorem Lp.pq {q:Rat} (h:0≤q):Lp (pq q):=Lt.can h
theorem qp_pq {q:Rat} (h:0≤q):qp (pq q)=q:=qq_can h
theorem qp_nonneg (p:Pr):0≤qp p:=qq_nonneg _ _
theorem qp_add (a b:Pr):qp (padd a b)=qp a+qp b:=qp_pq (Rat.add_nonneg (qp_nonneg a) (qp_nonneg b))
theorem qp_mul (a b:Pr):qp (pmul a b)=qp a*qp b:=qp_pq (Rat.mul_nonneg (qp_nonneg a) (qp_nonneg b))
theorem Lp_add (a b:Pr):Lp (padd a b):=Lp.pq (Rat.add_nonneg (qp_nonneg a) (qp_nonneg b))
theorem Lp_mul (a b:Pr):Lp (pmul a b):=Lp.pq (Rat.mul_nonneg (qp_nonneg a) (qp_nonneg b))
theorem qp_zero:qp (0,0)=0:=(qq_zero_iff 0 0).2 rfl
theorem qp_one:qp (1,1)=1:=by decide +kernel
theorem Lp.one:Lp (1,1):=by
 have h:Cs.pq 1=(1,1):=by decide +kernel
 rw [← h];exact Lp.pq (by decide +kernel)
def Sp (p:Pr):Prop:=n8 p.1≤100000∧n8 p.2≤100000
theorem n8_sm (V:Nat) (h:V<2^smB):n8 V≤100000:=n8_pow V smB 100000 h (by have:=smB_le;omega)
theorem Sp.of {p:Pr} (h:Lp p) (hs:Sm smB (qp p)):Sp p:=by
 obtain ⟨h1,h2⟩:=h;obtain ⟨_,s1,s2⟩:=hs
 constructor
 ·refine n8_sm _ ?_
  rw [h1];exact s1
 ·rcases h2 with h2 | ⟨_,h2⟩
  ·refine n8_sm _ ?_
   rw [h2];exact s2
  ·rw [h2,n8_zero];omega
theorem Sp.zero:Sp (0,0):=by constructor <;> (show n8 0≤_;rw [n8_zero];omega)
def prsF (L:List Pr) (j:Nat):Value:=.string (natB (if j%2=0 then (L.getD (j / 2) (0,0)).1 else (L.getD (j / 2) (0,0)).2))
theorem prsF_0 (L:List Pr) (k:Nat):prsF L (k*2) = .string (natB (L.getD k (0,0)).1):=by
 unfold prsF;rw [if_pos (by omega),show k*2 / 2=k by omega]
theorem prsF_1 (L:List Pr) (k:Nat):prsF L (k*2+1) = .string (natB (L.getD k (0,0)).2):=by
 unfold prsF;rw [if_neg (by omega),show (k*2+1) / 2=k by omega]
theorem prsCells {w:World} {g n:Nat} {t:TypeId} {L:List Pr} (h:w.rowIs g t (n*2) (prsF L)) (k:Nat) (hk:k<n) :
  w.cell? ⟨g,k*2,none⟩=some (.string (natB (L.getD k (0,0)).1))∧w.cell? ⟨g,k*2+1,none⟩=some (.string (natB (L.getD k (0,0)).2)) :=
 ⟨(h.cell (i:=k*2) (by omega)).trans (by rw [prsF_0]),(h.cell (i:=k*2+1) (by omega)).trans (by rw [prsF_1])⟩
theorem prsNext {w:World} {g n:Nat} {t:TypeId} {L:List Pr} (h:w.rowIs g t (n*2) (prsF L)) (p:Pr) (k:Nat) (hk:k=L.length) :
  ((w.setCell ⟨g,k*2,none⟩ (.string (natB p.1))).setCell ⟨g,k*2+1,none⟩ (.string (natB p.2))).rowIs g t (n*2) (prsF (L++[p])):=by
 subst hk;refine ((h.set _ _).set _ _).congr fun i hi=>?_
 have e:∀ j,(L++[p]).getD j (0,0)=if j=L.length then p else L.getD j (0,0):=fun j=>by
  rw [List.getD_eq_getElem?_getD,List.getD_eq_getElem?_getD];split
  ·rename_i h1;rw [h1,List.getElem?_append_right (zqn _)];simp
  ·rename_i h1;rcases Nat.lt_or_ge j L.length with h2 | h2
   ·rw [List.getElem?_append_left h2]
   ·rw [List.getElem?_append_right h2,List.getElem?_eq_none (by simp;omega),List.getElem?_eq_none (by omega)]
 by_cases h1:i=L.length*2+1
 ·subst h1;rw [if_pos rfl,prsF_1,e,if_pos rfl]
 ·rw [if_neg h1];by_cases h2:i=L.length*2
  ·subst h2;rw [if_pos rfl,prsF_0,e,if_pos rfl]
  ·rw [if_neg h2]
   have h3:¬ i / 2=L.length:=by omega
   unfold prsF;simp only [e,h3,if_false]
theorem prsSet {w:World} {g n:Nat} {t:TypeId} {L:List Pr} (h:w.rowIs g t (n*2) (prsF L)) (p:Pr) (k:Nat) (hk:k<L.length) :
  ((w.setCell ⟨g,k*2,none⟩ (.string (natB p.1))).setCell ⟨g,k*2+1,none⟩ (.string (natB p.2))).rowIs g t (n*2) (prsF (L.set k p)):=by
 refine ((h.set _ _).set _ _).congr fun i hi=>?_
 have e:∀ j,(L.set k p).getD j (0,0)=if j=k then p else L.getD j (0,0):=fun j=>by
  rw [List.getD_eq_getElem?_getD,List.getD_eq_getElem?_getD,List.getElem?_set];split
  ·rename_i h1;rw [if_pos h1.symm];subst h1;first | rfl | (rw [if_pos hk];rfl)
  ·rename_i h1;rw [if_neg (fun h=>h1 h.symm)]
 by_cases h1:i=k*2+1
 ·subst h1;rw [if_pos rfl,prsF_1,e,if_pos rfl]
 ·rw [if_neg h1];by_cases h2:i=k*2
  ·subst h2;rw [if_pos rfl,prsF_0,e,if_pos rfl]
  ·rw [if_neg h2]
   have h3:¬ i / 2=k:=by omega
   unfold prsF;simp only [e,h3,if_false]
theorem prsMade (w:World) (m:Nat) (t:TypeId) (g:Nat) (hg:w.heap.size=g):(w.alloc (.cells (madeCells #[.string ⟨#[]⟩,.string ⟨#[]⟩] (m*2)) t)).rowIs g t (m*2) (prsF []):=by
 subst hg
 have h:=World.rowIs_alloc w (madeCells #[.string ⟨#[]⟩,.string ⟨#[]⟩] (m*2)) t (prsF []) fun i hi=>by
  simp [size_madeCells] at hi;unfold madeCells prsF
  have h0:natB 0=⟨#[]⟩:=by simp [natB,n8_zero]
  have:i%2=0∨i%2=1:=by omega
  rcases this with h | h <;> simp [h,hi,h0]
 simpa [size_madeCells] using h
end Cs
namespace Go.Proofs.YtmhllppjcilllaaGreatDoor
theorem one_any (w:World):Calls Tryz.prog 84 #[] w fun e w'=>e = .returned (ratV 1 1)∧Below w.heap.size w w':=by
 have hr:=ratZero w 33 _ rfl;have hbel:=(Below.refl w.heap.size w).alloc (zqn _) (.cells #[.string ⟨#[]⟩,.string ⟨#[]⟩] 33)
 go_enter Tryz.func84, Tryz.ntmps84
 go_wp2_with (
  go_at_call 55
  (with_reducible refine (qof_one _).mono ?_)
  rintro e w1 ⟨rfl,hb1⟩;have hz1:=hb1.size;simp at hz1;replace hr:=(rowBelow hr hb1).alloc (.cells #[.string (natB 1),.string (natB 1)] 33);obtain ⟨c0,c1⟩:=ratCells hr;have f0:=hr.frozen 0;have f1:=hr.frozen 1
  replace hbel:=(hbel.trans (hb1.mono (by simp))).alloc (by omega) (.cells #[.string (natB 1),.string (natB 1)] 33))
 exact ret_rat rfl 1 1 rfl (ratSet hr 1 1) rfl ⟨rfl,(hbel.setCell (by simp) _).setCell (by simp) _⟩
theorem product_any (w:World) (g m cap:Nat) (L:List Pr) (hm:m≤100000000) (hL:L.length=m) (hr0:w.rowIs g 33 (m*2) (prsF L))
  (hsp:∀ k,Sp (L.getD k (0,0))) (hpart:∀ k,Sp ((L.take k).foldl pmul (1,1))) :
  Calls Tryz.prog 101 #[.slice (some ⟨g,0,none⟩) m cap] w fun e w'=>e = .returned (ratV (L.foldl pmul (1,1)).1 (L.foldl pmul (1,1)).2)∧Below w.heap.size w w':=by
 obtain ⟨R,hR⟩:∃ R,L.foldl pmul (1,1)=R:=⟨_,rfl⟩;rw [hR];have HR:=zqh hR;have hr:=ratZero w 33 _ rfl;have hbel:=(Below.refl w.heap.size w).alloc (zqn _) (.cells #[.string ⟨#[]⟩,.string ⟨#[]⟩] 33);have hg:=hr0.lt;have hcl:=fun k hk=>prsCells hr0 k hk;have HCL:=zqh hcl;have HSP:=zqh hsp;have HPT:=zqh hpart;clear hR hcl hsp hpart hr0
 go_enter Tryz.func101, Tryz.ntmps101
 go_wp2_with (
  go_at_call 84
  (with_reducible refine (one_any _).mono ?_)
  rintro e w1 ⟨rfl,hb1⟩;have hz1:=hb1.size;simp at hz1;replace hr:=(rowBelow hr hb1).alloc (.cells #[.string (natB 1),.string (natB 1)] 33);have hx:=ratNew w1 1 1 33 _ rfl;replace hbel:=(hbel.trans (hb1.mono (by simp))).alloc (by omega) (.cells #[.string (natB 1),.string (natB 1)] 33)
  clear hb1)
 go_loopw [9] (fun t wr=>∃ k:Nat,∃ p:Pr,k≤m∧t = .int .i64 k∧Hid ((L.take k).foldl pmul (1,1)=p)∧wr.rowIs w.heap.size 33 2 (ratF 0 0)∧wr.rowIs w1.heap.size 33 2 (ratF p.1 p.2)∧Below w.heap.size w wr) (fun t _=>m-(intOf t).toNat)
 case atStart=>exact ⟨0,(1,1),by omega,rfl,rfl,hr,hx,hbel⟩
 case round =>
  clear hr hx hbel;obtain ⟨k,⟨n,d⟩,hk,rfl,HP,hr,hx,hbel⟩:=hrel;by_cases hlt:k<m
  ·obtain ⟨c1,c2⟩:=HCL.out k hlt;replace c1:=below_cell hbel hg c1;replace c2:=below_cell hbel hg c2;have hs1:=HSP.out k;have hs2:=HPT.out k;rw [HP.out] at hs2
   have htk:(L.take (k+1)).foldl pmul (1,1)=pmul (n,d) (L.getD k (0,0)):=by
    rw [List.take_succ_eq_append_getElem (by omega),List.foldl_append,HP.out,List.getD_eq_getElem?_getD,List.getElem?_eq_getElem (by omega)]
    rfl
   generalize L.getD k (0,0)=q at *
   obtain ⟨n',d'⟩:=q;have HTK:=zqh htk;have hml:=fun W=>qmul_any W n d n' d' hs2.1 hs2.2 hs1.1 hs1.2;have HML:=zqh hml;clear htk hml hs1 hs2;obtain ⟨W0,rfl⟩:∃ W0,W0=wr:=⟨wr,rfl⟩;have hbel2:=hbel.alloc hbel.size (.cells #[.string (natB n'),.string (natB d')] 33);have hr2:=hr.alloc (.cells #[.string (natB n'),.string (natB d')] 33);have hx2:=hx.alloc (.cells #[.string (natB n'),.string (natB d')] 33);obtain ⟨x1,x2⟩:=ratCells hx2
   go_wp2_with (
    go_at_call 30
    (with_reducible refine (HML.out _).mono ?_)
    rintro e w3 ⟨rfl,hb3⟩;replace hr2:=rowBelow hr2 hb3;replace hx2:=rowBelow hx2 hb3;replace hbel2:=zqx hbel2 hb3 hbel2.size;clear x1 x2;obtain ⟨x1,x2⟩:=ratCells hx2;have f1:=hx2.frozen 0
    have f2:=hx2.frozen 1)
   go_roundw
   case rel=>exact ⟨k+1,pmul (n,d) (n',d'),by omega,by go_num,HTK,(hr2.setOther (by simp;omega) _).setOther (by simp;omega) _,ratSet hx2 _ _,(hbel2.setCell (by simp;omega) _).setCell (by simp;omega) _⟩
   case measure=>simp [intOf];omega
  ·obtain rfl:k=m:=by omega
   have hp:=HP.out;rw [← hL,List.take_length,HR.out] at hp;subst hp;obtain ⟨x1,x2⟩:=ratCells hx;obtain ⟨c1,c2⟩:=ratCells hr;have f1:=hr.frozen 0;have f2:=hr.frozen 1
   go_wp2
   exact ret_rat rfl _ _ rfl (ratSet hr _ _) rfl ⟨rfl,(hbel.setCell (by simp) _).setCell (by simp) _⟩
end Go.Proofs.YtmhllppjcilllaaGreatDoor
end
section
section
open Go Go.RowKit Cs
namespace Cs
def pfill (B:List Pr) (x:Pr) (vs:List Int):Pr:=vs.foldl (fun x v=>pmul x (B.getD v.toNat (0,0))) x
end Cs
namespace Go.Proofs.YtmhllppjcilllaaGreatDoor
theorem fill_any (w:World) (n d all s p g m cap:Nat) (B:List Pr) (hm:m≤1000000) (hp:w.cell? ⟨p,0,none⟩=some (.slice (some ⟨g,0,none⟩) m cap)) (hr0:w.rowIs g 33 (m*2) (prsF B))
  (hv:∀ v∈vl (minus all s),v.toNat<m) (hsp:∀ k,Sp (B.getD k (0,0))) (hpart:∀ k,Sp (pfill B (n,d) ((vl (minus all s)).take k))) (hT:Tab w) :
  Calls Tryz.prog 98 #[ratV n d,setV all,setV s,.pointer (some ⟨p,0,none⟩)] w fun e w'=>e = .returned (ratV (pfill B (n,d) (vl (minus all s))).1 (pfill B (n,d) (vl (minus all s))).2)∧Below w.heap.size w w':=by
 have hmi:=fun W=>minus_any W all s;have hli:=fun W h=>vlist_own W (minus all s) h;have hvb:∀ v∈vl (minus all s),1≤v∧v≤128:=vl_bounds _;have hvl:=vl_length (minus all s);obtain ⟨M,hM⟩:∃ M,minus all s=M:=⟨_,rfl⟩
 simp only [hM] at *
 obtain ⟨vs,hvs⟩:∃ vs,vl M=vs:=⟨_,rfl⟩
 simp only [hvs] at *
 obtain ⟨R,hR⟩:∃ R,pfill B (n,d) vs=R:=⟨_,rfl⟩;rw [hR];have HR:=zqh hR;have HMI:=zqh hmi;have HLI:=zqh hli;have HV:Hid (∀ v∈vs,1≤v∧v.toNat<m):=zqh fun v h=>⟨(hvb v h).1,hv v h⟩;have hg:=hr0.lt;have hpl:=World.block_lt_of_cell? w _ hp;simp only at hpl;have hcl:=fun k hk=>prsCells hr0 k hk;have HCL:=zqh hcl;have HSP:=zqh hsp;have HPT:=zqh hpart;clear hR hcl hsp hpart hr0 hM hvs hmi hli hvb hv
 have hx:=((ratNew w n d 33 _ rfl).alloc (.cells #[.int .u64 (lo all:Int),.int .u64 (hi all:Int)] 96)).alloc (.cells #[.int .u64 (lo s:Int),.int .u64 (hi s:Int)] 96) |>.alloc (.cells #[.string ⟨#[]⟩,.string ⟨#[]⟩] 33)
 have hr:=ratZero (((w.alloc (.cells #[.string (natB n),.string (natB d)] 33)).alloc (.cells #[.int .u64 (lo all:Int),.int .u64 (hi all:Int)] 96)).alloc (.cells #[.int .u64 (lo s:Int),.int .u64 (hi s:Int)] 96)) 33 (w.heap.size+1+1+1) (by simp);have hbel:=((((Below.refl w.heap.size w).alloc (zqn _) (.cells #[.string (natB n),.string (natB d)] 33)).alloc (by simp) (.cells #[.int .u64 (lo all:Int),.int .u64 (hi all:Int)] 96)).alloc (by simp;omega) (.cells #[.int .u64 (lo s:Int),.int .u64 (hi s:Int)] 96)).alloc (by simp;omega) (.cells #[.string ⟨#[]⟩,.string ⟨#[]⟩] 33)
 go_enter Tryz.func98, Tryz.ntmps98
 go_wp2_with (first
  | (go_at_call 100
     (with_reducible refine (HMI.out _).mono ?_)
     rintro e w1 ⟨rfl,hb1⟩;have hz1:=hb1.size;simp at hz1;replace hr:=rowBelow hr hb1;replace hx:=rowBelow hx hb1;replace hbel:=hbel.trans (hb1.mono (by simp;omega))
     clear hb1)
  | (go_at_call 99
     (with_reducible refine (HLI.out _ (hT.below hbel)).mono ?_)
     rintro e w2 ⟨A,c,rfl,hrd,hge,hb2⟩;have hz2:=hb2.size
     have hge2:∀ b o,A=some ⟨b,o,none⟩→w.heap.size+1+1+1<b:=fun b o h=>by have h1:=hge b o h;have h2:=hr.lt;omega
     replace hr:=rowBelow hr hb2;replace hx:=rowBelow hx hb2;replace hbel:=hbel.trans (hb2.mono (by omega))
     clear hb2 hge))
 have HGE:=zqh hge2;clear hge2 HMI HLI
 go_loopw [15] (fun t wr=>∃ k:Nat,∃ q:Pr,k≤vs.length∧t = .int .i64 k∧Hid (pfill B (n,d) (vs.take k)=q)∧wr.rowIs w.heap.size 33 2 (ratF q.1 q.2)∧wr.rowIs (w.heap.size+1+1+1) 33 2 (ratF 0 0)∧Rd wr wr.heap.size A vs.length (intF vs)∧Below w.heap.size w wr) (fun t _=>vs.length-(intOf t).toNat)
 case atStart=>exact ⟨0,(n,d),by omega,rfl,rfl,hx,hr,hrd,hbel⟩
 case round =>
  clear hr hx hbel hrd;obtain ⟨k,⟨N,D⟩,hk,rfl,HP,hx,hr,hrd,hbel⟩:=hrel;have HRD:=zqh hrd;clear hrd;by_cases hlt:k<vs.length
  ·obtain ⟨b',o',rfl,hbB',hcs⟩:=HRD.out (by omega);have hc:=hcs k hlt;clear hcs;unfold intF at hc
   have hgm:vs.getD k 0=vs[k]:=by simp [List.getD,hlt]
   rw [hgm] at hc;obtain ⟨hv1,hv2⟩:=HV.out vs[k] (List.getElem_mem hlt)
   have htk:pfill B (n,d) (vs.take (k+1))=pmul (N,D) (B.getD (vs[k]).toNat (0,0)):=by
    rw [List.take_succ_eq_append_getElem hlt];unfold pfill;rw [List.foldl_append];show pmul (pfill B (n,d) (vs.take k)) _=_;rw [HP.out]
   have hs2:=HPT.out k;rw [HP.out] at hs2;obtain ⟨v,hve⟩:∃ v:Nat,vs[k]=(v:Int):=⟨(vs[k]).toNat,by omega⟩;rw [hve] at hc hv1 hv2 htk;rw [Int.toNat_natCast] at hv2 htk;obtain ⟨c1,c2⟩:=HCL.out v hv2;replace c1:=below_cell hbel hg c1;replace c2:=below_cell hbel hg c2;have hp2:=below_cell hbel hpl hp;have hs1:=HSP.out v
   generalize B.getD v (0,0)=y at *
   obtain ⟨n',d'⟩:=y;have hml:=fun W=>qmul_any W N D n' d' hs2.1 hs2.2 hs1.1 hs1.2;have HML:=zqh hml;have HTK:=zqh htk
   have hi1:(0:Int)≤(v:Int):=by omega
   have hi2:(v:Int)<(m:Int):=by omega
   clear htk hml hs1 hs2 hgm hve hv1;obtain ⟨x1,x2⟩:=ratCells hx;have HG:=zqh (HGE.out _ _ rfl)
   go_wp2_with fail
   replace hr:=hr.drew;replace hx:=hx.drew;have hrd:=HRD.out.drew;replace hbel:=hbel.drew;have f1:=hx.frozen 0;have f2:=hx.frozen 1
   go_region_law (
    go_simp
    go_at_call 30
    (with_reducible refine (HML.out _).mono ?_)
    rintro e w3 ⟨rfl,hb3⟩;replace hr:=rowBelow hr hb3;replace hx:=rowBelow hx hb3;have hrd3:=(hrd.below hb3).more hb3.size;replace hbel:=zqx hbel hb3 hbel.size;clear x1 x2;obtain ⟨x1,x2⟩:=ratCells hx;have f1:=hx.frozen 0
    have f2:=hx.frozen 1)
   all_goals
    try go_wp2
    go_roundw
    case rel=>exact ⟨k+1,pmul (N,D) (n',d'),by omega,by go_num,HTK,ratSet hx _ _,(hr.setOther (by simp;omega) _).setOther (by simp;omega) _,(rdSetOther (rdSetOther hrd3 _ _ (fun b o h=>by cases h;have:=HG.out;simp;omega)) _ _ (fun b o h=>by cases h;have:=HG.out;simp;omega)).more (by rw [size_setCell,size_setCell];exact zqn _),(hbel.setCell (by simp) _).setCell (by simp) _⟩
    case measure=>simp [intOf];omega
  ·obtain rfl:k=vs.length:=by omega
   have hq:=HP.out;rw [List.take_length,HR.out] at hq;subst hq;obtain ⟨x1,x2⟩:=ratCells hx;obtain ⟨c1,c2⟩:=ratCells hr;have f1:=hr.frozen 0;have f2:=hr.frozen 1
   go_wp2
   exact ret_rat rfl _ _ rfl (ratSet hr _ _) rfl ⟨rfl,(hbel.setCell (by simp;omega) _).setCell (by simp;omega) _⟩
end Go.Proofs.YtmhllppjcilllaaGreatDoor
end
section
namespace Cs
def plit (n:Nat) (lo hi:List Pr) (l:Int):Pr:=if 1≤l.natAbs∧l.natAbs≤n then (if l<0 then lo.getD l.natAbs (0,0) else hi.getD l.natAbs (0,0)) else (0,0)
def RP (n:Nat) (lo hi:List Pr):Rg Pr:=⟨(0,0),(1,1),padd,pmul,plit n lo hi,fun v=>padd (plit n lo hi (-v)) (plit n lo hi v)⟩
def Wq (n:Nat) (lo hi:List Pr) (l:Int):Rat:=qp (plit n lo hi l)
def rpq (p:Pr) (q:Rat):Prop:=Lp p∧qp p=q
def S0 (p:Pr):Prop:=n8 p.1≤40000∧n8 p.2≤40000
theorem S0.sp {p:Pr} (h:S0 p):Sp p:=⟨Nat.le_trans h.1 (by omega),Nat.le_trans h.2 (by omega)⟩
theorem n8_qd0 (d:Nat) (h:n8 d≤40000):n8 (qd d)≤40000:=by
 unfold qd;split
 ·have:n8 1≤1:=(n8_le _ _).2 (by decide);omega
 ·exact h
theorem Sp_add0 {a b:Pr} (ha:S0 a) (hb:S0 b):Sp (padd a b):=by
 have e:padd a b=pq (qq (a.1*qd b.2+b.1*qd a.2) (qd a.2*qd b.2)):=by unfold padd qp;rw [← qq_add]
 have h1:=n8_qd0 _ ha.2;have h2:=n8_qd0 _ hb.2;have m1:=n8_mul a.1 (qd b.2);have m2:=n8_mul b.1 (qd a.2);have m3:=n8_add (a.1*qd b.2) (b.1*qd a.2);have m4:=n8_mul (qd a.2) (qd b.2);have a1:=ha.1;have b1:=hb.1;rw [e]
 constructor
 ·show n8 (qn _)≤_;rw [qn_qq];have:=n8_mono (Nat.div_le_self (a.1*qd b.2+b.1*qd a.2) (Nat.gcd (a.1*qd b.2+b.1*qd a.2) (qd (qd a.2*qd b.2))));omega
 ·show n8 (Rat.den _)≤_;rw [den_qq,qd_of (Nat.mul_pos (qd_pos _) (qd_pos _))];have:=n8_mono (Nat.div_le_self (qd a.2*qd b.2) (Nat.gcd (a.1*qd b.2+b.1*qd a.2) (qd a.2*qd b.2)));omega
structure WtOk (n:Nat) (lo hi:List Pr):Prop where
 ll:lo.length=n+1
 lh:hi.length=n+1
 pl:∀ k,Lp (lo.getD k (0,0))
 ph:∀ k,Lp (hi.getD k (0,0))
 l0:S0 (lo.getD 0 (0,0))
 h0:S0 (hi.getD 0 (0,0))
 bits:bitsW (Wq n lo hi) n≤wB
section
variable {n:Nat} {lo hi:List Pr}
theorem WtOk.lit (h:WtOk n lo hi) (l:Int):Lp (plit n lo hi l):=by
 unfold plit;split
 ·split
  ·exact h.pl _
  ·exact h.ph _
 ·exact Lp.zero
theorem WtOk.wb (h:WtOk n lo hi):Wb (Wq n lo hi) n where
 pos:=fun l=>qp_nonneg _
 out:=fun l hl=>by unfold Wq plit;rw [if_neg hl];exact qp_zero
 bits:=h.bits
theorem RP_rl (h:WtOk n lo hi):Rl (RP n lo hi) (RW (Wq n lo hi)) rpq where
 zero:=⟨Lp.zero,qp_zero⟩
 one:=⟨Lp.one,qp_one⟩
 add:=by rintro a _ c _ ⟨_,rfl⟩ ⟨_,rfl⟩;exact ⟨Lp_add a c,qp_add a c⟩
 mul:=by rintro a _ c _ ⟨_,rfl⟩ ⟨_,rfl⟩;exact ⟨Lp_mul a c,qp_mul a c⟩
 lit:=fun l=>⟨h.lit l,rfl⟩
 both:=fun v=>⟨Lp_add _ _,by
  show qp (padd (plit n lo hi (-v)) (plit n lo hi v))=Wq n lo hi v+Wq n lo hi (-v)
  rw [qp_add,Rat.add_comm];rfl⟩
theorem rpq.sp {p:Pr} {q:Rat} (h:rpq p q) (hs:Sm smB q):Sp p:=Sp.of h.1 (by rw [h.2];exact hs)
theorem p_lit (h:WtOk n lo hi) (l:Int):Sp (plit n lo hi l):=((RP_rl h).lit l).sp (q_lit h.wb l)
theorem p_both (h:WtOk n lo hi) (l:Int):Sp ((RP n lo hi).both l):=((RP_rl h).both l).sp (q_both h.wb l)
section
variable {N:Nt} (h:WtOk n lo hi) (hv:vld N=true) (hd:dcmp N=true) (hs:shortB N=true) (hn:N.n=(n:Int))
include h hv hd hs hn
theorem p_part (k:Nat) (hk:k<N.l.length) (m:Nat) :
  Sp ((N.l[k].ins.take m).foldl ((RP n lo hi).in1 (own N.l) (scan ((RP n lo hi).step (own N.l)) [] (N.l.take k)) N.l[k]) ((RP n lo hi).start N.l[k])) :=
 ((RP_rl h).fold ((RP_rl h).all (own N.l) (N.l.take k)) (own N.l) N.l[k] (N.l[k].ins.take m) _ _ ((RP_rl h).start N.l[k])).sp (q_part h.wb hv hd hs hn k hk m)
theorem p_wide (k:Nat) (hk:k≤N.l.length) (j:Nat) (hj:j<k) (all:Nat) (hall:∀ i,((own N.l).getD j 0).testBit i=true→all.testBit i=true) (m:Nat) :
  Sp ((RP n lo hi).wide ((scan ((RP n lo hi).step (own N.l)) [] (N.l.take k)).getD j (0,0)) ((vl (minus all ((own N.l).getD j 0))).take m)) :=
 ((RP_rl h).wide ((vl (minus all ((own N.l).getD j 0))).take m) _ _ (((RP_rl h).all (own N.l) (N.l.take k)).2 j)).sp (q_wide h.wb hv hd hs hn k hk j hj all hall m)
theorem p_at (k:Nat) (hk:k≤N.l.length) (j:Nat):Sp ((scan ((RP n lo hi).step (own N.l)) [] (N.l.take k)).getD j (0,0)):=by
 rcases Nat.lt_or_ge j k with hj | hj
 ·exact (((RP_rl h).all (own N.l) (N.l.take k)).2 j).sp (q_at h.wb hv hd hs hn k hk j hj)
 ·rw [List.getD_eq_getElem?_getD,List.getElem?_eq_none (by rw [scan_len _ _ _ hk];exact hj)];exact Sp.zero
end
theorem RP_sum (h:WtOk n lo hi) (N:Nt):qp ((RP n lo hi).sum N)=(RW (Wq n lo hi)).sum N:=((RP_rl h).sum N).2
theorem RP_Lp (h:WtOk n lo hi) (N:Nt):Lp ((RP n lo hi).sum N):=((RP_rl h).sum N).1
def bothP (lo hi:List Pr) (m:Nat):List Pr:=(List.range m).map fun v=>padd (lo.getD v (0,0)) (hi.getD v (0,0))
theorem bothP_get {lo hi:List Pr} {m v:Nat} (hv:v<m):(bothP lo hi m).getD v (0,0)=padd (lo.getD v (0,0)) (hi.getD v (0,0)):=by
 unfold bothP;simp [List.getD,hv]
theorem bothP_succ (lo hi:List Pr) (m:Nat):bothP lo hi (m+1)=bothP lo hi m++[padd (lo.getD m (0,0)) (hi.getD m (0,0))]:=by
 unfold bothP;rw [List.range_succ,List.map_append];rfl
theorem bothP_len (lo hi:List Pr) (m:Nat):(bothP lo hi m).length=m:=by simp [bothP]
theorem RP_both {v:Nat} (h1:1≤v) (h2:v≤n):(RP n lo hi).both (v:Int)=padd (lo.getD v (0,0)) (hi.getD v (0,0)):=by
 show padd (plit n lo hi (-(v:Int))) (plit n lo hi (v:Int))=_;unfold plit
 have h3 : -(v:Int)<0:=by omega
 have h4:¬ (v:Int)<0:=by omega
 have h5:0<v:=h1;simp [Int.natAbs_neg,Int.natAbs_natCast,h1,h2,h3,h4,h5]
theorem wide_fill (x:Pr):∀ (vs:List Int),(∀ v∈vs,1≤v∧v≤(n:Int))→(RP n lo hi).wide x vs=vs.foldl (fun x v=>pmul x ((bothP lo hi (n+1)).getD v.toNat (0,0))) x:=by
 intro vs
 induction vs generalizing x with
 | nil=>intro _;rfl
 | cons v vs ih =>
   intro h;obtain ⟨u,hu⟩:∃ u:Nat,v=(u:Int):=⟨v.toNat,by have:=(h v (List.mem_cons_self ..)).1;omega⟩;subst hu;have h1:=h _ (List.mem_cons_self ..);show (RP n lo hi).wide (pmul x ((RP n lo hi).both (u:Int))) vs=_;rw [ih _ fun w hw=>h w (List.mem_cons_of_mem _ hw),RP_both (by omega) (by omega)];show _=vs.foldl _ (pmul x ((bothP lo hi (n+1)).getD ((u:Int).toNat) (0,0)));rw [Int.toNat_natCast,bothP_get (by omega)]
end
end Cs
end
section
open Go Go.RowKit Cs
namespace Cs
structure AdAt (w:World) (tA tS:TypeId) (B ga go:Nat) (N:Nt) (A:Option Addr) (c:Nat):Prop where
 ad:w.rowIs ga tA 3 (arrF #[.int .i64 N.n,.slice A N.l.length c,.slice (some ⟨go,0,none⟩) N.l.length N.l.length])
 own:w.rowIs go tS (N.l.length*2) (setsF (own N.l))
 la:ga<B
 lo:go<B
 net:NtAt w B A N.l
section
variable {w w':World} {tA tS:TypeId} {B B' ga go:Nat} {N:Nt} {A:Option Addr} {c:Nat}
theorem AdAt.below (h:AdAt w tA tS B ga go N A c) (hb:Below B w w'):AdAt w' tA tS B ga go N A c :=
 ⟨rowBelow' h.ad hb h.la,rowBelow' h.own hb h.lo,h.la,h.lo,h.net.below hb⟩
theorem AdAt.more (h:AdAt w tA tS B ga go N A c) (hB:B≤B'):AdAt w tA tS B' ga go N A c:=⟨h.ad,h.own,Nat.lt_of_lt_of_le h.la hB,Nat.lt_of_lt_of_le h.lo hB,h.net.more hB⟩
end
end Cs
namespace Go.Proofs.YtmhllppjcilllaaGreatDoor
theorem newAdder_any (w:World) (N:Nt) (A:Option Addr) (c:Nat) (hN:NtAt w w.heap.size A N.l) (hv:vld N=true) :
  Calls Tryz.prog 52 #[ntV N A c] w fun e w'=>∃ ga go,e = .returned (.pointer (some ⟨ga,0,none⟩))∧w.heap.size≤ga∧AdAt w' 155 96 w'.heap.size ga go N A c∧Below w.heap.size w w':=by
 have hnv:=fun W h=>nodeVars_any W N A c h hv;have HNV:=zqh hnv;have hbox:=ntNew w N A c 24 _ rfl;have hbl:Below w.heap.size w (w.alloc (.cells #[.int .i64 N.n,.slice A N.l.length c] 24)):=(zqr _ _).alloc (zqn _) _;clear hnv hv;obtain ⟨n,l⟩:=N
 go_enter Tryz.func52, Tryz.ntmps52
 go_wp2_with fail
 replace hbox:=hbox.drew;replace hbl:=hbl.drew;obtain ⟨c1,c2⟩:=ntCells hbox
 go_region_held3 (fun w'=>w'.cell? ⟨w.heap.size,0,none⟩=some (.int .i64 n)∧w'.cell? ⟨w.heap.size,1,none⟩=some (.slice A l.length c))
  (first | exact ⟨c1,c2⟩ | go_keep)
  (first
    | (go_simp
       go_at_call 65
       (with_reducible refine (HNV.out _ ((hN.below hbl).more hbl.size)).mono ?_)
       rintro e w6 ⟨g,rfl,hg,hrow6,hb6⟩;replace hbox:=rowBelow hbox hb6;replace hbl:=zqx hbl hb6 hbl.size
       obtain ⟨c1,c2⟩:=ntCells hbox))
 have hlt:=hrow6.lt;have hbl7:=hbl.alloc hbl.size (.cells #[.int .i64 n,.slice A l.length c,.slice (some ⟨g,0,none⟩) l.length l.length] 155)
 all_goals
  try go_wp2
  go_ret
  exact ⟨w6.heap.size,g,rfl,hbl.size,⟨arrNew w6 _ _ _ 3 rfl rfl,hrow6.alloc _,by simp,by simp;omega,(hN.below hbl7).more hbl7.size⟩,hbl7⟩
end Go.Proofs.YtmhllppjcilllaaGreatDoor
end
end
