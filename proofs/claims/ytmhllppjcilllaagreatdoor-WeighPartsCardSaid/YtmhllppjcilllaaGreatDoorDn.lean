import Derived.Test.YtmhllppjcilllaaGreatDoorD7
import Derived.Test.YtmhllppjcilllaaGreatDoorDl
import Derived.Test.YtmhllppjcilllaaGreatDoorQ2
set_option linter.unusedSimpArgs false
set_option linter.unusedVariables false
set_option maxRecDepth 100000
set_option maxHeartbeats 2000000
section
open Go Go.RowKit Cs
namespace Cs
abbrev Pr:=Nat×Nat
def qp (p:Pr):Rat:=qq p.1 p.2
def pq (q:Rat):Pr:=(qn q,q.den)
def yt (a b:Pr):Pr:=pq (qp a+qp b)
def qU (a b:Pr):Pr:=pq (qp a*qp b)
def Lp (p:Pr):Prop:=Lt p.1 p.2
theorem Lp.zero:Lp (0,0):=Lt.zero
theorem Lp.pq {q:Rat} (h:0≤q):Lp (pq q):=Lt.can h
theorem zin {q:Rat} (h:0≤q):qp (pq q)=q:=pQ h
theorem qX (p:Pr):0≤qp p:=zca _ _
theorem qp_add (a b:Pr):qp (yt a b)=qp a+qp b:=zin (Rat.add_nonneg (qX a) (qX b))
theorem qp_mul (a b:Pr):qp (qU a b)=qp a*qp b:=zin (Rat.mul_nonneg (qX a) (qX b))
theorem Lp_add (a b:Pr):Lp (yt a b):=Lp.pq (Rat.add_nonneg (qX a) (qX b))
theorem Lp_mul (a b:Pr):Lp (qU a b):=Lp.pq (Rat.mul_nonneg (qX a) (qX b))
theorem qp_zero:qp (0,0)=0:=(zby 0 0).2 rfl
theorem qp_one:qp (1,1)=1:=by decide +kernel
theorem Lp.one:Lp (1,1):=by
 have h:Cs.pq 1=(1,1):=by decide +kernel
 rw [← h];exact Lp.pq (by decide +kernel)
def Sp (p:Pr):Prop:=n8 p.1≤100000∧n8 p.2≤100000
theorem n8_sm (V:Nat) (h:V<2^qD):n8 V≤100000:=zhy V qD 100000 h (by have:=zhd;omega)
theorem Sp.of {p:Pr} (h:Lp p) (hs:Sm qD (qp p)):Sp p:=by
 obtain ⟨h1,h2⟩:=h;obtain ⟨_,s1,s2⟩:=hs;constructor
 ·refine n8_sm _ ?_;rw [h1];exact s1
 ·rcases h2 with h2 | ⟨_,h2⟩
  ·refine n8_sm _ ?_;rw [h2];exact s2
  ·rw [h2,oW];omega
theorem Sp.zero:Sp (0,0):=by constructor <;> (show n8 0≤_;rw [oW];omega)
def zB (L:List Pr) (j:Nat):Value:=.string (zb (if j%2=0 then (L.getD (j / 2) (0,0)).1 else (L.getD (j / 2) (0,0)).2))
theorem p9 (L:List Pr) (k:Nat):zB L (k*2) = .string (zb (L.getD k (0,0)).1):=by
 unfold zB;rw [if_pos (by omega),show k*2 / 2=k by omega]
theorem zcF (L:List Pr) (k:Nat):zB L (k*2+1) = .string (zb (L.getD k (0,0)).2):=by
 unfold zB;rw [if_neg (by omega),show (k*2+1) / 2=k by omega]
theorem jV {w:World} {g n:Nat} {t:TypeId} {L:List Pr} (h:w.rowIs g t (n*2) (zB L)) (k:Nat) (hk:k<n) :
  w.cell? ⟨g,k*2,none⟩=some (.string (zb (L.getD k (0,0)).1))∧w.cell? ⟨g,k*2+1,none⟩=some (.string (zb (L.getD k (0,0)).2)) :=
 ⟨(h.cell (i:=k*2) (by omega)).trans (by rw [p9]),(h.cell (i:=k*2+1) (by omega)).trans (by rw [zcF])⟩
theorem zeO {w:World} {g n:Nat} {t:TypeId} {L:List Pr} (h:w.rowIs g t (n*2) (zB L)) (p:Pr) (k:Nat) (hk:k=L.length) :
  ((w.setCell ⟨g,k*2,none⟩ (.string (zb p.1))).setCell ⟨g,k*2+1,none⟩ (.string (zb p.2))).rowIs g t (n*2) (zB (L++[p])):=by
 subst hk;refine ((h.set _ _).set _ _).congr fun i hi=>?_;have e:∀ j,(L++[p]).getD j (0,0)=if j=L.length then p else L.getD j (0,0):=fun j=>by
  rw [List.getD_eq_getElem?_getD,List.getD_eq_getElem?_getD];split
  ·rename_i h1;rw [h1,List.getElem?_append_right (zv _)];simp
  ·rename_i h1;rcases Nat.lt_or_ge j L.length with h2 | h2
   ·rw [List.getElem?_append_left h2]
   ·rw [List.getElem?_append_right h2,List.getElem?_eq_none (by simp;omega),List.getElem?_eq_none (by omega)]
 by_cases h1:i=L.length*2+1
 ·subst h1;rw [if_pos rfl,zcF,e,if_pos rfl]
 ·rw [if_neg h1];by_cases h2:i=L.length*2
  ·subst h2;rw [if_pos rfl,p9,e,if_pos rfl]
  ·rw [if_neg h2];have h3:¬ i / 2=L.length:=by omega
   unfold zB;simp only [e,h3,if_false]
theorem jD {w:World} {g n:Nat} {t:TypeId} {L:List Pr} (h:w.rowIs g t (n*2) (zB L)) (p:Pr) (k:Nat) (hk:k<L.length) :
  ((w.setCell ⟨g,k*2,none⟩ (.string (zb p.1))).setCell ⟨g,k*2+1,none⟩ (.string (zb p.2))).rowIs g t (n*2) (zB (L.set k p)):=by
 refine ((h.set _ _).set _ _).congr fun i hi=>?_;have e:∀ j,(L.set k p).getD j (0,0)=if j=k then p else L.getD j (0,0):=fun j=>by
  rw [List.getD_eq_getElem?_getD,List.getD_eq_getElem?_getD,List.getElem?_set];split
  ·rename_i h1;rw [if_pos h1.symm];subst h1;first | rfl | (rw [if_pos hk];rfl)
  ·rename_i h1;rw [if_neg (fun h=>h1 h.symm)]
 by_cases h1:i=k*2+1
 ·subst h1;rw [if_pos rfl,zcF,e,if_pos rfl]
 ·rw [if_neg h1];by_cases h2:i=k*2
  ·subst h2;rw [if_pos rfl,p9,e,if_pos rfl]
  ·rw [if_neg h2];have h3:¬ i / 2=k:=by omega
   unfold zB;simp only [e,h3,if_false]
theorem zdq (w:World) (m:Nat) (t:TypeId) (g:Nat) (hg:w.heap.size=g):(w.alloc (.cells (madeCells #[.string ⟨#[]⟩,.string ⟨#[]⟩] (m*2)) t)).rowIs g t (m*2) (zB []):=by
 subst hg;have h:=World.rowIs_alloc w (madeCells #[.string ⟨#[]⟩,.string ⟨#[]⟩] (m*2)) t (zB []) fun i hi=>by
  simp [size_madeCells] at hi;unfold madeCells zB;have h0:zb 0=⟨#[]⟩:=by simp [zb,oW]
  have:i%2=0∨i%2=1:=by omega
  rcases this with h | h <;> simp [h,hi,h0]
 simpa [size_madeCells] using h
end Cs
namespace Go.Proofs.YtmhllppjcilllaaGreatDoor
theorem gO (w:World):Calls Tryz.prog 84 #[] w fun e w'=>e = .returned (zD 1 1)∧Below w.heap.size w w':=by
 have hr:=zcl w 33 _ rfl;have hbel:=(Below.refl w.heap.size w).alloc (zv _) (.cells #[.string ⟨#[]⟩,.string ⟨#[]⟩] 33);go_enter Tryz.func84, Tryz.ntmps84;go_wp2_with (
  go_at_call 55;(with_reducible refine (qof_one _).mono ?_);rintro e w1 ⟨rfl,hb1⟩;have hz1:=hb1.size;simp at hz1;replace hr:=(zh hr hb1).alloc (.cells #[.string (zb 1),.string (zb 1)] 33);obtain ⟨c0,c1⟩:=zN hr;have f0:=hr.frozen 0;have f1:=hr.frozen 1;replace hbel:=(hbel.trans (hb1.mono (by simp))).alloc (by omega) (.cells #[.string (zb 1),.string (zb 1)] 33))
 exact zcz rfl 1 1 rfl (oV hr 1 1) rfl ⟨rfl,(hbel.setCell (by simp) _).setCell (by simp) _⟩
theorem ziq (w:World) (g m cap:Nat) (L:List Pr) (hm:m≤100000000) (hL:L.length=m) (hr0:w.rowIs g 33 (m*2) (zB L))
  (hsp:∀ k,Sp (L.getD k (0,0))) (hpart:∀ k,Sp ((L.take k).foldl qU (1,1))) :
  Calls Tryz.prog 101 #[.slice (some ⟨g,0,none⟩) m cap] w fun e w'=>e = .returned (zD (L.foldl qU (1,1)).1 (L.foldl qU (1,1)).2)∧Below w.heap.size w w':=by
 obtain ⟨R,hR⟩:∃ R,L.foldl qU (1,1)=R:=⟨_,rfl⟩;rw [hR];have HR:=zc hR;have hr:=zcl w 33 _ rfl;have hbel:=(Below.refl w.heap.size w).alloc (zv _) (.cells #[.string ⟨#[]⟩,.string ⟨#[]⟩] 33);have hg:=hr0.lt;have hcl:=fun k hk=>jV hr0 k hk;have HCL:=zc hcl;have HSP:=zc hsp;have HPT:=zc hpart;clear hR hcl hsp hpart hr0;go_enter Tryz.func101, Tryz.ntmps101;go_wp2_with (
  go_at_call 84;(with_reducible refine (gO _).mono ?_);rintro e w1 ⟨rfl,hb1⟩;have hz1:=hb1.size;simp at hz1;replace hr:=(zh hr hb1).alloc (.cells #[.string (zb 1),.string (zb 1)] 33);have hx:=pR w1 1 1 33 _ rfl;replace hbel:=(hbel.trans (hb1.mono (by simp))).alloc (by omega) (.cells #[.string (zb 1),.string (zb 1)] 33);clear hb1)
 go_loopw [9] (fun t wr=>∃ k:Nat,∃ p:Pr,k≤m∧t = .int .i64 k∧Hid ((L.take k).foldl qU (1,1)=p)∧wr.rowIs w.heap.size 33 2 (qo 0 0)∧wr.rowIs w1.heap.size 33 2 (qo p.1 p.2)∧Below w.heap.size w wr) (fun t _=>m-(intOf t).toNat)
 case atStart=>exact ⟨0,(1,1),by omega,rfl,rfl,hr,hx,hbel⟩
 case round =>
  clear hr hx hbel;obtain ⟨k,⟨n,d⟩,hk,rfl,HP,hr,hx,hbel⟩:=hrel;by_cases hlt:k<m
  ·obtain ⟨c1,c2⟩:=HCL.out k hlt;replace c1:=zF hbel hg c1;replace c2:=zF hbel hg c2;have hs1:=HSP.out k;have hs2:=HPT.out k;rw [HP.out] at hs2;have htk:(L.take (k+1)).foldl qU (1,1)=qU (n,d) (L.getD k (0,0)):=by
    rw [List.take_succ_eq_append_getElem (by omega),List.foldl_append,HP.out,List.getD_eq_getElem?_getD,List.getElem?_eq_getElem (by omega)];rfl
   generalize L.getD k (0,0)=q at *
   obtain ⟨n',d'⟩:=q;have HTK:=zc htk;have hml:=fun W=>zev W n d n' d' hs2.1 hs2.2 hs1.1 hs1.2;have HML:=zc hml;clear htk hml hs1 hs2;obtain ⟨W0,rfl⟩:∃ W0,W0=wr:=⟨wr,rfl⟩;have hbel2:=hbel.alloc hbel.size (.cells #[.string (zb n'),.string (zb d')] 33);have hr2:=hr.alloc (.cells #[.string (zb n'),.string (zb d')] 33);have hx2:=hx.alloc (.cells #[.string (zb n'),.string (zb d')] 33);obtain ⟨x1,x2⟩:=zN hx2;go_wp2_with (
    go_at_call 30;(with_reducible refine (HML.out _).mono ?_);rintro e w3 ⟨rfl,hb3⟩;replace hr2:=zh hr2 hb3;replace hx2:=zh hx2 hb3;replace hbel2:=zx hbel2 hb3 hbel2.size;clear x1 x2;obtain ⟨x1,x2⟩:=zN hx2;have f1:=hx2.frozen 0;have f2:=hx2.frozen 1)
   go_roundw
   case rel=>exact ⟨k+1,qU (n,d) (n',d'),by omega,by go_num,HTK,(hr2.setOther (by simp;omega) _).setOther (by simp;omega) _,oV hx2 _ _,(hbel2.setCell (by simp;omega) _).setCell (by simp;omega) _⟩
   case measure=>simp [intOf];omega
  ·obtain rfl:k=m:=by omega
   have hp:=HP.out;rw [← hL,List.take_length,HR.out] at hp;subst hp;obtain ⟨x1,x2⟩:=zN hx;obtain ⟨c1,c2⟩:=zN hr;have f1:=hr.frozen 0;have f2:=hr.frozen 1;go_wp2;exact zcz rfl _ _ rfl (oV hr _ _) rfl ⟨rfl,(hbel.setCell (by simp) _).setCell (by simp) _⟩
end Go.Proofs.YtmhllppjcilllaaGreatDoor
end
section
section
open Go Go.RowKit Cs
namespace Cs
def pO (B:List Pr) (x:Pr) (vs:List Int):Pr:=vs.foldl (fun x v=>qU x (B.getD v.toNat (0,0))) x
end Cs
namespace Go.Proofs.YtmhllppjcilllaaGreatDoor
theorem zj7 (w:World) (n d all s p g m cap:Nat) (B:List Pr) (hm:m≤1000000) (hp:w.cell? ⟨p,0,none⟩=some (.slice (some ⟨g,0,none⟩) m cap)) (hr0:w.rowIs g 33 (m*2) (zB B))
  (hv:∀ v∈vl (zY all s),v.toNat<m) (hsp:∀ k,Sp (B.getD k (0,0))) (hpart:∀ k,Sp (pO B (n,d) ((vl (zY all s)).take k))) (hT:Tab w) :
  Calls Tryz.prog 98 #[zD n d,qk all,qk s,.pointer (some ⟨p,0,none⟩)] w fun e w'=>e = .returned (zD (pO B (n,d) (vl (zY all s))).1 (pO B (n,d) (vl (zY all s))).2)∧Below w.heap.size w w':=by
 have hmi:=fun W=>zh2 W all s;have hli:=fun W h=>o8 W (zY all s) h;have hvb:∀ v∈vl (zY all s),1≤v∧v≤128:=zgX _;have hvl:=zcr (zY all s);obtain ⟨M,hM⟩:∃ M,zY all s=M:=⟨_,rfl⟩;simp only [hM] at *
 obtain ⟨vs,hvs⟩:∃ vs,vl M=vs:=⟨_,rfl⟩;simp only [hvs] at *
 obtain ⟨R,hR⟩:∃ R,pO B (n,d) vs=R:=⟨_,rfl⟩;rw [hR];have HR:=zc hR;have HMI:=zc hmi;have HLI:=zc hli;have HV:Hid (∀ v∈vs,1≤v∧v.toNat<m):=zc fun v h=>⟨(hvb v h).1,hv v h⟩;have hg:=hr0.lt;have hpl:=World.block_lt_of_cell? w _ hp;simp only at hpl;have hcl:=fun k hk=>jV hr0 k hk;have HCL:=zc hcl;have HSP:=zc hsp;have HPT:=zc hpart;clear hR hcl hsp hpart hr0 hM hvs hmi hli hvb hv;have hx:=((pR w n d 33 _ rfl).alloc (.cells #[.int .u64 (lo all:Int),.int .u64 (hi all:Int)] 96)).alloc (.cells #[.int .u64 (lo s:Int),.int .u64 (hi s:Int)] 96) |>.alloc (.cells #[.string ⟨#[]⟩,.string ⟨#[]⟩] 33)
 have hr:=zcl (((w.alloc (.cells #[.string (zb n),.string (zb d)] 33)).alloc (.cells #[.int .u64 (lo all:Int),.int .u64 (hi all:Int)] 96)).alloc (.cells #[.int .u64 (lo s:Int),.int .u64 (hi s:Int)] 96)) 33 (w.heap.size+1+1+1) (by simp);have hbel:=((((Below.refl w.heap.size w).alloc (zv _) (.cells #[.string (zb n),.string (zb d)] 33)).alloc (by simp) (.cells #[.int .u64 (lo all:Int),.int .u64 (hi all:Int)] 96)).alloc (by simp;omega) (.cells #[.int .u64 (lo s:Int),.int .u64 (hi s:Int)] 96)).alloc (by simp;omega) (.cells #[.string ⟨#[]⟩,.string ⟨#[]⟩] 33);go_enter Tryz.func98, Tryz.ntmps98;go_wp2_with (first
  | (go_at_call 100
     (with_reducible refine (HMI.out _).mono ?_);rintro e w1 ⟨rfl,hb1⟩;have hz1:=hb1.size;simp at hz1;replace hr:=zh hr hb1;replace hx:=zh hx hb1;replace hbel:=hbel.trans (hb1.mono (by simp;omega));clear hb1)
  | (go_at_call 99
     (with_reducible refine (HLI.out _ (hT.below hbel)).mono ?_);rintro e w2 ⟨A,c,rfl,hrd,hge,hb2⟩;have hz2:=hb2.size;have hge2:∀ b o,A=some ⟨b,o,none⟩→w.heap.size+1+1+1<b:=fun b o h=>by have h1:=hge b o h;have h2:=hr.lt;omega
     replace hr:=zh hr hb2;replace hx:=zh hx hb2;replace hbel:=hbel.trans (hb2.mono (by omega));clear hb2 hge))
 have HGE:=zc hge2;clear hge2 HMI HLI;go_loopw [15] (fun t wr=>∃ k:Nat,∃ q:Pr,k≤vs.length∧t = .int .i64 k∧Hid (pO B (n,d) (vs.take k)=q)∧wr.rowIs w.heap.size 33 2 (qo q.1 q.2)∧wr.rowIs (w.heap.size+1+1+1) 33 2 (qo 0 0)∧Rd wr wr.heap.size A vs.length (zV vs)∧Below w.heap.size w wr) (fun t _=>vs.length-(intOf t).toNat)
 case atStart=>exact ⟨0,(n,d),by omega,rfl,rfl,hx,hr,hrd,hbel⟩
 case round =>
  clear hr hx hbel hrd;obtain ⟨k,⟨N,D⟩,hk,rfl,HP,hx,hr,hrd,hbel⟩:=hrel;have HRD:=zc hrd;clear hrd;by_cases hlt:k<vs.length
  ·obtain ⟨b',o',rfl,hbB',hcs⟩:=HRD.out (by omega);have hc:=hcs k hlt;clear hcs;unfold zV at hc;have hgm:vs.getD k 0=vs[k]:=by simp [List.getD,hlt]
   rw [hgm] at hc;obtain ⟨hv1,hv2⟩:=HV.out vs[k] (List.getElem_mem hlt);have htk:pO B (n,d) (vs.take (k+1))=qU (N,D) (B.getD (vs[k]).toNat (0,0)):=by
    rw [List.take_succ_eq_append_getElem hlt];unfold pO;rw [List.foldl_append];show qU (pO B (n,d) (vs.take k)) _=_;rw [HP.out]
   have hs2:=HPT.out k;rw [HP.out] at hs2;obtain ⟨v,hve⟩:∃ v:Nat,vs[k]=(v:Int):=⟨(vs[k]).toNat,by omega⟩;rw [hve] at hc hv1 hv2 htk;rw [Int.toNat_natCast] at hv2 htk;obtain ⟨c1,c2⟩:=HCL.out v hv2;replace c1:=zF hbel hg c1;replace c2:=zF hbel hg c2;have hp2:=zF hbel hpl hp;have hs1:=HSP.out v;generalize B.getD v (0,0)=y at *
   obtain ⟨n',d'⟩:=y;have hml:=fun W=>zev W N D n' d' hs2.1 hs2.2 hs1.1 hs1.2;have HML:=zc hml;have HTK:=zc htk;have hi1:(0:Int)≤(v:Int):=by omega
   have hi2:(v:Int)<(m:Int):=by omega
   clear htk hml hs1 hs2 hgm hve hv1;obtain ⟨x1,x2⟩:=zN hx;have HG:=zc (HGE.out _ _ rfl);go_wp2_with fail
   replace hr:=hr.drew;replace hx:=hx.drew;have hrd:=HRD.out.drew;replace hbel:=hbel.drew;have f1:=hx.frozen 0;have f2:=hx.frozen 1
   go_region_law (
    go_simp;go_at_call 30;(with_reducible refine (HML.out _).mono ?_);rintro e w3 ⟨rfl,hb3⟩;replace hr:=zh hr hb3;replace hx:=zh hx hb3;have hrd3:=(hrd.below hb3).more hb3.size;replace hbel:=zx hbel hb3 hbel.size;clear x1 x2;obtain ⟨x1,x2⟩:=zN hx;have f1:=hx.frozen 0;have f2:=hx.frozen 1)
   all_goals
    try go_wp2
    go_roundw
    case rel=>exact ⟨k+1,qU (N,D) (n',d'),by omega,by go_num,HTK,oV hx _ _,(hr.setOther (by simp;omega) _).setOther (by simp;omega) _,(zfC (zfC hrd3 _ _ (fun b o h=>by cases h;have:=HG.out;simp;omega)) _ _ (fun b o h=>by cases h;have:=HG.out;simp;omega)).more (by rw [yO,yO];exact zv _),(hbel.setCell (by simp) _).setCell (by simp) _⟩
    case measure=>simp [intOf];omega
  ·obtain rfl:k=vs.length:=by omega
   have hq:=HP.out;rw [List.take_length,HR.out] at hq;subst hq;obtain ⟨x1,x2⟩:=zN hx;obtain ⟨c1,c2⟩:=zN hr;have f1:=hr.frozen 0;have f2:=hr.frozen 1;go_wp2;exact zcz rfl _ _ rfl (oV hr _ _) rfl ⟨rfl,(hbel.setCell (by simp;omega) _).setCell (by simp;omega) _⟩
end Go.Proofs.YtmhllppjcilllaaGreatDoor
end
section
namespace Cs
def qv (n:Nat) (lo hi:List Pr) (l:Int):Pr:=if 1≤l.natAbs∧l.natAbs≤n then (if l<0 then lo.getD l.natAbs (0,0) else hi.getD l.natAbs (0,0)) else (0,0)
def RP (n:Nat) (lo hi:List Pr):Rg Pr:=⟨(0,0),(1,1),yt,qU,qv n lo hi,fun v=>yt (qv n lo hi (-v)) (qv n lo hi v)⟩
def Wq (n:Nat) (lo hi:List Pr) (l:Int):Rat:=qp (qv n lo hi l)
def rpq (p:Pr) (q:Rat):Prop:=Lp p∧qp p=q
def S0 (p:Pr):Prop:=n8 p.1≤40000∧n8 p.2≤40000
theorem S0.sp {p:Pr} (h:S0 p):Sp p:=⟨Nat.le_trans h.1 (by omega),Nat.le_trans h.2 (by omega)⟩
theorem n8_qd0 (d:Nat) (h:n8 d≤40000):n8 (qd d)≤40000:=by
 unfold qd;split
 ·have:n8 1≤1:=(p6 _ _).2 (by decide);omega
 ·exact h
theorem Sp_add0 {a b:Pr} (ha:S0 a) (hb:S0 b):Sp (yt a b):=by
 have e:yt a b=pq (qq (a.1*qd b.2+b.1*qd a.2) (qd a.2*qd b.2)):=by unfold yt qp;rw [← zho]
 have h1:=n8_qd0 _ ha.2;have h2:=n8_qd0 _ hb.2;have m1:=yz a.1 (qd b.2);have m2:=yz b.1 (qd a.2);have m3:=zhz (a.1*qd b.2) (b.1*qd a.2);have m4:=yz (qd a.2) (qd b.2);have a1:=ha.1;have b1:=hb.1;rw [e];constructor
 ·show n8 (qn _)≤_;rw [ja];have:=zdr (Nat.div_le_self (a.1*qd b.2+b.1*qd a.2) (Nat.gcd (a.1*qd b.2+b.1*qd a.2) (qd (qd a.2*qd b.2))));omega
 ·show n8 (Rat.den _)≤_;rw [zhM,qJ (Nat.mul_pos (yc _) (yc _))];have:=zdr (Nat.div_le_self (qd a.2*qd b.2) (Nat.gcd (a.1*qd b.2+b.1*qd a.2) (qd a.2*qd b.2)));omega
structure WtOk (n:Nat) (lo hi:List Pr):Prop where
 ll:lo.length=n+1
 lh:hi.length=n+1
 pl:∀ k,Lp (lo.getD k (0,0))
 ph:∀ k,Lp (hi.getD k (0,0))
 l0:S0 (lo.getD 0 (0,0))
 h0:S0 (hi.getD 0 (0,0))
 bits:ziA (Wq n lo hi) n≤wB
section
variable {n:Nat} {lo hi:List Pr}
theorem WtOk.lit (h:WtOk n lo hi) (l:Int):Lp (qv n lo hi l):=by
 unfold qv;split
 ·split
  ·exact h.pl _
  ·exact h.ph _
 ·exact Lp.zero
theorem WtOk.wb (h:WtOk n lo hi):Wb (Wq n lo hi) n where
 pos:=fun l=>qX _
 out:=fun l hl=>by unfold Wq qv;rw [if_neg hl];exact qp_zero
 bits:=h.bits
theorem zf1 (h:WtOk n lo hi):Rl (RP n lo hi) (RW (Wq n lo hi)) rpq where
 zero:=⟨Lp.zero,qp_zero⟩
 one:=⟨Lp.one,qp_one⟩
 add:=by rintro a _ c _ ⟨_,rfl⟩ ⟨_,rfl⟩;exact ⟨Lp_add a c,qp_add a c⟩
 mul:=by rintro a _ c _ ⟨_,rfl⟩ ⟨_,rfl⟩;exact ⟨Lp_mul a c,qp_mul a c⟩
 lit:=fun l=>⟨h.lit l,rfl⟩
 both:=fun v=>⟨Lp_add _ _,by
  show qp (yt (qv n lo hi (-v)) (qv n lo hi v))=Wq n lo hi v+Wq n lo hi (-v);rw [qp_add,Rat.add_comm];rfl⟩
theorem rpq.sp {p:Pr} {q:Rat} (h:rpq p q) (hs:Sm qD q):Sp p:=Sp.of h.1 (by rw [h.2];exact hs)
theorem p_lit (h:WtOk n lo hi) (l:Int):Sp (qv n lo hi l):=((zf1 h).lit l).sp (q_lit h.wb l)
theorem p_both (h:WtOk n lo hi) (l:Int):Sp ((RP n lo hi).both l):=((zf1 h).both l).sp (q_both h.wb l)
section
variable {N:Nt} (h:WtOk n lo hi) (hv:zE N=true) (hd:qc N=true) (hs:yA N=true) (hn:N.n=(n:Int))
include h hv hd hs hn
theorem p_part (k:Nat) (hk:k<N.l.length) (m:Nat) :
  Sp ((N.l[k].ins.take m).foldl ((RP n lo hi).in1 (own N.l) (scan ((RP n lo hi).step (own N.l)) [] (N.l.take k)) N.l[k]) ((RP n lo hi).start N.l[k])) :=
 ((zf1 h).fold ((zf1 h).all (own N.l) (N.l.take k)) (own N.l) N.l[k] (N.l[k].ins.take m) _ _ ((zf1 h).start N.l[k])).sp (q_part h.wb hv hd hs hn k hk m)
theorem p_wide (k:Nat) (hk:k≤N.l.length) (j:Nat) (hj:j<k) (all:Nat) (hall:∀ i,((own N.l).getD j 0).testBit i=true→all.testBit i=true) (m:Nat) :
  Sp ((RP n lo hi).wide ((scan ((RP n lo hi).step (own N.l)) [] (N.l.take k)).getD j (0,0)) ((vl (zY all ((own N.l).getD j 0))).take m)) :=
 ((zf1 h).wide ((vl (zY all ((own N.l).getD j 0))).take m) _ _ (((zf1 h).all (own N.l) (N.l.take k)).2 j)).sp (jC h.wb hv hd hs hn k hk j hj all hall m)
theorem p_at (k:Nat) (hk:k≤N.l.length) (j:Nat):Sp ((scan ((RP n lo hi).step (own N.l)) [] (N.l.take k)).getD j (0,0)):=by
 rcases Nat.lt_or_ge j k with hj | hj
 ·exact (((zf1 h).all (own N.l) (N.l.take k)).2 j).sp (q_at h.wb hv hd hs hn k hk j hj)
 ·rw [List.getD_eq_getElem?_getD,List.getElem?_eq_none (by rw [yK _ _ _ hk];exact hj)];exact Sp.zero
end
theorem zhT (h:WtOk n lo hi) (N:Nt):qp ((RP n lo hi).sum N)=(RW (Wq n lo hi)).sum N:=((zf1 h).sum N).2
theorem oO (h:WtOk n lo hi) (N:Nt):Lp ((RP n lo hi).sum N):=((zf1 h).sum N).1
def yq (lo hi:List Pr) (m:Nat):List Pr:=(List.range m).map fun v=>yt (lo.getD v (0,0)) (hi.getD v (0,0))
theorem zhQ {lo hi:List Pr} {m v:Nat} (hv:v<m):(yq lo hi m).getD v (0,0)=yt (lo.getD v (0,0)) (hi.getD v (0,0)):=by
 unfold yq;simp [List.getD,hv]
theorem zkz (lo hi:List Pr) (m:Nat):yq lo hi (m+1)=yq lo hi m++[yt (lo.getD m (0,0)) (hi.getD m (0,0))]:=by
 unfold yq;rw [List.range_succ,List.map_append];rfl
theorem zhP (lo hi:List Pr) (m:Nat):(yq lo hi m).length=m:=by simp [yq]
theorem oN {v:Nat} (h1:1≤v) (h2:v≤n):(RP n lo hi).both (v:Int)=yt (lo.getD v (0,0)) (hi.getD v (0,0)):=by
 show yt (qv n lo hi (-(v:Int))) (qv n lo hi (v:Int))=_;unfold qv;have h3 : -(v:Int)<0:=by omega
 have h4:¬ (v:Int)<0:=by omega
 have h5:0<v:=h1;simp [Int.natAbs_neg,Int.natAbs_natCast,h1,h2,h3,h4,h5]
theorem zgQ (x:Pr):∀ (vs:List Int),(∀ v∈vs,1≤v∧v≤(n:Int))→(RP n lo hi).wide x vs=vs.foldl (fun x v=>qU x ((yq lo hi (n+1)).getD v.toNat (0,0))) x:=by
 intro vs
 induction vs generalizing x with
 | nil=>intro _;rfl
 | cons v vs ih =>
   intro h;obtain ⟨u,hu⟩:∃ u:Nat,v=(u:Int):=⟨v.toNat,by have:=(h v (List.mem_cons_self ..)).1;omega⟩;subst hu;have h1:=h _ (List.mem_cons_self ..);show (RP n lo hi).wide (qU x ((RP n lo hi).both (u:Int))) vs=_;rw [ih _ fun w hw=>h w (List.mem_cons_of_mem _ hw),oN (by omega) (by omega)];show _=vs.foldl _ (qU x ((yq lo hi (n+1)).getD ((u:Int).toNat) (0,0)));rw [Int.toNat_natCast,zhQ (by omega)]
end
end Cs
end
section
open Go Go.RowKit Cs
namespace Cs
structure AdAt (w:World) (tA tS:TypeId) (B ga go:Nat) (N:Nt) (A:Option Addr) (c:Nat):Prop where
 ad:w.rowIs ga tA 3 (zC #[.int .i64 N.n,.slice A N.l.length c,.slice (some ⟨go,0,none⟩) N.l.length N.l.length])
 own:w.rowIs go tS (N.l.length*2) (qH (own N.l))
 la:ga<B
 lo:go<B
 net:NtAt w B A N.l
section
variable {w w':World} {tA tS:TypeId} {B B' ga go:Nat} {N:Nt} {A:Option Addr} {c:Nat}
theorem AdAt.below (h:AdAt w tA tS B ga go N A c) (hb:Below B w w'):AdAt w' tA tS B ga go N A c :=
 ⟨zd5 h.ad hb h.la,zd5 h.own hb h.lo,h.la,h.lo,h.net.below hb⟩
theorem AdAt.more (h:AdAt w tA tS B ga go N A c) (hB:B≤B'):AdAt w tA tS B' ga go N A c:=⟨h.ad,h.own,Nat.lt_of_lt_of_le h.la hB,Nat.lt_of_lt_of_le h.lo hB,h.net.more hB⟩
end
end Cs
namespace Go.Proofs.YtmhllppjcilllaaGreatDoor
theorem zcN (w:World) (N:Nt) (A:Option Addr) (c:Nat) (hN:NtAt w w.heap.size A N.l) (hv:zE N=true) :
  Calls Tryz.prog 52 #[qB N A c] w fun e w'=>∃ ga go,e = .returned (.pointer (some ⟨ga,0,none⟩))∧w.heap.size≤ga∧AdAt w' 155 96 w'.heap.size ga go N A c∧Below w.heap.size w w':=by
 have hnv:=fun W h=>zcM W N A c h hv;have HNV:=zc hnv;have hbox:=pN w N A c 24 _ rfl;have hbl:Below w.heap.size w (w.alloc (.cells #[.int .i64 N.n,.slice A N.l.length c] 24)):=(zy _ _).alloc (zv _) _;clear hnv hv;obtain ⟨n,l⟩:=N;go_enter Tryz.func52, Tryz.ntmps52;go_wp2_with fail
 replace hbox:=hbox.drew;replace hbl:=hbl.drew;obtain ⟨c1,c2⟩:=yB hbox;go_region_held3 (fun w'=>w'.cell? ⟨w.heap.size,0,none⟩=some (.int .i64 n)∧w'.cell? ⟨w.heap.size,1,none⟩=some (.slice A l.length c))
  (first | exact ⟨c1,c2⟩ | go_keep)
  (first
    | (go_simp
       go_at_call 65;(with_reducible refine (HNV.out _ ((hN.below hbl).more hbl.size)).mono ?_);rintro e w6 ⟨g,rfl,hg,hrow6,hb6⟩;replace hbox:=zh hbox hb6;replace hbl:=zx hbl hb6 hbl.size;obtain ⟨c1,c2⟩:=yB hbox))
 have hlt:=hrow6.lt;have hbl7:=hbl.alloc hbl.size (.cells #[.int .i64 n,.slice A l.length c,.slice (some ⟨g,0,none⟩) l.length l.length] 155);all_goals
  try go_wp2
  go_ret;exact ⟨w6.heap.size,g,rfl,hbl.size,⟨zI w6 _ _ _ 3 rfl rfl,hrow6.alloc _,by simp,by simp;omega,(hN.below hbl7).more hbl7.size⟩,hbl7⟩
end Go.Proofs.YtmhllppjcilllaaGreatDoor
end
end
