import Derived.Test.YtmhllppjcilllaaGreatDoorD7
import Derived.Test.YtmhllppjcilllaaGreatDoorDl
import Derived.Test.YtmhllppjcilllaaGreatDoorQ2
set_option linter.unusedSimpArgs false
set_option linter.unusedVariables false
set_option maxRecDepth 100000
set_option maxHeartbeats 2000000
section
open Go Go.RowKit Cs
namespace Cs
abbrev Pr:=Nat×Nat
def qp (p:Pr):Rat:=qq p.1 p.2
def pq (q:Rat):Pr:=(qn q,q.den)
def yl (a b:Pr):Pr:=pq (qp a+qp b)
def qY (a b:Pr):Pr:=pq (qp a*qp b)
def Lp (p:Pr):Prop:=Lt p.1 p.2
theorem Lp.zero:Lp (0,0):=Lt.zero
theorem Lp.pq {q:Rat} (h:0≤q):Lp (pq q):=Lt.can h
theorem zij {q:Rat} (h:0≤q):qp (pq q)=q:=js h
theorem yY (p:Pr):0≤qp p:=zby _ _
theorem qp_add (a b:Pr):qp (yl a b)=qp a+qp b:=zij (Rat.add_nonneg (yY a) (yY b))
theorem qp_mul (a b:Pr):qp (qY a b)=qp a*qp b:=zij (Rat.mul_nonneg (yY a) (yY b))
theorem Lp_add (a b:Pr):Lp (yl a b):=Lp.pq (Rat.add_nonneg (yY a) (yY b))
theorem Lp_mul (a b:Pr):Lp (qY a b):=Lp.pq (Rat.mul_nonneg (yY a) (yY b))
theorem qp_zero:qp (0,0)=0:=(zbF 0 0).2 rfl
theorem qp_one:qp (1,1)=1:=by decide +kernel
theorem Lp.one:Lp (1,1):=by
 have h:Cs.pq 1=(1,1):=by decide +kernel
 rw [← h];exact Lp.pq (by decide +kernel)
def Sp (p:Pr):Prop:=n8 p.1≤100000∧n8 p.2≤100000
theorem n8_sm (V:Nat) (h:V<2^qP):n8 V≤100000:=zhx V qP 100000 h (by have:=zhb;omega)
theorem Sp.of {p:Pr} (h:Lp p) (hs:Sm qP (qp p)):Sp p:=by
 obtain ⟨h1,h2⟩:=h;obtain ⟨_,s1,s2⟩:=hs;constructor
 ·refine n8_sm _ ?_;rw [h1];exact s1
 ·rcases h2 with h2 | ⟨_,h2⟩
  ·refine n8_sm _ ?_;rw [h2];exact s2
  ·rw [h2,oW];omega
theorem Sp.zero:Sp (0,0):=by constructor <;> (show n8 0≤_;rw [oW];omega)
def zD (L:List Pr) (j:Nat):Value:=.string (za (if j%2=0 then (L.getD (j / 2) (0,0)).1 else (L.getD (j / 2) (0,0)).2))
theorem oR (L:List Pr) (k:Nat):zD L (k*2) = .string (za (L.getD k (0,0)).1):=by
 unfold zD;rw [if_pos (by omega),show k*2 / 2=k by omega]
theorem oS (L:List Pr) (k:Nat):zD L (k*2+1) = .string (za (L.getD k (0,0)).2):=by
 unfold zD;rw [if_neg (by omega),show (k*2+1) / 2=k by omega]
theorem zex {w:World} {g n:Nat} {t:TypeId} {L:List Pr} (h:w.rowIs g t (n*2) (zD L)) (k:Nat) (hk:k<n) :
  w.cell? ⟨g,k*2,none⟩=some (.string (za (L.getD k (0,0)).1))∧w.cell? ⟨g,k*2+1,none⟩=some (.string (za (L.getD k (0,0)).2)) :=
 ⟨(h.cell (i:=k*2) (by omega)).trans (by rw [oR]),(h.cell (i:=k*2+1) (by omega)).trans (by rw [oS])⟩
theorem zeQ {w:World} {g n:Nat} {t:TypeId} {L:List Pr} (h:w.rowIs g t (n*2) (zD L)) (p:Pr) (k:Nat) (hk:k=L.length) :
  ((w.setCell ⟨g,k*2,none⟩ (.string (za p.1))).setCell ⟨g,k*2+1,none⟩ (.string (za p.2))).rowIs g t (n*2) (zD (L++[p])):=by
 subst hk;refine ((h.set _ _).set _ _).congr fun i hi=>?_;have e:∀ j,(L++[p]).getD j (0,0)=if j=L.length then p else L.getD j (0,0):=fun j=>by
  rw [List.getD_eq_getElem?_getD,List.getD_eq_getElem?_getD];split
  ·rename_i h1;rw [h1,List.getElem?_append_right (zu _)];simp
  ·rename_i h1;rcases Nat.lt_or_ge j L.length with h2 | h2
   ·rw [List.getElem?_append_left h2]
   ·rw [List.getElem?_append_right h2,List.getElem?_eq_none (by simp;omega),List.getElem?_eq_none (by omega)]
 by_cases h1:i=L.length*2+1
 ·subst h1;rw [if_pos rfl,oS,e,if_pos rfl]
 ·rw [if_neg h1];by_cases h2:i=L.length*2
  ·subst h2;rw [if_pos rfl,oR,e,if_pos rfl]
  ·rw [if_neg h2];have h3:¬ i / 2=L.length:=by omega
   unfold zD;simp only [e,h3,if_false]
theorem prsSet {w:World} {g n:Nat} {t:TypeId} {L:List Pr} (h:w.rowIs g t (n*2) (zD L)) (p:Pr) (k:Nat) (hk:k<L.length) :
  ((w.setCell ⟨g,k*2,none⟩ (.string (za p.1))).setCell ⟨g,k*2+1,none⟩ (.string (za p.2))).rowIs g t (n*2) (zD (L.set k p)):=by
 refine ((h.set _ _).set _ _).congr fun i hi=>?_;have e:∀ j,(L.set k p).getD j (0,0)=if j=k then p else L.getD j (0,0):=fun j=>by
  rw [List.getD_eq_getElem?_getD,List.getD_eq_getElem?_getD,List.getElem?_set];split
  ·rename_i h1;rw [if_pos h1.symm];subst h1;first | rfl | (rw [if_pos hk];rfl)
  ·rename_i h1;rw [if_neg (fun h=>h1 h.symm)]
 by_cases h1:i=k*2+1
 ·subst h1;rw [if_pos rfl,oS,e,if_pos rfl]
 ·rw [if_neg h1];by_cases h2:i=k*2
  ·subst h2;rw [if_pos rfl,oR,e,if_pos rfl]
  ·rw [if_neg h2];have h3:¬ i / 2=k:=by omega
   unfold zD;simp only [e,h3,if_false]
theorem zeR (w:World) (m:Nat) (t:TypeId) (g:Nat) (hg:w.heap.size=g):(w.alloc (.cells (madeCells #[.string ⟨#[]⟩,.string ⟨#[]⟩] (m*2)) t)).rowIs g t (m*2) (zD []):=by
 subst hg;have h:=World.rowIs_alloc w (madeCells #[.string ⟨#[]⟩,.string ⟨#[]⟩] (m*2)) t (zD []) fun i hi=>by
  simp [size_madeCells] at hi;unfold madeCells zD;have h0:za 0=⟨#[]⟩:=by simp [za,oW]
  have:i%2=0∨i%2=1:=by omega
  rcases this with h | h <;> simp [h,hi,h0]
 simpa [size_madeCells] using h
end Cs
namespace Go.Proofs.YtmhllppjcilllaaGreatDoor
theorem gJ (w:World):Calls Tryz.prog 84 #[] w fun e w'=>e = .returned (zI 1 1)∧Below w.heap.size w w':=by
 have hr:=zco w 33 _ rfl;have hbel:=(Below.refl w.heap.size w).alloc (zu _) (.cells #[.string ⟨#[]⟩,.string ⟨#[]⟩] 33);go_enter Tryz.func84, Tryz.ntmps84;go_wp2_with (
  go_at_call 55;(with_reducible refine (qof_one _).mono ?_);rintro e w1 ⟨rfl,hb1⟩;have hz1:=hb1.size;simp at hz1;replace hr:=(zo hr hb1).alloc (.cells #[.string (za 1),.string (za 1)] 33);obtain ⟨c0,c1⟩:=qj hr;have f0:=hr.frozen 0;have f1:=hr.frozen 1;replace hbel:=(hbel.trans (hb1.mono (by simp))).alloc (by omega) (.cells #[.string (za 1),.string (za 1)] 33))
 exact zcF rfl 1 1 rfl (oT hr 1 1) rfl ⟨rfl,(hbel.setCell (by simp) _).setCell (by simp) _⟩
theorem zim (w:World) (g m cap:Nat) (L:List Pr) (hm:m≤100000000) (hL:L.length=m) (hr0:w.rowIs g 33 (m*2) (zD L))
  (hsp:∀ k,Sp (L.getD k (0,0))) (hpart:∀ k,Sp ((L.take k).foldl qY (1,1))) :
  Calls Tryz.prog 101 #[.slice (some ⟨g,0,none⟩) m cap] w fun e w'=>e = .returned (zI (L.foldl qY (1,1)).1 (L.foldl qY (1,1)).2)∧Below w.heap.size w w':=by
 obtain ⟨R,hR⟩:∃ R,L.foldl qY (1,1)=R:=⟨_,rfl⟩;rw [hR];have HR:=zb hR;have hr:=zco w 33 _ rfl;have hbel:=(Below.refl w.heap.size w).alloc (zu _) (.cells #[.string ⟨#[]⟩,.string ⟨#[]⟩] 33);have hg:=hr0.lt;have hcl:=fun k hk=>zex hr0 k hk;have HCL:=zb hcl;have HSP:=zb hsp;have HPT:=zb hpart;clear hR hcl hsp hpart hr0;go_enter Tryz.func101, Tryz.ntmps101;go_wp2_with (
  go_at_call 84;(with_reducible refine (gJ _).mono ?_);rintro e w1 ⟨rfl,hb1⟩;have hz1:=hb1.size;simp at hz1;replace hr:=(zo hr hb1).alloc (.cells #[.string (za 1),.string (za 1)] 33);have hx:=pN w1 1 1 33 _ rfl;replace hbel:=(hbel.trans (hb1.mono (by simp))).alloc (by omega) (.cells #[.string (za 1),.string (za 1)] 33);clear hb1)
 go_loopw [9] (fun t wr=>∃ k:Nat,∃ p:Pr,k≤m∧t = .int .i64 k∧Hid ((L.take k).foldl qY (1,1)=p)∧wr.rowIs w.heap.size 33 2 (qI 0 0)∧wr.rowIs w1.heap.size 33 2 (qI p.1 p.2)∧Below w.heap.size w wr) (fun t _=>m-(intOf t).toNat)
 case atStart=>exact ⟨0,(1,1),by omega,rfl,rfl,hr,hx,hbel⟩
 case round =>
  clear hr hx hbel;obtain ⟨k,⟨n,d⟩,hk,rfl,HP,hr,hx,hbel⟩:=hrel;by_cases hlt:k<m
  ·obtain ⟨c1,c2⟩:=HCL.out k hlt;replace c1:=zB hbel hg c1;replace c2:=zB hbel hg c2;have hs1:=HSP.out k;have hs2:=HPT.out k;rw [HP.out] at hs2;have htk:(L.take (k+1)).foldl qY (1,1)=qY (n,d) (L.getD k (0,0)):=by
    rw [List.take_succ_eq_append_getElem (by omega),List.foldl_append,HP.out,List.getD_eq_getElem?_getD,List.getElem?_eq_getElem (by omega)];rfl
   generalize L.getD k (0,0)=q at *
   obtain ⟨n',d'⟩:=q;have HTK:=zb htk;have hml:=fun W=>zje W n d n' d' hs2.1 hs2.2 hs1.1 hs1.2;have HML:=zb hml;clear htk hml hs1 hs2;obtain ⟨W0,rfl⟩:∃ W0,W0=wr:=⟨wr,rfl⟩;have hbel2:=hbel.alloc hbel.size (.cells #[.string (za n'),.string (za d')] 33);have hr2:=hr.alloc (.cells #[.string (za n'),.string (za d')] 33);have hx2:=hx.alloc (.cells #[.string (za n'),.string (za d')] 33);obtain ⟨x1,x2⟩:=qj hx2;go_wp2_with (
    go_at_call 30;(with_reducible refine (HML.out _).mono ?_);rintro e w3 ⟨rfl,hb3⟩;replace hr2:=zo hr2 hb3;replace hx2:=zo hx2 hb3;replace hbel2:=zw hbel2 hb3 hbel2.size;clear x1 x2;obtain ⟨x1,x2⟩:=qj hx2;have f1:=hx2.frozen 0;have f2:=hx2.frozen 1)
   go_roundw
   case rel=>exact ⟨k+1,qY (n,d) (n',d'),by omega,by go_num,HTK,(hr2.setOther (by simp;omega) _).setOther (by simp;omega) _,oT hx2 _ _,(hbel2.setCell (by simp;omega) _).setCell (by simp;omega) _⟩
   case measure=>simp [intOf];omega
  ·obtain rfl:k=m:=by omega
   have hp:=HP.out;rw [← hL,List.take_length,HR.out] at hp;subst hp;obtain ⟨x1,x2⟩:=qj hx;obtain ⟨c1,c2⟩:=qj hr;have f1:=hr.frozen 0;have f2:=hr.frozen 1;go_wp2;exact zcF rfl _ _ rfl (oT hr _ _) rfl ⟨rfl,(hbel.setCell (by simp) _).setCell (by simp) _⟩
end Go.Proofs.YtmhllppjcilllaaGreatDoor
end
section
section
open Go Go.RowKit Cs
namespace Cs
def pK (B:List Pr) (x:Pr) (vs:List Int):Pr:=vs.foldl (fun x v=>qY x (B.getD v.toNat (0,0))) x
end Cs
namespace Go.Proofs.YtmhllppjcilllaaGreatDoor
theorem zj2 (w:World) (n d all s p g m cap:Nat) (B:List Pr) (hm:m≤1000000) (hp:w.cell? ⟨p,0,none⟩=some (.slice (some ⟨g,0,none⟩) m cap)) (hr0:w.rowIs g 33 (m*2) (zD B))
  (hv:∀ v∈vl (zP all s),v.toNat<m) (hsp:∀ k,Sp (B.getD k (0,0))) (hpart:∀ k,Sp (pK B (n,d) ((vl (zP all s)).take k))) (hT:Tab w) :
  Calls Tryz.prog 98 #[zI n d,qm all,qm s,.pointer (some ⟨p,0,none⟩)] w fun e w'=>e = .returned (zI (pK B (n,d) (vl (zP all s))).1 (pK B (n,d) (vl (zP all s))).2)∧Below w.heap.size w w':=by
 have hmi:=fun W=>zh1 W all s;have hli:=fun W h=>o8 W (zP all s) h;have hvb:∀ v∈vl (zP all s),1≤v∧v≤128:=o9 _;have hvl:=zct (zP all s);obtain ⟨M,hM⟩:∃ M,zP all s=M:=⟨_,rfl⟩;simp only [hM] at *
 obtain ⟨vs,hvs⟩:∃ vs,vl M=vs:=⟨_,rfl⟩;simp only [hvs] at *
 obtain ⟨R,hR⟩:∃ R,pK B (n,d) vs=R:=⟨_,rfl⟩;rw [hR];have HR:=zb hR;have HMI:=zb hmi;have HLI:=zb hli;have HV:Hid (∀ v∈vs,1≤v∧v.toNat<m):=zb fun v h=>⟨(hvb v h).1,hv v h⟩;have hg:=hr0.lt;have hpl:=World.block_lt_of_cell? w _ hp;simp only at hpl;have hcl:=fun k hk=>zex hr0 k hk;have HCL:=zb hcl;have HSP:=zb hsp;have HPT:=zb hpart;clear hR hcl hsp hpart hr0 hM hvs hmi hli hvb hv;have hx:=((pN w n d 33 _ rfl).alloc (.cells #[.int .u64 (lo all:Int),.int .u64 (hi all:Int)] 96)).alloc (.cells #[.int .u64 (lo s:Int),.int .u64 (hi s:Int)] 96) |>.alloc (.cells #[.string ⟨#[]⟩,.string ⟨#[]⟩] 33)
 have hr:=zco (((w.alloc (.cells #[.string (za n),.string (za d)] 33)).alloc (.cells #[.int .u64 (lo all:Int),.int .u64 (hi all:Int)] 96)).alloc (.cells #[.int .u64 (lo s:Int),.int .u64 (hi s:Int)] 96)) 33 (w.heap.size+1+1+1) (by simp);have hbel:=((((Below.refl w.heap.size w).alloc (zu _) (.cells #[.string (za n),.string (za d)] 33)).alloc (by simp) (.cells #[.int .u64 (lo all:Int),.int .u64 (hi all:Int)] 96)).alloc (by simp;omega) (.cells #[.int .u64 (lo s:Int),.int .u64 (hi s:Int)] 96)).alloc (by simp;omega) (.cells #[.string ⟨#[]⟩,.string ⟨#[]⟩] 33);go_enter Tryz.func98, Tryz.ntmps98;go_wp2_with (first
  | (go_at_call 100
     (with_reducible refine (HMI.out _).mono ?_);rintro e w1 ⟨rfl,hb1⟩;have hz1:=hb1.size;simp at hz1;replace hr:=zo hr hb1;replace hx:=zo hx hb1;replace hbel:=hbel.trans (hb1.mono (by simp;omega));clear hb1)
  | (go_at_call 99
     (with_reducible refine (HLI.out _ (hT.below hbel)).mono ?_);rintro e w2 ⟨A,c,rfl,hrd,hge,hb2⟩;have hz2:=hb2.size;have hge2:∀ b o,A=some ⟨b,o,none⟩→w.heap.size+1+1+1<b:=fun b o h=>by have h1:=hge b o h;have h2:=hr.lt;omega
     replace hr:=zo hr hb2;replace hx:=zo hx hb2;replace hbel:=hbel.trans (hb2.mono (by omega));clear hb2 hge))
 have HGE:=zb hge2;clear hge2 HMI HLI;go_loopw [15] (fun t wr=>∃ k:Nat,∃ q:Pr,k≤vs.length∧t = .int .i64 k∧Hid (pK B (n,d) (vs.take k)=q)∧wr.rowIs w.heap.size 33 2 (qI q.1 q.2)∧wr.rowIs (w.heap.size+1+1+1) 33 2 (qI 0 0)∧Rd wr wr.heap.size A vs.length (zO vs)∧Below w.heap.size w wr) (fun t _=>vs.length-(intOf t).toNat)
 case atStart=>exact ⟨0,(n,d),by omega,rfl,rfl,hx,hr,hrd,hbel⟩
 case round =>
  clear hr hx hbel hrd;obtain ⟨k,⟨N,D⟩,hk,rfl,HP,hx,hr,hrd,hbel⟩:=hrel;have HRD:=zb hrd;clear hrd;by_cases hlt:k<vs.length
  ·obtain ⟨b',o',rfl,hbB',hcs⟩:=HRD.out (by omega);have hc:=hcs k hlt;clear hcs;unfold zO at hc;have hgm:vs.getD k 0=vs[k]:=by simp [List.getD,hlt]
   rw [hgm] at hc;obtain ⟨hv1,hv2⟩:=HV.out vs[k] (List.getElem_mem hlt);have htk:pK B (n,d) (vs.take (k+1))=qY (N,D) (B.getD (vs[k]).toNat (0,0)):=by
    rw [List.take_succ_eq_append_getElem hlt];unfold pK;rw [List.foldl_append];show qY (pK B (n,d) (vs.take k)) _=_;rw [HP.out]
   have hs2:=HPT.out k;rw [HP.out] at hs2;obtain ⟨v,hve⟩:∃ v:Nat,vs[k]=(v:Int):=⟨(vs[k]).toNat,by omega⟩;rw [hve] at hc hv1 hv2 htk;rw [Int.toNat_natCast] at hv2 htk;obtain ⟨c1,c2⟩:=HCL.out v hv2;replace c1:=zB hbel hg c1;replace c2:=zB hbel hg c2;have hp2:=zB hbel hpl hp;have hs1:=HSP.out v;generalize B.getD v (0,0)=y at *
   obtain ⟨n',d'⟩:=y;have hml:=fun W=>zje W N D n' d' hs2.1 hs2.2 hs1.1 hs1.2;have HML:=zb hml;have HTK:=zb htk;have hi1:(0:Int)≤(v:Int):=by omega
   have hi2:(v:Int)<(m:Int):=by omega
   clear htk hml hs1 hs2 hgm hve hv1;obtain ⟨x1,x2⟩:=qj hx;have HG:=zb (HGE.out _ _ rfl);go_wp2_with fail
   replace hr:=hr.drew;replace hx:=hx.drew;have hrd:=HRD.out.drew;replace hbel:=hbel.drew;have f1:=hx.frozen 0;have f2:=hx.frozen 1
   go_region_law (
    go_simp;go_at_call 30;(with_reducible refine (HML.out _).mono ?_);rintro e w3 ⟨rfl,hb3⟩;replace hr:=zo hr hb3;replace hx:=zo hx hb3;have hrd3:=(hrd.below hb3).more hb3.size;replace hbel:=zw hbel hb3 hbel.size;clear x1 x2;obtain ⟨x1,x2⟩:=qj hx;have f1:=hx.frozen 0;have f2:=hx.frozen 1)
   all_goals
    try go_wp2
    go_roundw
    case rel=>exact ⟨k+1,qY (N,D) (n',d'),by omega,by go_num,HTK,oT hx _ _,(hr.setOther (by simp;omega) _).setOther (by simp;omega) _,(zfD (zfD hrd3 _ _ (fun b o h=>by cases h;have:=HG.out;simp;omega)) _ _ (fun b o h=>by cases h;have:=HG.out;simp;omega)).more (by rw [yW,yW];exact zu _),(hbel.setCell (by simp) _).setCell (by simp) _⟩
    case measure=>simp [intOf];omega
  ·obtain rfl:k=vs.length:=by omega
   have hq:=HP.out;rw [List.take_length,HR.out] at hq;subst hq;obtain ⟨x1,x2⟩:=qj hx;obtain ⟨c1,c2⟩:=qj hr;have f1:=hr.frozen 0;have f2:=hr.frozen 1;go_wp2;exact zcF rfl _ _ rfl (oT hr _ _) rfl ⟨rfl,(hbel.setCell (by simp;omega) _).setCell (by simp;omega) _⟩
end Go.Proofs.YtmhllppjcilllaaGreatDoor
end
section
namespace Cs
def qC (n:Nat) (lo hi:List Pr) (l:Int):Pr:=if 1≤l.natAbs∧l.natAbs≤n then (if l<0 then lo.getD l.natAbs (0,0) else hi.getD l.natAbs (0,0)) else (0,0)
def RP (n:Nat) (lo hi:List Pr):Rg Pr:=⟨(0,0),(1,1),yl,qY,qC n lo hi,fun v=>yl (qC n lo hi (-v)) (qC n lo hi v)⟩
def Wq (n:Nat) (lo hi:List Pr) (l:Int):Rat:=qp (qC n lo hi l)
def rpq (p:Pr) (q:Rat):Prop:=Lp p∧qp p=q
def S0 (p:Pr):Prop:=n8 p.1≤40000∧n8 p.2≤40000
theorem S0.sp {p:Pr} (h:S0 p):Sp p:=⟨Nat.le_trans h.1 (by omega),Nat.le_trans h.2 (by omega)⟩
theorem n8_qd0 (d:Nat) (h:n8 d≤40000):n8 (qd d)≤40000:=by
 unfold qd;split
 ·have:n8 1≤1:=(pY _ _).2 (by decide);omega
 ·exact h
theorem Sp_add0 {a b:Pr} (ha:S0 a) (hb:S0 b):Sp (yl a b):=by
 have e:yl a b=pq (qq (a.1*qd b.2+b.1*qd a.2) (qd a.2*qd b.2)):=by unfold yl qp;rw [← zfH]
 have h1:=n8_qd0 _ ha.2;have h2:=n8_qd0 _ hb.2;have m1:=yK a.1 (qd b.2);have m2:=yK b.1 (qd a.2);have m3:=zhy (a.1*qd b.2) (b.1*qd a.2);have m4:=yK (qd a.2) (qd b.2);have a1:=ha.1;have b1:=hb.1;rw [e];constructor
 ·show n8 (qn _)≤_;rw [y8];have:=zdu (Nat.div_le_self (a.1*qd b.2+b.1*qd a.2) (Nat.gcd (a.1*qd b.2+b.1*qd a.2) (qd (qd a.2*qd b.2))));omega
 ·show n8 (Rat.den _)≤_;rw [zhD,qM (Nat.mul_pos (yq _) (yq _))];have:=zdu (Nat.div_le_self (qd a.2*qd b.2) (Nat.gcd (a.1*qd b.2+b.1*qd a.2) (qd a.2*qd b.2)));omega
structure WtOk (n:Nat) (lo hi:List Pr):Prop where
 ll:lo.length=n+1
 lh:hi.length=n+1
 pl:∀ k,Lp (lo.getD k (0,0))
 ph:∀ k,Lp (hi.getD k (0,0))
 l0:S0 (lo.getD 0 (0,0))
 h0:S0 (hi.getD 0 (0,0))
 bits:zi4 (Wq n lo hi) n≤wB
section
variable {n:Nat} {lo hi:List Pr}
theorem WtOk.lit (h:WtOk n lo hi) (l:Int):Lp (qC n lo hi l):=by
 unfold qC;split
 ·split
  ·exact h.pl _
  ·exact h.ph _
 ·exact Lp.zero
theorem WtOk.wb (h:WtOk n lo hi):Wb (Wq n lo hi) n where
 pos:=fun l=>yY _
 out:=fun l hl=>by unfold Wq qC;rw [if_neg hl];exact qp_zero
 bits:=h.bits
theorem zfz (h:WtOk n lo hi):Rl (RP n lo hi) (RW (Wq n lo hi)) rpq where
 zero:=⟨Lp.zero,qp_zero⟩
 one:=⟨Lp.one,qp_one⟩
 add:=by rintro a _ c _ ⟨_,rfl⟩ ⟨_,rfl⟩;exact ⟨Lp_add a c,qp_add a c⟩
 mul:=by rintro a _ c _ ⟨_,rfl⟩ ⟨_,rfl⟩;exact ⟨Lp_mul a c,qp_mul a c⟩
 lit:=fun l=>⟨h.lit l,rfl⟩
 both:=fun v=>⟨Lp_add _ _,by
  show qp (yl (qC n lo hi (-v)) (qC n lo hi v))=Wq n lo hi v+Wq n lo hi (-v);rw [qp_add,Rat.add_comm];rfl⟩
theorem rpq.sp {p:Pr} {q:Rat} (h:rpq p q) (hs:Sm qP q):Sp p:=Sp.of h.1 (by rw [h.2];exact hs)
theorem p_lit (h:WtOk n lo hi) (l:Int):Sp (qC n lo hi l):=((zfz h).lit l).sp (q_lit h.wb l)
theorem p_both (h:WtOk n lo hi) (l:Int):Sp ((RP n lo hi).both l):=((zfz h).both l).sp (q_both h.wb l)
section
variable {N:Nt} (h:WtOk n lo hi) (hv:zG N=true) (hd:qt N=true) (hs:qJ N=true) (hn:N.n=(n:Int))
include h hv hd hs hn
theorem p_part (k:Nat) (hk:k<N.l.length) (m:Nat) :
  Sp ((N.l[k].ins.take m).foldl ((RP n lo hi).in1 (own N.l) (scan ((RP n lo hi).step (own N.l)) [] (N.l.take k)) N.l[k]) ((RP n lo hi).start N.l[k])) :=
 ((zfz h).fold ((zfz h).all (own N.l) (N.l.take k)) (own N.l) N.l[k] (N.l[k].ins.take m) _ _ ((zfz h).start N.l[k])).sp (q_part h.wb hv hd hs hn k hk m)
theorem p_wide (k:Nat) (hk:k≤N.l.length) (j:Nat) (hj:j<k) (all:Nat) (hall:∀ i,((own N.l).getD j 0).testBit i=true→all.testBit i=true) (m:Nat) :
  Sp ((RP n lo hi).wide ((scan ((RP n lo hi).step (own N.l)) [] (N.l.take k)).getD j (0,0)) ((vl (zP all ((own N.l).getD j 0))).take m)) :=
 ((zfz h).wide ((vl (zP all ((own N.l).getD j 0))).take m) _ _ (((zfz h).all (own N.l) (N.l.take k)).2 j)).sp (zjg h.wb hv hd hs hn k hk j hj all hall m)
theorem p_at (k:Nat) (hk:k≤N.l.length) (j:Nat):Sp ((scan ((RP n lo hi).step (own N.l)) [] (N.l.take k)).getD j (0,0)):=by
 rcases Nat.lt_or_ge j k with hj | hj
 ·exact (((zfz h).all (own N.l) (N.l.take k)).2 j).sp (q_at h.wb hv hd hs hn k hk j hj)
 ·rw [List.getD_eq_getElem?_getD,List.getElem?_eq_none (by rw [yA _ _ _ hk];exact hj)];exact Sp.zero
end
theorem zhM (h:WtOk n lo hi) (N:Nt):qp ((RP n lo hi).sum N)=(RW (Wq n lo hi)).sum N:=((zfz h).sum N).2
theorem RP_Lp (h:WtOk n lo hi) (N:Nt):Lp ((RP n lo hi).sum N):=((zfz h).sum N).1
def yi (lo hi:List Pr) (m:Nat):List Pr:=(List.range m).map fun v=>yl (lo.getD v (0,0)) (hi.getD v (0,0))
theorem zhI {lo hi:List Pr} {m v:Nat} (hv:v<m):(yi lo hi m).getD v (0,0)=yl (lo.getD v (0,0)) (hi.getD v (0,0)):=by
 unfold yi;simp [List.getD,hv]
theorem zk1 (lo hi:List Pr) (m:Nat):yi lo hi (m+1)=yi lo hi m++[yl (lo.getD m (0,0)) (hi.getD m (0,0))]:=by
 unfold yi;rw [List.range_succ,List.map_append];rfl
theorem zhH (lo hi:List Pr) (m:Nat):(yi lo hi m).length=m:=by simp [yi]
theorem oI {v:Nat} (h1:1≤v) (h2:v≤n):(RP n lo hi).both (v:Int)=yl (lo.getD v (0,0)) (hi.getD v (0,0)):=by
 show yl (qC n lo hi (-(v:Int))) (qC n lo hi (v:Int))=_;unfold qC;have h3 : -(v:Int)<0:=by omega
 have h4:¬ (v:Int)<0:=by omega
 have h5:0<v:=h1;simp [Int.natAbs_neg,Int.natAbs_natCast,h1,h2,h3,h4,h5]
theorem zgR (x:Pr):∀ (vs:List Int),(∀ v∈vs,1≤v∧v≤(n:Int))→(RP n lo hi).wide x vs=vs.foldl (fun x v=>qY x ((yi lo hi (n+1)).getD v.toNat (0,0))) x:=by
 intro vs
 induction vs generalizing x with
 | nil=>intro _;rfl
 | cons v vs ih =>
   intro h;obtain ⟨u,hu⟩:∃ u:Nat,v=(u:Int):=⟨v.toNat,by have:=(h v (List.mem_cons_self ..)).1;omega⟩;subst hu;have h1:=h _ (List.mem_cons_self ..);show (RP n lo hi).wide (qY x ((RP n lo hi).both (u:Int))) vs=_;rw [ih _ fun w hw=>h w (List.mem_cons_of_mem _ hw),oI (by omega) (by omega)];show _=vs.foldl _ (qY x ((yi lo hi (n+1)).getD ((u:Int).toNat) (0,0)));rw [Int.toNat_natCast,zhI (by omega)]
end
end Cs
end
section
open Go Go.RowKit Cs
namespace Cs
structure AdAt (w:World) (tA tS:TypeId) (B ga go:Nat) (N:Nt) (A:Option Addr) (c:Nat):Prop where
 ad:w.rowIs ga tA 3 (zy #[.int .i64 N.n,.slice A N.l.length c,.slice (some ⟨go,0,none⟩) N.l.length N.l.length])
 own:w.rowIs go tS (N.l.length*2) (qe (own N.l))
 la:ga<B
 lo:go<B
 net:NtAt w B A N.l
section
variable {w w':World} {tA tS:TypeId} {B B' ga go:Nat} {N:Nt} {A:Option Addr} {c:Nat}
theorem AdAt.below (h:AdAt w tA tS B ga go N A c) (hb:Below B w w'):AdAt w' tA tS B ga go N A c :=
 ⟨zd8 h.ad hb h.la,zd8 h.own hb h.lo,h.la,h.lo,h.net.below hb⟩
theorem AdAt.more (h:AdAt w tA tS B ga go N A c) (hB:B≤B'):AdAt w tA tS B' ga go N A c:=⟨h.ad,h.own,Nat.lt_of_lt_of_le h.la hB,Nat.lt_of_lt_of_le h.lo hB,h.net.more hB⟩
end
end Cs
namespace Go.Proofs.YtmhllppjcilllaaGreatDoor
theorem zcM (w:World) (N:Nt) (A:Option Addr) (c:Nat) (hN:NtAt w w.heap.size A N.l) (hv:zG N=true) :
  Calls Tryz.prog 52 #[qg N A c] w fun e w'=>∃ ga go,e = .returned (.pointer (some ⟨ga,0,none⟩))∧w.heap.size≤ga∧AdAt w' 155 96 w'.heap.size ga go N A c∧Below w.heap.size w w':=by
 have hnv:=fun W h=>zcL W N A c h hv;have HNV:=zb hnv;have hbox:=yQ w N A c 24 _ rfl;have hbl:Below w.heap.size w (w.alloc (.cells #[.int .i64 N.n,.slice A N.l.length c] 24)):=(zx _ _).alloc (zu _) _;clear hnv hv;obtain ⟨n,l⟩:=N;go_enter Tryz.func52, Tryz.ntmps52;go_wp2_with fail
 replace hbox:=hbox.drew;replace hbl:=hbl.drew;obtain ⟨c1,c2⟩:=qy hbox;go_region_held3 (fun w'=>w'.cell? ⟨w.heap.size,0,none⟩=some (.int .i64 n)∧w'.cell? ⟨w.heap.size,1,none⟩=some (.slice A l.length c))
  (first | exact ⟨c1,c2⟩ | go_keep)
  (first
    | (go_simp
       go_at_call 65;(with_reducible refine (HNV.out _ ((hN.below hbl).more hbl.size)).mono ?_);rintro e w6 ⟨g,rfl,hg,hrow6,hb6⟩;replace hbox:=zo hbox hb6;replace hbl:=zw hbl hb6 hbl.size;obtain ⟨c1,c2⟩:=qy hbox))
 have hlt:=hrow6.lt;have hbl7:=hbl.alloc hbl.size (.cells #[.int .i64 n,.slice A l.length c,.slice (some ⟨g,0,none⟩) l.length l.length] 155);all_goals
  try go_wp2
  go_ret;exact ⟨w6.heap.size,g,rfl,hbl.size,⟨zF w6 _ _ _ 3 rfl rfl,hrow6.alloc _,by simp,by simp;omega,(hN.below hbl7).more hbl7.size⟩,hbl7⟩
end Go.Proofs.YtmhllppjcilllaaGreatDoor
end
end
