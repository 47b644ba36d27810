import Derived.Test.YtmhllppjcilllaaGreatDoorQ1
import Derived.Test.YtmhllppjcilllaaGreatDoorKp
import Derived.Test.YtmhllppjcilllaaGreatDoorRU
import Derived.Test.YtmhllppjcilllaaGreatDoorEr
import Derived.BigGuardPart
set_option linter.unusedSimpArgs false
set_option linter.unusedVariables false
section
open Go Go.RowKit Cs
end
section
open Go Go.RowKit Cs
namespace Cs
open Go.Proofs.YtmhllppjcilllaaGreatDoor
def vk (s k:Nat):List Int:=((List.range k).filter fun i=>s.testBit i).map fun i:Nat=>(i:Int)+1
theorem zhU (s k:Nat):vk s (k+1)=if s.testBit k then vk s k++[(k:Int)+1] else vk s k:=by
 unfold vk;rw [List.range_succ,List.filter_append,List.map_append];split
 ·rename_i h;simp [h]
 ·rename_i h;simp [h]
theorem vk_vl (s:Nat):vk s 128=vl s:=by
 rw [zjL];unfold vk zgW;rw [List.map_map];rfl
theorem j3 {s n:Nat} (h:∀ i,n≤i→s.testBit i=false):∀ d,vk s (n+d)=vk s n
 | 0=>rfl
 | d+1=>by
   rw [← Nat.add_assoc,zhU,h (n+d) (by omega),if_neg (by decide),j3 h d]
def SmP (p:Pr):Prop:=Lp p∧p.1≤100∧p.2≤100
theorem pe (l:List Pr) (p:Pr) (v k:Nat) (hv:v<l.length):(l.set v p).getD k (0,0)=if k=v then p else l.getD k (0,0):=by
 rw [List.getD_eq_getElem?_getD,List.getD_eq_getElem?_getD,List.getElem?_set];by_cases h:v=k
 ·subst h;rw [if_pos rfl,if_pos hv,if_pos rfl];rfl
 ·rw [if_neg h,if_neg (fun e=>h e.symm)]
theorem SmP.set {l:List Pr} {p:Pr} {v:Nat} (hv:v<l.length) (h:∀ k,SmP (l.getD k (0,0))) (hp:SmP p) (k:Nat):SmP ((l.set v p).getD k (0,0)):=by
 rw [pe _ _ _ _ hv];split
 ·exact hp
 ·exact h k
end Cs
end
section
set_option maxRecDepth 100000
set_option maxHeartbeats 4000000
open Go Go.RowKit Cs
namespace Cs
open Go.Proofs.YtmhllppjcilllaaGreatDoor
def Dg (q:Rat):Prop:=0≤q∧zz (qn q)≤400000∧zz q.den≤400000
theorem ze7 {x e m:Nat} (h:x<2^e) (he:e≤m) (hm:1≤m):zz x≤m :=
 zec x m (Nat.lt_of_lt_of_le h (Nat.le_trans (Nat.pow_le_pow_right (by decide) he) (Nat.pow_le_pow_left (by decide) m))) hm
theorem Sm.dg {q:Rat} (h:Sm (2*qP) q):Dg q:=⟨h.1,ze7 h.2.1 (by have:=zhb;omega) (by decide),ze7 h.2.2 (by have:=zhb;omega) (by decide)⟩
theorem Sm.dg1 {q:Rat} (h:Sm qP q):Dg q:=(h.up (by omega)).dg
def zL (L:List Rat) (i:Nat):Value:=if i%2=0 then .string (zc (qn (L.getD (i / 2) 0))) else .string (zc (L.getD (i / 2) 0).den)
theorem oP (L:List Rat) (k:Nat):zL L (k*2) = .string (zc (qn (L.getD k 0))):=by
 unfold zL;rw [if_pos (by omega),show k*2 / 2=k by omega]
theorem oQ (L:List Rat) (k:Nat):zL L (k*2+1) = .string (zc (L.getD k 0).den):=by
 unfold zL;rw [if_neg (by omega),show (k*2+1) / 2=k by omega]
def Wr (lo hi:List Rat) (l:Int):Rat:=if l<0 then lo.getD l.natAbs 0 else hi.getD l.natAbs 0
end Cs
namespace Go.Proofs.YtmhllppjcilllaaGreatDoor
structure FlS (w:World) (q:Rat) (a s:Nat) (Al Ah:Option Addr) (n cl ch:Nat) (W:World):Prop where
 fx:W.rowIs w.heap.size 42 2 (zy #[.string (zc (qn q)),.string (zc q.den)])
 fa:W.rowIs (w.heap.size+1) 96 2 (zy #[.int .u64 (lo a:Int),.int .u64 (hi a:Int)])
 fs:W.rowIs (w.heap.size+1+1) 96 2 (zy #[.int .u64 (lo s:Int),.int .u64 (hi s:Int)])
 fw:W.rowIs (w.heap.size+1+1+1) 47 2 (zy #[.slice Al (n+1) cl,.slice Ah (n+1) ch])
 fr:W.rowIs (w.heap.size+1+1+1+1) 42 2 (zy #[.string ⟨#[]⟩,.string ⟨#[]⟩])
 bl:Below w.heap.size w W
section
variable {w W W':World} {q:Rat} {a s n cl ch:Nat} {Al Ah:Option Addr}
theorem FlS.below (h:FlS w q a s Al Ah n cl ch W) (hb:Below W.heap.size W W'):FlS w q a s Al Ah n cl ch W' :=
 ⟨zo h.fx hb,zo h.fa hb,zo h.fs hb,zo h.fw hb,zo h.fr hb,zw h.bl hb h.bl.size⟩
theorem FlS.put (h:FlS w q a s Al Ah n cl ch W) (p:Rat):FlS w p a s Al Ah n cl ch ((W.setCell ⟨w.heap.size,0,none⟩ (.string (zc (qn p)))).setCell ⟨w.heap.size,1,none⟩ (.string (zc p.den))):=by
 have far:∀ {g m:Nat} {t:TypeId} {f:Nat→Value},g≠w.heap.size→W.rowIs g t m f→((W.setCell ⟨w.heap.size,0,none⟩ (.string (zc (qn p)))).setCell ⟨w.heap.size,1,none⟩ (.string (zc p.den))).rowIs g t m f:=fun hg hr=>(hr.setOther hg _).setOther hg _;exact ⟨qx h.fx _ _,far (by omega) h.fa,far (by omega) h.fs,far (by omega) h.fw,far (by omega) h.fr,jv h.bl (zu _) _ _⟩
theorem FlS.cells (h:FlS w q a s Al Ah n cl ch W):W.cell? ⟨w.heap.size+1,0,none⟩=some (.int .u64 (lo a:Int))∧W.cell? ⟨w.heap.size+1,1,none⟩=some (.int .u64 (hi a:Int))∧W.cell? ⟨w.heap.size+1+1,0,none⟩=some (.int .u64 (lo s:Int))∧W.cell? ⟨w.heap.size+1+1,1,none⟩=some (.int .u64 (hi s:Int)) ∧
  W.cell? ⟨w.heap.size+1+1+1,0,none⟩=some (.slice Al (n+1) cl)∧W.cell? ⟨w.heap.size+1+1+1,1,none⟩=some (.slice Ah (n+1) ch) :=
 ⟨h.fa.cell (i:=0) (by decide),h.fa.cell (i:=1) (by decide),h.fs.cell (i:=0) (by decide),h.fs.cell (i:=1) (by decide),h.fw.cell (i:=0) (by decide),h.fw.cell (i:=1) (by decide)⟩
end
theorem has_nat1 (s k:Nat) (h1:1≤k) (h2:k≤128):gZ s (k:Int)=s.testBit (k-1):=by
 rw [ze2 s _ (by omega) (by omega)];congr 1
theorem xL (w:World) (q:Rat) (a s n cl ch:Nat) (lo hi:List Rat) (Al Ah:Option Addr) (hn:n≤128) (hlo:Rd w w.heap.size Al ((n+1)*2) (zL lo)) (hhi:Rd w w.heap.size Ah ((n+1)*2) (zL hi)) (hc1:n+1≤cl) (hc2:n+1≤ch)
  (hdl:∀ k,Dg (lo.getD k 0)) (hdh:∀ k,Dg (hi.getD k 0)) (hds:∀ k,Dg (lo.getD k 0+hi.getD k 0)) (hdw:∀ k,k≤n→Dg ((RW (Wr lo hi)).wide q (vk (zP a s) k))) :
  Calls Tryz.prog 106 #[zS q,qm a,qm s,.agg #[.slice Al (n+1) cl,.slice Ah (n+1) ch]] w fun e w'=>e = .returned (zS ((RW (Wr lo hi)).wide q (vk (zP a s) n)))∧Below w.heap.size w w':=by
 obtain ⟨l,ol,rfl,hbl,hcl⟩:=hlo (by omega);obtain ⟨h,oh,rfl,hbh,hch⟩:=hhi (by omega);have q0:FlS w q a s (some ⟨l,ol,none⟩) (some ⟨h,oh,none⟩) n cl ch (((((w.alloc (.cells #[.string (zc (qn q)),.string (zc q.den)] 42)).alloc (.cells #[.int .u64 (Cs.lo a:Int),.int .u64 (Cs.hi a:Int)] 96)).alloc (.cells #[.int .u64 (Cs.lo s:Int),.int .u64 (Cs.hi s:Int)] 96)).alloc (.cells #[.slice (some ⟨l,ol,none⟩) (n+1) cl,.slice (some ⟨h,oh,none⟩) (n+1) ch] 47)).alloc (.cells #[.string ⟨#[]⟩,.string ⟨#[]⟩] 42)):=by
  have p0:=(Kp.nil w).new #[.string (zc (qn q)),.string (zc q.den)] 42 w.heap.size 2 rfl rfl;have p1:=p0.new #[.int .u64 (Cs.lo a:Int),.int .u64 (Cs.hi a:Int)] 96 (w.heap.size+1) 2 (by simp) rfl;have p2:=p1.new #[.int .u64 (Cs.lo s:Int),.int .u64 (Cs.hi s:Int)] 96 (w.heap.size+1+1) 2 (by simp) rfl;have p3:=p2.new #[.slice (some ⟨l,ol,none⟩) (n+1) cl,.slice (some ⟨h,oh,none⟩) (n+1) ch] 47 (w.heap.size+1+1+1) 2 (by simp) rfl;have p4:=p3.new #[.string ⟨#[]⟩,.string ⟨#[]⟩] 42 (w.heap.size+1+1+1+1) 2 (by simp) rfl;exact ⟨p4.row 4 rfl,p4.row 3 rfl,p4.row 2 rfl,p4.row 1 rfl,p4.row 0 rfl,p4.bl⟩
 have hha:∀ W k,1≤k→k≤128→_:=fun W k h1 h2=>ze3 W a (k:Int);have hhs:∀ W k,1≤k→k≤128→_:=fun W k h1 h2=>ze3 W s (k:Int);have hlc:∀ W,Below w.heap.size w W→∀ k,k<n+1→W.cell? ⟨l,ol+k*2,none⟩=some (.string (zc (qn (lo.getD k 0))))∧W.cell? ⟨l,ol+k*2+1,none⟩=some (.string (zc (lo.getD k 0).den)):=fun W hW k hk =>
  ⟨(zB hW hbl (hcl (k*2) (by omega))).trans (by rw [oP]),(zB hW hbl (hcl (k*2+1) (by omega))).trans (by rw [oQ])⟩
 have hhc:∀ W,Below w.heap.size w W→∀ k,k<n+1→W.cell? ⟨h,oh+k*2,none⟩=some (.string (zc (qn (hi.getD k 0))))∧W.cell? ⟨h,oh+k*2+1,none⟩=some (.string (zc (hi.getD k 0).den)):=fun W hW k hk =>
  ⟨(zB hW hbh (hch (k*2) (by omega))).trans (by rw [oP]),(zB hW hbh (hch (k*2+1) (by omega))).trans (by rw [oQ])⟩
 have HHA:=zb hha;have HHS:=zb hhs;have HLC:=zb hlc;have HHC:=zb hhc;have HDL:=zb hdl;have HDH:=zb hdh;have HDS:=zb hds;have HDW:=zb hdw;have HN:=zb hn;have HC1:=zb hc1;have HC2:=zb hc2;have HBL:=zb hbl;have HBH:=zb hbh;clear hha hhs hlc hhc hdl hdh hds hdw hlo hhi hcl hch hn hc1 hc2 hbl hbh;go_enter Tryz.func106, Tryz.ntmps106;go_wp2_with fail
 go_loopw [9] (fun v wr=>∃ k:Nat,1≤k∧k≤n+1∧v = .int .i64 k∧FlS w ((RW (Wr lo hi)).wide q (vk (zP a s) (k-1))) a s (some ⟨l,ol,none⟩) (some ⟨h,oh,none⟩) n cl ch wr) (fun v _=>n+1-(intOf v).toNat)
 case atStart=>exact ⟨1,zu _,by omega,rfl,q0⟩
 case round =>
  clear q0;obtain ⟨k,hk1,hk,rfl,hq⟩:=hrel;obtain ⟨c1,c2,c3,c4,c5,c6⟩:=hq.cells;by_cases hlt:k<n+1
  ·have hc:decide ((k:Int)<(n:Int)+1)=true:=decide_eq_true (by omega);have h128:k≤128:=by have:=HN.out;omega
   have hA:=fun W=>HHA.out W k hk1 h128;have hS:=fun W=>HHS.out W k hk1 h128;simp only [has_nat1 _ _ hk1 h128] at hA hS;obtain ⟨j,hj⟩:∃ j,k=j+1:=⟨k-1,by omega⟩;have hjj:k-1=j:=by omega
   rw [hjj] at hA hS hq;have hbit:(zP a s).testBit j=(a.testBit j && !s.testBit j):=p8 a s j;have hstep:vk (zP a s) k=if (zP a s).testBit j then vk (zP a s) j++[(k:Int)] else vk (zP a s) j:=by
    rw [hj,zhU];rfl
   have HA:=zb hA;have HS:=zb hS;have X0:=zb hq;have HLT:=zb hlt;have HJ:=zb hj;clear hA hS hq hlt hj;cases ha:a.testBit j with
   | false =>
     rw [ha] at HA hbit;rw [Bool.false_and] at hbit;rw [hbit,if_neg (by decide)] at hstep;have HST:=zb hstep;clear hstep hbit ha;go_wp2_with (go_at_call 145;(with_reducible refine (HA.out _).mono ?_);rintro e w1 ⟨rfl,hb1⟩;have X1:=zb (X0.out.below hb1);clear hb1 X0 c1 c2 c3 c4 c5 c6;obtain ⟨c1,c2,c3,c4,c5,c6⟩:=X1.out.cells)
     go_roundw
     case rel=>exact ⟨k+1,by omega,Nat.succ_le_of_lt HLT.out,by go_num,by rw [Nat.add_sub_cancel,HST.out];exact X1.out⟩
     case measure=>have:=HLT.out;simp [intOf];omega
   | true =>
     cases hs:s.testBit j with
     | true =>
       rw [ha] at HA hbit;rw [hs] at HS hbit;rw [show (true && !true)=false from rfl] at hbit;rw [hbit,if_neg (by decide)] at hstep;have HST:=zb hstep;clear hstep hbit ha hs;go_wp2_with (first
        | (go_at_call 145;(with_reducible refine (HA.out _).mono ?_);rintro e w1 ⟨rfl,hb1⟩;have X1:=zb (X0.out.below hb1);clear hb1 X0 c1 c2 c3 c4 c5 c6;obtain ⟨c1,c2,c3,c4,c5,c6⟩:=X1.out.cells)
        | (go_at_call 145;(with_reducible refine (HS.out _).mono ?_);rintro e w2 ⟨rfl,hb2⟩;have X2:=zb (X1.out.below hb2);clear hb2 X1 c1 c2 c3 c4 c5 c6;obtain ⟨c1,c2,c3,c4,c5,c6⟩:=X2.out.cells))
       go_roundw
       case rel=>exact ⟨k+1,by omega,Nat.succ_le_of_lt HLT.out,by go_num,by rw [Nat.add_sub_cancel,HST.out];exact X2.out⟩
       case measure=>have:=HLT.out;simp [intOf];omega
     | false =>
       rw [ha] at HA hbit;rw [hs] at HS hbit;rw [show (true && !false)=true from rfl] at hbit;rw [hbit,if_pos rfl] at hstep;have hd0:=HDW.out j (by have:=HLT.out;have:=HJ.out;omega);have hd1:=HDW.out k (by have:=HLT.out;omega);have hsn:(RW (Wr lo hi)).wide q (vk (zP a s) k)=(RW (Wr lo hi)).wide q (vk (zP a s) j)*(lo.getD k 0+hi.getD k 0):=by
        rw [hstep];unfold Rg.wide;rw [List.foldl_append];show _*(Wr lo hi (k:Int)+Wr lo hi (-(k:Int)))=_;unfold Wr;rw [if_neg (by omega),if_pos (by omega),show ((k:Int)).natAbs=k by omega,show (-(k:Int)).natAbs=k by omega,Rat.add_comm]
       have hl:=HDL.out k;have hh:=HDH.out k;have hlh:=HDS.out k;have had:=fun W=>radd02 W (lo.getD k 0) (hi.getD k 0) hl.1 hh.1 hl.2.1 hl.2.2 hh.2.1 hh.2.2;have hmu:=fun W=>rmul02 W ((RW (Wr lo hi)).wide q (vk (zP a s) j)) (lo.getD k 0+hi.getD k 0) hd0.1 hlh.1 hd0.2.1 hd0.2.2 hlh.2.1 hlh.2.2;rw [← hsn] at hmu;obtain ⟨Y,hY⟩:∃ Y,(RW (Wr lo hi)).wide q (vk (zP a s) k)=Y:=⟨_,rfl⟩;obtain ⟨X,hX⟩:∃ Y,(RW (Wr lo hi)).wide q (vk (zP a s) j)=Y:=⟨_,rfl⟩;obtain ⟨Z,hZ⟩:∃ Y,lo.getD k 0+hi.getD k 0=Y:=⟨_,rfl⟩;have hcl:=fun W hW=>HLC.out W hW k HLT.out;have hch:=fun W hW=>HHC.out W hW k HLT.out;rw [hX] at X0;simp only [hX,hY,hZ] at hmu;simp only [hZ] at had;unfold zS at had hmu;obtain ⟨la,e1⟩:∃ x,qn (lo.getD k 0)=x:=⟨_,rfl⟩;obtain ⟨lb,e2⟩:∃ x,(lo.getD k 0).den=x:=⟨_,rfl⟩;obtain ⟨pa,e3⟩:∃ x,qn (hi.getD k 0)=x:=⟨_,rfl⟩;obtain ⟨pb,e4⟩:∃ x,(hi.getD k 0).den=x:=⟨_,rfl⟩;obtain ⟨sa,e5⟩:∃ x,qn Z=x:=⟨_,rfl⟩;obtain ⟨sb,e6⟩:∃ x,Z.den=x:=⟨_,rfl⟩;obtain ⟨ya,e7⟩:∃ x,qn Y=x:=⟨_,rfl⟩;obtain ⟨yb,e8⟩:∃ x,Y.den=x:=⟨_,rfl⟩;obtain ⟨xa,e9⟩:∃ x,qn X=x:=⟨_,rfl⟩;obtain ⟨xb,e10⟩:∃ x,X.den=x:=⟨_,rfl⟩;simp only [e1,e2,e3,e4,e5,e6,e7,e8,e9,e10] at had hmu hcl hch;have HAD:=zb had;have HMU:=zb hmu;have HYY:=zb hY;have HE7:=zb e7;have HE8:=zb e8;have HE9:=zb e9;have HE10:=zb e10;clear had hmu hY hX hZ e1 e2 e3 e4 e5 e6 e7 e8 e9 e10 hl hh hlh hd0 hd1 hsn hstep hbit ha hs;go_upto_region 5 with (first
        | (go_at_call 145;(with_reducible refine (HA.out _).mono ?_);rintro e w1 ⟨rfl,hb1⟩;have X1:=zb (X0.out.below hb1);clear hb1 X0 c1 c2 c3 c4 c5 c6;obtain ⟨c1,c2,c3,c4,c5,c6⟩:=X1.out.cells)
        | (go_at_call 145;(with_reducible refine (HS.out _).mono ?_);rintro e w2 ⟨rfl,hb2⟩;have X2:=zb (X1.out.below hb2);clear hb2 X1 c1 c2 c3 c4 c5 c6;obtain ⟨c1,c2,c3,c4,c5,c6⟩:=X2.out.cells))
       have s1:w2.cell? ⟨w.heap.size,0,none⟩=some (.string (zc xa)):=by rw [← HE9.out];exact X2.out.fx.cell (i:=0) (by decide)
       have s2:w2.cell? ⟨w.heap.size,1,none⟩=some (.string (zc xb)):=by rw [← HE10.out];exact X2.out.fx.cell (i:=1) (by decide)
       have s3:=c5;have s4:=c6;obtain ⟨s5,s6⟩:=hcl w2 X2.out.bl;obtain ⟨s7,s8⟩:=hch w2 X2.out.bl;have g4:=X2.out.fx.lt;have g7:=X2.out.fw.lt;have gl:=World.block_lt_of_cell? _ _ s5;have gh:=World.block_lt_of_cell? _ _ s7;have X4:=X2;clear c1 c2 c3 c4 c5 c6 hcl hch X2;have hkn:(k:Int)<(n:Int)+1:=by have:=HLT.out;omega
       have HS:Hid (∀ W,Below w2.heap.size w2 W→W.cell? ⟨w.heap.size,0,none⟩=some (.string (zc xa))∧W.cell? ⟨w.heap.size,1,none⟩=some (.string (zc xb))∧W.cell? ⟨w.heap.size+1+1+1,0,none⟩=some (.slice (some ⟨l,ol,none⟩) (n+1) cl)∧W.cell? ⟨w.heap.size+1+1+1,1,none⟩=some (.slice (some ⟨h,oh,none⟩) (n+1) ch)∧W.cell? ⟨l,ol+k*2,none⟩=some (.string (zc la))∧W.cell? ⟨l,ol+k*2+1,none⟩=some (.string (zc lb))∧W.cell? ⟨h,oh+k*2,none⟩=some (.string (zc pa))∧W.cell? ⟨h,oh+k*2+1,none⟩=some (.string (zc pb))):=zb fun W hb=>⟨zC hb s1 g4,zC hb s2 g4,zC hb s3 g7,zC hb s4 g7,zC hb s5 gl,zC hb s6 gl,zC hb s7 gh,zC hb s8 gh⟩;refine yx (n:=_) (PX:=[zl (.agg #[.string (zc xa),.string (zc xb)]),
          zl (.pointer (some ⟨w.heap.size+1+1+1,0,none⟩)),
          zl (.slice (some ⟨l,ol,none⟩) (n+1) cl),
          zl (.int .i64 (k:Int)),
          zl (.pointer (some ⟨l,ol+k*2,none⟩)),
          zl (.agg #[.string (zc la),.string (zc lb)]),
          zl (.pointer (some ⟨w.heap.size+1+1+1,1,none⟩)),
          zl (.slice (some ⟨h,oh,none⟩) (n+1) ch),
          zl (.int .i64 (k:Int)),
          zl (.pointer (some ⟨h,oh+k*2,none⟩)),
          zl (.agg #[.string (zc pa),.string (zc pb)]),
          zl (.agg #[.string (zc sa),.string (zc sb)]),
          zl (.agg #[.string (zc ya),.string (zc yb)])])
         (AL:=[]) (DP:=[[],[],[1],[],[2,3],[4],[],[6],[],[7,8],[9],[5,10],[0,11]]) (L1:=[0,1,2,3,4,5,6,7,8,9,10,11,12]) (ex:=[]) (by kernel_rfl) rfl (by kernel_rfl) ?_ ?_ (yH ?_)
       ·repeat' first|exact zW|refine zk ?_ ?_|exact fun _ _ _ _ h _=>h
       ·refine zk (zv rfl [] ?_) (zk (zv rfl [] ?_) (zk (zv rfl [(1,some 27)] ?_) (zk (zv rfl [] ?_) (zk (zv rfl [(2,some 28),(3,some 29)] ?_) (zk (zv rfl [(4,some 30)] ?_) (zk (zv rfl [] ?_) (zk (zv rfl [(6,some 32)] ?_) (zk (zv rfl [] ?_) (zk (zv rfl [(7,some 33),(8,some 34)] ?_) (zk (zv rfl [(9,some 35)] ?_) (zk ?_ (zk ?_ zW))))))))))));all_goals try (intro vs W hW hd K hK;(try simp only [qa,zl,and_true,List.getD_cons_succ,List.getD_cons_zero] at hd);(first | simp only [hd,zm,Act.put,zj,zi,zh,zg,zf,ze] at hK ⊢ | simp only [zm,Act.put,zj,zi,zh,zg,zf,ze] at hK ⊢ | skip);obtain ⟨m1,m2,m3,m4,m5,m6,m7,m8⟩:=HS.out W hW;go_simp;exact hK.out _ _ rfl (zx _ _) (qU rfl))
        ·refine zJ rfl [(5,some 31),(10,some 36)] ?_;intro vs W hW hd K hK;have d5:vs 5 = .agg #[.string (zc la),.string (zc lb)]:=hd 5 (by decide);have d10:vs 10 = .agg #[.string (zc pa),.string (zc pb)]:=hd 10 (by decide);clear hd;try simp only [d5,d10,zm,Act.put,zj,zi,zh,zg,zf,ze] at hK ⊢
         go_simp;go_at_call 105;(with_reducible first | refine (HAD.out _).mono ?_);rintro e w9 ⟨rfl,hb9⟩;exact hK.out _ _ (rfl) hb9 (fun h=>absurd h (by decide))
        ·refine zJ rfl [(0,some 26),(11,some 37)] ?_;intro vs W hW hd K hK;have d0:vs 0 = .agg #[.string (zc xa),.string (zc xb)]:=hd 0 (by decide);have d11:vs 11 = .agg #[.string (zc sa),.string (zc sb)]:=hd 11 (by decide);clear hd;try simp only [d0,d11,zm,Act.put,zj,zi,zh,zg,zf,ze] at hK ⊢
         go_simp;go_at_call 104;(with_reducible first | refine (HMU.out _).mono ?_);rintro e w9 ⟨rfl,hb9⟩;exact hK.out _ _ (rfl) hb9 (fun h=>absurd h (by decide))
       refine qQ [(0,some 26),(1,some 27),(2,some 28),(3,some 29),(4,some 30),(5,some 31),(6,some 32),(7,some 33),(8,some 34),(9,some 35),(10,some 36),(11,some 37),(12,some 38)] #[true,true,true,true,true,true,true,true,true,true,true,true,true,false] 1 ?_;intro vs Wf hW hd hbk hdis kf;simp only [qa,zl,and_true,List.getD_cons_succ,List.getD_cons_zero] at hd;obtain ⟨d0,d1,d2,d3,d4,d5,d6,d7,d8,d9,d10,d11,d12⟩:=hd;clear hbk hdis;try simp only [d0,d1,d2,d3,d4,d5,d6,d7,d8,d9,d10,d11,d12,zm,Act.put,zj,zi,zh,zg,zf,ze]
       clear d0 d1 d2 d3 d4 d5 d6 d7 d8 d9 d10 d11 d12 vs;clear HS;have r4:=(X4.out.below hW).fx;have y1:=r4.frozen 0;have y2:=r4.frozen 1;have z1:Wf.cell? ⟨w.heap.size,0,none⟩=some (.string (zc xa)):=by rw [← HE9.out];exact r4.cell (i:=0) (by decide)
       have z2:Wf.cell? ⟨w.heap.size,1,none⟩=some (.string (zc xb)):=by rw [← HE10.out];exact r4.cell (i:=1) (by decide)
       refine zE 13 (by kernel_rfl) rfl (fun K hK=>?_);go_simp;refine hK.out _ _ ?_;clear hK K;try simp only [zm,Act.put,zj,zi,zh,zg,zf,ze]
       refine qc (by kernel_rfl) ?_ _;all_goals
        try go_wp2
        go_roundw
        case rel=>exact ⟨k+1,by omega,Nat.succ_le_of_lt HLT.out,by go_num,by rw [Nat.add_sub_cancel,HYY.out];have:=(X4.out.below hW).put Y;rw [HE7.out,HE8.out] at this;exact this⟩
        case measure=>have:=HLT.out;simp [intOf];omega
  ·have hc:decide ((k:Int)<(n:Int)+1)=false:=decide_eq_false (by omega);have hkn:k-1=n:=by omega
   rw [hkn] at hq;have r:=hq.fr;have y1:=r.frozen 0;have y2:=r.frozen 1;have z1:World.cell? _ ⟨w.heap.size+1+1+1+1,0,none⟩=some (.string ⟨#[]⟩):=r.cell (i:=0) (by decide);have z2:World.cell? _ ⟨w.heap.size+1+1+1+1,1,none⟩=some (.string ⟨#[]⟩):=r.cell (i:=1) (by decide);have x1:World.cell? _ ⟨w.heap.size,0,none⟩=some (.string (zc (qn ((RW (Wr lo hi)).wide q (vk (zP a s) n))))):=hq.fx.cell (i:=0) (by decide);have x2:World.cell? _ ⟨w.heap.size,1,none⟩=some (.string (zc ((RW (Wr lo hi)).wide q (vk (zP a s) n)).den)):=hq.fx.cell (i:=1) (by decide);have XQ:=zb hq;clear r hq hlt hk hk1 hkn;go_wp2_with fail
   exact zfC rfl rfl (qx XQ.out.fr _ _) rfl ⟨rfl,jv XQ.out.bl (by omega) _ _⟩
end Go.Proofs.YtmhllppjcilllaaGreatDoor
end
