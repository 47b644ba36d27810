import Derived.Test.YtmhllppjcilllaaGreatDoorMg
import Derived.BigGuardPart
import Derived.Test.YtmhllppjcilllaaGreatDoorMp
import Derived.Test.YtmhllppjcilllaaGreatDoorLt
import Derived.Test.YtmhllppjcilllaaGreatDoorDp
set_option linter.unusedSimpArgs false
set_option linter.unusedVariables false
section
open Go Go.RowKit Cs
end
section
open Go Go.RowKit Cs
namespace Cs
open Go.Proofs.YtmhllppjcilllaaGreatDoor
theorem askB_in {N:Nt} {lt:Nat} (h:jL N lt=true):∀ k (hk:k<N.l.length),N.l[k].ins.length≤1000000:=fun k hk=>by
 unfold jL jn yl at h;rw [Bool.and_eq_true,Bool.and_eq_true,Bool.and_eq_true,List.all_eq_true] at h;have:=h.1.1.1 N.l[k] (List.getElem_mem hk);simp only [decide_eq_true_eq] at this;omega
theorem askB_8 {N:Nt} {lt:Nat} (h:jL N lt=true) (hv:zE N=true):N.n≤8:=by
 unfold jL at h;rw [Bool.and_eq_true,hv] at h;simpa using h.2
end Cs
namespace Go.Proofs.YtmhllppjcilllaaGreatDoor
theorem aw_hyp (w:World) (N:Nt) (A:Option Addr) (c:Nat) (Aw:Option Addr) (lw cw:Nat) (At:Option Addr) (lt ct:Nat) (F:Nat→Nat) (hlw:lw≤140737488355328) (hw:Rd w w.heap.size Aw (lw*4) (fun i=>.int .u8 (F i:Nat))) (hF:∀ i,F i<256) (n:Nat) (hn:N.n=(n:Int)) (h8:n≤128) :
  ∀ W,Below w.heap.size w W→Calls Tryz.prog 17 #[yE N A c Aw lw cw At lt ct] W fun e w'=>∃ v g1 c1 g2 c2 F1 F2,e = .returned v∧WtV W.heap.size (n+1) (oG lw F (n+1)) (oH lw F (n+1)) v g1 c1 g2 c2 F1 F2 w'∧Below W.heap.size W w':=fun W h=>by
 refine (askW_any W N A c Aw lw cw At lt ct F hlw ((hw.below h).more h.size) hF (n+1) (by omega)).mono ?_;rintro e w' ⟨s1,s2,rfl,hq⟩;obtain ⟨g1,c1,g2,c2,F1,F2,hv⟩:=hq.wt (Nat.succ_pos _);exact ⟨_,g1,c1,g2,c2,F1,F2,rfl,hv,hq.bl⟩
end Go.Proofs.YtmhllppjcilllaaGreatDoor
end
section
open Go Go.RowKit Cs
namespace Cs
structure GoodN (N:Nt) (n:Nat) (L H:List Pr):Prop where
 hv:zE N=true
 hd:qc N=true
 ht:∀ s,qQ N s=true
 hn:N.n=(n:Int)
 h8:n≤8
 hi:∀ k (hk:k<N.l.length),N.l[k].ins.length≤1000000
 hW:WtIn n L H
 hb:¬ 16384<zJ L n+zJ H n
 hs:yA N=true
 hE:yS N=0
 hL:∀ k,(L.getD k (0,0)).1≤6∧(L.getD k (0,0)).2≤6
 hH:∀ k,(H.getD k (0,0)).1≤6∧(H.getD k (0,0)).2≤6
theorem good_n {N:Nt} (lw:Nat) (F:Nat→Nat) (hg:jn N 60=true∧N.n≤8∧(zE N&&qc N)=true∧∀ s,qQ N s=true):∃ n:Nat,GoodN N n (oG lw F (n+1)) (oH lw F (n+1)):=by
 obtain ⟨hl,h8,hvd,ht⟩:=hg;rw [Bool.and_eq_true] at hvd;obtain ⟨hv,hd⟩:=hvd;obtain ⟨hn0,hn1,hl0,hl1⟩:=qR hv;obtain ⟨n,hn⟩:∃ n:Nat,N.n=n:=⟨N.n.toNat,by omega⟩;have hs:=pm hv hd ht h8 (zeZ hl);have h6:∀ (f:Nat→Pr),(∀ v,(f v).1≤6∧(f v).2≤6)→∀ k,(((List.range (n+1)).map f).getD k (0,0)).1≤6∧(((List.range (n+1)).map f).getD k (0,0)).2≤6:=fun f hf k=>by
  rw [zc2];split
  ·exact hf k
  ·exact ⟨Nat.zero_le _,Nat.zero_le _⟩
 exact ⟨n,hv,hd,ht,hn,by omega,fun k hk=>Nat.le_trans (zeZ hl k hk) (by decide),aw_in lw F n,aw_bits lw F n (by omega),hs,by unfold yS;rw [hv,hd,hs];rfl,h6 _ (zfk lw F),h6 _ (zfl lw F)⟩
theorem qp01:qp (0,1)=0:=(zby 0 1).2 rfl
theorem Lp01:Lp (0,1):=Lp.pq (q:=0) (by decide)
theorem Sp01:Sp (0,1):=⟨Nat.le_trans (zdg (by decide)) (by decide),Nat.le_trans (zdg (by decide)) (by decide)⟩
theorem Sp00:Sp (0,0):=⟨Nat.le_trans (zdg (by decide)) (by decide),Nat.le_trans (zdg (by decide)) (by decide)⟩
section
variable {N:Nt} {n:Nat} {L H:List Pr}
theorem GoodN.sp (g:GoodN N n L H) (p:Nat→Bool) {z:Pr} (hz:z=(0,0)∨z=(0,1)) {k:Nat} (hk:k≤256):Lp (zP p (fun s=>z6 L H s n) z k)∧Sp (zP p (fun s=>z6 L H s n) z k):=by
 have h1:qp z=0:=by rcases hz with rfl | rfl;(· exact qp_zero);exact qp01
 have h2:Lp z:=by rcases hz with rfl | rfl;(· exact Lp.zero);exact Lp01
 exact ⟨zid h2 k,sumP_Sp h1 h2 (fun s=>jx g.hL g.hH n) g.h8 hk⟩
theorem GoodN.k256 (g:GoodN N n L H):2^n≤256:=Nat.pow_le_pow_right (by decide) g.h8
theorem GoodN.low (g:GoodN N n L H) {v:Nat} (h1:1≤v) (h2:v≤n):(Lp ((yN N n L H n).getD v (0,0))∧Sp ((yN N n L H n).getD v (0,0)))∧qp (lM (qS N) (fun s=>z6 L H s n) (2^n) v)=qp ((yN N n L H n).getD v (0,0)):=by
 refine ⟨⟨?_,(lh_sum g.hW g.hb g.hv g.hd g.hs g.hn h1 h2).2.1⟩,?_⟩
 ·rw [zgz h1 h2];exact oO (g.hW.okT g.hb _) N
 ·unfold lM;rw [if_neg (by omega)];exact zfH g.hW g.hb g.hv g.hd g.ht g.hn qp_zero h1 h2
theorem GoodN.high (g:GoodN N n L H) {v:Nat} (h1:1≤v) (h2:v≤n):(Lp ((yG N n L H n).getD v (0,0))∧Sp ((yG N n L H n).getD v (0,0)))∧qp (hM (qS N) (fun s=>z6 L H s n) (2^n) v)=qp ((yG N n L H n).getD v (0,0)):=by
 refine ⟨⟨?_,(lh_sum g.hW g.hb g.hv g.hd g.hs g.hn h1 h2).2.2⟩,?_⟩
 ·rw [zhA g.hW g.hb g.hv g.hd g.ht g.hn qp_zero h1 h2];exact Lp.pq (qX _)
 ·unfold hM;rw [if_neg (by omega)];exact zix g.hW g.hb g.hv g.hd g.ht g.hn qp_zero h1 h2
theorem lM_sp (g:GoodN N n L H) (v:Nat):Lp (lM (qS N) (fun s=>z6 L H s n) (2^n) v)∧Sp (lM (qS N) (fun s=>z6 L H s n) (2^n) v):=by
 unfold lM;split
 ·exact ⟨Lp.zero,Sp00⟩
 ·exact g.sp _ (.inl rfl) g.k256
theorem hM_sp (g:GoodN N n L H) (v:Nat):Lp (hM (qS N) (fun s=>z6 L H s n) (2^n) v)∧Sp (hM (qS N) (fun s=>z6 L H s n) (2^n) v):=by
 unfold hM;split
 ·exact ⟨Lp.zero,Sp00⟩
 ·exact g.sp _ (.inl rfl) g.k256
end
end Cs
namespace Go.Proofs.YtmhllppjcilllaaGreatDoor
theorem zkg {k:Nat} (h:k<18446744073709551616):qk k = .agg #[.int .u64 (k:Int),.int .u64 0]:=by
 have h1:lo k=k:=Nat.mod_eq_of_lt h;have h2:hi k=0:=by unfold hi;rw [Nat.div_eq_of_lt h]
 show Value.agg #[.int .u64 (lo k:Int),.int .u64 (hi k:Int)]=_;rw [h1,h2];rfl
section
variable {N:Nt} {n:Nat} {L H:List Pr}
theorem oq (g:GoodN N n L H) {w:World} {A:Option Addr} {c:Nat} (hlen:N.l.length≤140737488355328) (hN:NtAt w w.heap.size A N.l):∀ k:Nat,k<2^n→∀ W,Below w.heap.size w W→Calls Tryz.prog 49 #[qB N A c,.agg #[.int .u64 (k:Int),.int .u64 0]] W fun e w'=>e = .returned (.bool (qS N k))∧Below W.heap.size W w':=fun k hk W hW=>by
 have h:=eval_any W N A c k hlen ((hN.below hW).more hW.size);have:=g.k256;rw [g.hv,Bool.true_and,zkg (by omega)] at h;exact h
theorem oo (g:GoodN N n L H) {A:Option Addr} {c:Nat}:∀ k:Nat,k<2^n→∀ W b9 b10 g1 c1 g2 c2,WnS N A c b9 b10 g1 c1 g2 c2 (n+1) L H W→Calls Tryz.prog 50 #[yw (some ⟨g1,0,none⟩) (some ⟨g2,0,none⟩) (n+1) (n+1) c1 c2,.int .i64 N.n,.int .u64 (k:Int)] W fun e w'=>e = .returned (zD (z6 L H k n).1 (z6 L H k n).2)∧Below W.heap.size W w':=fun k hk W b9 b10 g1 c1 g2 c2 h=>by
 have:=g.k256;have h8:=g.h8;have sp6:∀ p:Pr,p.1≤6∧p.2≤6→Sp p:=fun p hp=>⟨Nat.le_trans (zdg hp.1) (by decide),Nat.le_trans (zdg hp.2) (by decide)⟩;rw [g.hn];exact zjS W L H (n+1) c1 c2 g1 g2 n k h.rl h.rh (by omega) (by omega) (by omega) (fun j=>sp6 _ (g.hL j)) (fun j=>sp6 _ (g.hH j)) (fun j hj=>wgt_Sp g.hL g.hH (by omega))
theorem zj0 (g:GoodN N n L H):∀ k:Nat,k<2^n→∀ (p:Nat→Bool) (z:Pr),(z=(0,0)∨z=(0,1))→∀ W,Calls Tryz.prog 27 #[zD (zP p (fun s=>z6 L H s n) z k).1 (zP p (fun s=>z6 L H s n) z k).2,zD (z6 L H k n).1 (z6 L H k n).2] W fun e w'=>e = .returned (zD (pq (qp (zP p (fun s=>z6 L H s n) z k)+qp (z6 L H k n))).1 (pq (qp (zP p (fun s=>z6 L H s n) z k)+qp (z6 L H k n))).2)∧Below W.heap.size W w':=fun k hk p z hz W=>by
 have:=g.k256;have h1:=(g.sp p hz (k:=k) (by omega)).2;have h2:=wgt_Sp (a:=k) g.hL g.hH g.h8;exact zgr W _ _ _ _ h1.1 h1.2 h2.1 h2.2
end
theorem mods_any (w:World) (hT:Tab w) (hP:Pat w) (N:Nt) (A:Option Addr) (c:Nat) (Aw:Option Addr) (lw cw:Nat) (At:Option Addr) (lt ct:Nat) (F:Nat→Nat) (hlen:N.l.length≤140737488355328) (hN:NtAt w w.heap.size A N.l)
  (hlw:lw≤140737488355328) (hw:Rd w w.heap.size Aw (lw*4) (fun i=>.int .u8 (F i:Nat))) (hF:∀ i,F i<256) :
  Calls Tryz.prog 12 #[yE N A c Aw lw cw At lt ct] w fun e w'=>e = .returned (.bool true)∧Below w.heap.size w w':=by
 by_cases hg:jn N 60=true∧N.n≤8∧(zE N&&qc N)=true∧∀ s,qQ N s=true
 case neg=>exact mods_no w hT N A c Aw lw cw At lt ct hlen hN fun W h=>(ze3 W (hT.below h) (hP.below h) N A c Aw lw cw At lt ct hlen ((hN.below h).more h.size)).mono fun e w' ⟨r,h1,h2,h3⟩=>⟨r,h1,fun hr=>hg (h2 hr),h3⟩
 have hgo:∀ W,Below w.heap.size w W→_:=fun W h=>ze3 W (hT.below h) (hP.below h) N A c Aw lw cw At lt ct hlen ((hN.below h).more h.size);obtain ⟨n,g⟩:=good_n lw F hg;have haw:=aw_hyp w N A c Aw lw cw At lt ct F hlw hw hF n g.hn (by have:=g.h8;omega);obtain ⟨L,hL⟩:∃ L,oG lw F (n+1)=L:=⟨_,rfl⟩;obtain ⟨H,hH⟩:∃ H,oH lw F (n+1)=H:=⟨_,rfl⟩;rw [hL,hH] at haw g;have hwf:yv N n L H=0:=(zgR g.hb).trans g.hE;refine xM w hT N A c Aw lw cw At lt ct hlen hN n (n+1) L H (by have:=g.h8;omega) rfl g.hn g.h8 haw (fun W h=>(hgo W h).mono fun e w' ⟨r,h1,h2,h3⟩=>⟨r,h1,fun _=>trivial,h3⟩)
  ((RP n L H).sum N) (yN N n L H n) (yG N n L H n) ?_ ?_ ?_ ?_ ?_ (qS N) (fun s=>z6 L H s n) (oq g hlen hN) (oo g) (zj0 g) ?_ ?_ ?_
 ·exact fun W b9 b10 g1 c1 g2 c2 h m1 m2=>zgZ W N A c c1 c2 n L H _ _ h.nt g.hv g.hn h.tb g.hi g.hW h.rl h.rh m1 m2 _ 0 hwf.symm (by rw [if_pos rfl])
 ·intro W b9 b10 g1 c1 g2 c2 h m1 m2;refine (zhO W N A c c1 c2 n L H _ _ h.nt g.hv g.hn h.tb g.hi g.hW h.rl h.rh m1 m2 hwf).mono ?_;rintro e w' ⟨gl,gh,rfl,_,_,r1,r2,hb'⟩;exact ⟨gl,gh,rfl,r1,r2,hb'⟩
 ·show ((List.range (n+1)).map _).getD 0 (0,0)=_;rw [zc2,if_pos (Nat.succ_pos n)];rfl
 ·show ((List.range (n+1)).map _).getD 0 (0,0)=_;rw [zc2,if_pos (Nat.succ_pos n)];rfl
 ·exact fun W=>zcU W (0,0) (0,1) ⟨Lp.zero,Sp00⟩ ⟨Lp01,Sp01⟩ (qp_zero.trans qp01.symm)
 ·exact fun v h1 h2 W=>zcU W _ _ (lM_sp g v) (g.low h1 h2).1 (g.low h1 h2).2
 ·exact fun v h1 h2 W=>zcU W _ _ (hM_sp g v) (g.high h1 h2).1 (g.high h1 h2).2
 ·exact fun W=>zcU W _ _ ⟨oO (g.hW.ok g.hb) N,zeE (g.hW.ok g.hb) g.hv g.hd g.hs g.hn⟩ (g.sp _ (.inr rfl) g.k256) (zdO g.hW g.hb g.hv g.hd g.ht g.hn qp01).symm
end Go.Proofs.YtmhllppjcilllaaGreatDoor
end
section
open Go Go.RowKit Cs Go.ChangeShapes Go.WideShapes Go.ChangeAt
namespace Go.Proofs.YtmhllppjcilllaaGreatDoor
theorem gPat:Tryz.prog.globalNamed "census/shape.patterns"=some 0:=by kernel_rfl
theorem gPatType:(Tryz.prog.globals[0]?).map (·.type)=some 181:=by kernel_rfl
theorem cellsPat:Tryz.prog.cellsOf 181=6:=by kernel_rfl
theorem cellsU64:Tryz.prog.cellsOf 64=1:=by kernel_rfl
theorem xS {P:Program} {n:String} {d:DataW Unit} {r:List (String×DataW Unit)} {W:World} (h:laidMet P ((n,d)::r) W):laidMet P r W:=by
 obtain ⟨ps,⟨g,t,cs,fuel,p,q,_,_,_,_,hr,rfl⟩,hn,hz⟩:=h;exact ⟨q,hr,(List.nodup_append.1 hn).2.1,fun b off hm=>hz b off (List.mem_append.2 (.inr hm))⟩
theorem zgg {W:World} (h:laidMetH Tryz.prog [("math/bits.deBruijn64tab",Rows.laid_math_bits_deBruijn64tab),("census/shape.patterns",Rows.laid_census_shape_patterns)] W):Tab W∧Pat W:=by
 have h0:laidMet Tryz.prog [("math/bits.deBruijn64tab",Rows.laid_math_bits_deBruijn64tab),("census/shape.patterns",Rows.laid_census_shape_patterns)] W:=h;have ht:Lib.TabIs Tryz.prog W "math/bits.deBruijn64tab" .u8 (Lib.deBruijn64tab.map fun n:Nat=>(n:Int)) :=
  Lib.tabIs_of_head gTab zj1 Tryz.underlying214 Tryz.underlying5 zi8 zjG h0
 have hp:Lib.TabIs Tryz.prog W "census/shape.patterns" .u64 ([12297829382473034410,14757395258967641292,17361641481138401520,18374966859414961920,18446462603027742720,18446744069414584320]:List Int) :=
  Lib.tabIs_of_head (rest:=[]) gPat gPatType Tryz.underlying181 Tryz.underlying64 cellsU64 cellsPat (xS h0)
 refine ⟨?_,?_⟩
 ·intro j hj;have h1:=ht.cell gTab j (by simpa [Lib.deBruijn64tab] using hj);rw [h1];congr 2;rw [List.getD_eq_getElem?_getD,List.getD_eq_getElem?_getD,List.getElem?_map];cases Lib.deBruijn64tab[j]? <;> rfl
 ·intro i hi;have h1:=hp.cell gPat i hi;rw [h1]
  match i,hi with
  | 0,_ | 1,_ | 2,_ | 3,_ | 4,_ | 5,_=>rfl
noncomputable def laidWorld2 (os:Os):World :=
 { laidWorld os with heap:=(laidWorld os).heap.modify 0 fun
    | .cells _ t frozen=>.cells ((List.range 6).map fun n:Nat=>Value.int .u64 (yQ n:Int)).toArray t frozen
    | o=>o }
end Go.Proofs.YtmhllppjcilllaaGreatDoor
end
