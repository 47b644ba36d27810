import Derived.Test.YtmhllppjcilllaaGreatDoorMs
import Derived.Test.YtmhllppjcilllaaGreatDoorO7
set_option linter.unusedSimpArgs false
set_option linter.unusedVariables false
open Go Go.RowKit Cs
namespace Go.Proofs.YtmhllppjcilllaaGreatDoor
theorem xI (w:World) (hT:Tab w) (hP:Pat w) (N:Nt) (A:Option Addr) (c:Nat) (Aw:Option Addr) (lw cw:Nat) (At:Option Addr) (lt ct:Nat) (F:Nat→Nat) (hlen:N.l.length≤140737488355328) (hN:NtAt w w.heap.size A N.l)
  (hlw:lw≤140737488355328) (hw:Rd w w.heap.size Aw (lw*4) (fun i=>.int .u8 (F i:Nat))) (hF:∀ i,F i<256) (pk sg:Nat) (hpk:pk<256) (hsg:sg<256) :
  Calls Tryz.prog 13 #[yE N A c Aw lw cw At lt ct,.int .u8 (pk:Int),.int .u8 (sg:Int)] w fun e w'=>e = .returned (.bool true)∧Below w.heap.size w w':=by
 by_cases hg:jn N 60=true∧N.n≤8∧(zE N&&qc N)=true∧∀ s,qQ N s=true
 case neg=>exact parts_no w hT N A c Aw lw cw At lt ct hlen hN pk sg fun W h=>(ze3 W (hT.below h) (hP.below h) N A c Aw lw cw At lt ct hlen ((hN.below h).more h.size)).mono fun e w' ⟨r,h1,h2,h3⟩=>⟨r,h1,fun hr=>hg (h2 hr),h3⟩
 have hgo:∀ W,Below w.heap.size w W→_:=fun W h=>ze3 W (hT.below h) (hP.below h) N A c Aw lw cw At lt ct hlen ((hN.below h).more h.size);obtain ⟨n,g⟩:=good_n lw F hg;have haw:=aw_hyp w N A c Aw lw cw At lt ct F hlw hw hF n g.hn (by have:=g.h8;omega);obtain ⟨L,hL⟩:∃ L,oG lw F (n+1)=L:=⟨_,rfl⟩;obtain ⟨H,hH⟩:∃ H,oH lw F (n+1)=H:=⟨_,rfl⟩;rw [hL,hH] at haw g;have hwf:yv N n L H=0:=(zgR g.hb).trans g.hE;have h8:=g.h8;have htb:jR (n:Int) (ql 0 pk sg n)=true:=tm_ok (by omega);have htl:=zgf 0 pk sg n;have hr64:=xj rfl (show n≤128 by omega) htb;rw [← g.hn] at htb;have hso:=zdN (t:=ql 0 pk sg n) (g.hW.okT g.hb _) g.hv g.hd g.ht g.hn qp01;have hto:=zdO g.hW g.hb g.hv g.hd g.ht g.hn qp01;have s1:=g.sp (fun s=>qS N s&&yF (ql 0 pk sg n) s n) (.inr rfl) g.k256;have s2:=g.sp (qS N) (.inr rfl) g.k256;have hLT:=oO (g.hW.ok g.hb) N;have hsh:∀ W b9 b10 g1 c1 g2 c2,WnS N A c b9 b10 g1 c1 g2 c2 (n+1) L H W→n+1≤c1→n+1≤c2→∀ (At:Option Addr) (ct:Nat),Rd W W.heap.size At (ql 0 pk sg n).length (zV (ql 0 pk sg n))→_:=fun W b9 b10 g1 c1 g2 c2 h m1 m2 At ct hrd=>zhf W N A c c1 c2 ct n L H (ql 0 pk sg n) _ _ At h.nt g.hv g.hn h.tb g.hi g.hW h.rl h.rh m1 m2 hrd (by omega) hr64;obtain ⟨P,hP1⟩:∃ P,zP (fun s=>qS N s&&yF (ql 0 pk sg n) s n) (fun s=>z6 L H s n) (0,1) (2^n)=P:=⟨_,rfl⟩;obtain ⟨T,hT1⟩:∃ T,zP (qS N) (fun s=>z6 L H s n) (0,1) (2^n)=T:=⟨_,rfl⟩;have hmain:=fun (Q:Pr) (d:Bool) hdv=>zkj w hT N A c Aw lw cw At lt ct hlen hN pk sg hpk hsg n (n+1) L H (by omega) rfl g.hn g.h8 haw (fun W h=>(hgo W h).mono fun e w' ⟨r,h1,h2,h3⟩=>⟨r,h1,fun _=>trivial,h3⟩)
  (qS N) (fun s=>yF (ql 0 pk sg n) s n) (fun k hk=>x9 g.h8 hk hpk hsg) (fun s=>z6 L H s n) (oq g hlen hN) (oo g) (zj0 g) _ _ hsh Q d hdv
 rw [hP1,hT1] at hmain;rw [hP1] at hso s1;rw [hT1] at hto s2;by_cases h0:T.1=0
 ·have hz:qp ((RP n L H).sum N)=0:=by rw [← hto];exact (zc0 s2.1).2 h0
  have hz1:((RP n L H).sum N).1=0:=(zc0 hLT).1 hz;rw [zih htb hwf hz1] at hmain;refine hmain (0,0) false (fun W=>?_) (fun _=>⟨rfl,fun W=>zcU W (0,0) (0,1) ⟨Lp.zero,Sp00⟩ ⟨Lp01,Sp01⟩ (qp_zero.trans qp01.symm)⟩) (fun h=>(by cases h));rw [h0];exact zhp W _ _ _ s1.2.1 s1.2.2 s2.2.2
 ·have hz1:((RP n L H).sum N).1≠0:=fun h=>h0 ((zc0 s2.1).1 (hto.trans ((zc0 hLT).2 h)));rw [xB htb hwf hz1] at hmain;have hq:shP N n L H (ql 0 pk sg n)=pq (qp P / qp T):=by unfold shP;rw [hso,hto]
  have hsp:=sh_sp g.hW g.hb g.hv g.hd g.hs g.hn (ql 0 pk sg n);refine hmain (shP N n L H (ql 0 pk sg n)) true (fun W=>?_) (fun h=>(by cases h)) (fun _=>⟨rfl,fun W=>zcU W _ _ hsp hsp rfl⟩);rw [hq];exact ziX W _ _ _ _ s1.2.1 s1.2.2 s2.2.1 s2.2.2 (by omega)
end Go.Proofs.YtmhllppjcilllaaGreatDoor
