import Derived.Test.YtoljkoifgnmbgaaGreatDoorWy
import Derived.Test.YtoljkoifgnmbgaaGreatDoorKl
import Derived.Test.YtoljkoifgnmbgaaGreatDoorVp
import Derived.Test.YtoljkoifgnmbgaaGreatDoorRE
import Derived.Test.YtoljkoifgnmbgaaGreatDoorBq
import Derived.Test.YtoljkoifgnmbgaaGreatDoorM1
import Derived.Test.YtoljkoifgnmbgaaGreatDoorRP
set_option linter.unusedSimpArgs false
set_option linter.unusedVariables false
section
open Go Go.RowKit Cs
end
section
open Go Go.RowKit Cs
namespace Go.Proofs.YtoljkoifgnmbgaaGreatDoor
theorem okT_lt {s:ByteArray} {q:Rat} (h:rdO s=some q) (hs:s.size≤9):qn q<10^9∧q.den<10^9:=by
 obtain ⟨h0,e,_,_⟩:=rdO_spec h;unfold qtext at e;by_cases hd:q.den=1
 ·rw [if_pos hd] at e;rw [e] at hs;exact ⟨dec_lt _ _ hs,by rw [hd];decide⟩
 ·rw [if_neg hd] at e
  have:s.size=(dec (qn q)).size+1+(dec q.den).size:=by rw [e,ByteArray.size_append,ByteArray.size_append];rfl
  exact ⟨dec_lt _ _ (by omega),dec_lt _ _ (by omega)⟩
theorem n8_nine {V:Nat} (h:V<10^9):n8 V≤4:=(n8_le 4 V).2 (Nat.lt_of_lt_of_le h (by decide))
theorem okL_few {L:List ByteArray} (h:okL L L.length) (k:Nat):Lp ((prL L).getD k (0,0))∧n8 ((prL L).getD k (0,0)).1≤4∧n8 ((prL L).getD k (0,0)).2≤4:=by
 by_cases hk:k<L.length
 ·rw [prL_get L k hk];obtain ⟨⟨q,hq⟩,hs⟩:=h k hk;obtain ⟨h1,h2⟩:=okT_lt hq hs;have e:prT (L.getD k ⟨#[]⟩)=(qn q,q.den):=prT_of hq rfl;rw [e];exact ⟨Lp.pq (rdO_spec hq).1,n8_nine h1,n8_nine h2⟩
 ·have:(prL L).getD k (0,0)=(0,0):=by
   rw [List.getD_eq_getElem?_getD,List.getElem?_eq_none (by unfold prL;rw [List.length_map];omega)]
   rfl
  rw [this];exact ⟨Lp.zero,by decide +kernel,by decide +kernel⟩
theorem okL_in {n:Nat} {lo hi:List ByteArray} (h1:okL lo lo.length) (h2:okL hi hi.length) (hl:lo.length=n+1) (hh:hi.length=n+1):WtIn n (prL lo) (prL hi):=by
 have e:∀ L:List ByteArray,(prL L).length=L.length:=fun L=>by unfold prL;rw [List.length_map]
 refine ⟨(e lo).trans hl,(e hi).trans hh,fun k=>(okL_few h1 k).1,fun k=>(okL_few h2 k).1,?_,?_,fun k=>?_,fun k=>?_⟩
 ·have:=okL_few h1 0;exact ⟨by omega,by omega⟩
 ·have:=okL_few h2 0;exact ⟨by omega,by omega⟩
 ·have:=okL_few h1 k;exact ⟨by omega,by omega⟩
 ·have:=okL_few h2 k;exact ⟨by omega,by omega⟩
def acOk (N:Nt) (lo hi:List ByteArray):Prop:=(okL lo lo.length∧okL hi hi.length)∧(lo.length≤140∧hi.length≤140)∧wchk N (prL lo) (prL hi)=0
theorem acOk_ses {N:Nt} {lo hi:List ByteArray} {D:Nat} (h:acOk N lo hi) (hD:1<D):∃ n:Nat,N.n=(n:Int)∧lo.length=n+1∧hi.length=n+1∧SesOk N n (prL lo) (prL hi) [] D:=by
 obtain ⟨⟨h1,h2⟩,_,h3⟩:=h
 have e:∀ L:List ByteArray,(prL L).length=L.length:=fun L=>by unfold prL;rw [List.length_map]
 unfold wchk at h3;by_cases hc:vld N=true∧((prL lo).length:Int)=N.n+1∧((prL hi).length:Int)=N.n+1
 ·rw [if_pos hc] at h3;obtain ⟨hv,e1,e2⟩:=hc;rw [e] at e1 e2;obtain ⟨hn0,hn1,hl0,hl1⟩:=vld_bounds hv;obtain ⟨n,hn⟩:∃ n:Nat,N.n=(n:Int):=⟨N.n.toNat,by omega⟩;by_cases hk:cchk N=0
  ·rw [if_pos hk] at h3
   have hb:¬ 16384<sumB (prL lo) N.n.toNat+sumB (prL hi) N.n.toNat:=fun hb=>by rw [if_pos hb] at h3;exact absurd h3 (by decide)
   rw [show N.n.toNat=n by omega] at hb;obtain ⟨hd,hs⟩:=cchk_zero hv hk;exact ⟨n,hn,by omega,by omega,hv,hd,hs,hn,okL_in h1 h2 (by omega) (by omega),hb,TOk.nil,by decide,hD⟩
  ·rw [if_neg hk] at h3;exact absurd h3 hk
 ·rw [if_neg hc] at h3;exact absurd h3 (by decide)
end Go.Proofs.YtoljkoifgnmbgaaGreatDoor
end
section
open Go Go.RowKit Cs
namespace Go.Proofs.YtoljkoifgnmbgaaGreatDoor
theorem unew_any (w:World) (N:Nt) (A:Option Addr) (c cl ch:Nat) (lo hi:List ByteArray) (Al Ah:Option Addr) (hlen:N.l.length≤140737488355328) (hN:NtAt w w.heap.size A N.l) (hT:Tab w)
  (hin:∀ k (hk:k<N.l.length),N.l[k].ins.length≤1000000) (h1:okL lo lo.length) (h2:okL hi hi.length) (hb1:lo.length≤140) (hb2:hi.length≤140)
  (hlo:Rd w w.heap.size Al (lo.length*2) (prsF (prL lo))) (hhi:Rd w w.heap.size Ah (hi.length*2) (prsF (prL hi))) (hc1:lo.length≤cl) (hc2:hi.length≤ch) :
  Calls Tryz.prog 15 #[ntV N A c,wtsV Al Ah lo.length hi.length cl ch] w fun e w'=>Below w.heap.size w w' ∧
   ((acOk N lo hi∧∃ g E,e = .returned (.tuple #[.pointer (some ⟨g.b,0,none⟩),.int .i64 0])∧Ly w E g N N.n.toNat (prL lo) (prL hi) (.slice none 0 0) [] 0 [] w') ∨
    (¬ acOk N lo hi∧∃ R:Int,R=wchk N (prL lo) (prL hi)∧R≠0∧e = .returned (.tuple #[.pointer none,.int .i64 R]))):=by
 have el:∀ L:List ByteArray,(prL L).length=L.length:=fun L=>by unfold prL;rw [List.length_map]
 by_cases hac:acOk N lo hi
 ·obtain ⟨n,hn,e1,e2,ok⟩:=acOk_ses hac hT.lt
  have htn:N.n.toNat=n:=by omega
  rw [htn];have:=new_ok w N A c n cl ch (prL lo) (prL hi) Al Ah hN ok.hv ok.hd ok.hs hn hT hin ok.wt ok.hb (by rw [← e1];exact hlo) (by rw [← e2];exact hhi) (by omega) (by omega);rw [← e1] at this;refine (show Calls Tryz.prog 15 #[ntV N A c,wtsV Al Ah lo.length hi.length cl ch] w _ from by rw [show hi.length=lo.length by omega];exact this).mono ?_;rintro e w' ⟨g,E,rfl,hs,hb⟩;exact ⟨hb,Or.inl ⟨hac,g,E,rfl,Ly.ofLv ⟨hs,hb⟩⟩⟩
 ·have hR:wchk N (prL lo) (prL hi)≠0:=fun h=>hac ⟨⟨h1,h2⟩,⟨hb1,hb2⟩,h⟩
  have hck:∀ W,Below w.heap.size w W→Calls Tryz.prog 40 #[ntV N A c,wtsV Al Ah lo.length hi.length cl ch] W fun e w'=>e = .returned (.int .i64 (wchk N (prL lo) (prL hi)))∧Below W.heap.size W w':=fun W hb=>by
   have hN':=(hN.below hb).more hb.size;unfold wchk;by_cases hc:vld N=true∧((prL lo).length:Int)=N.n+1∧((prL hi).length:Int)=N.n+1
   ·rw [if_pos hc];obtain ⟨hv,e1,e2⟩:=hc;rw [el] at e1 e2;obtain ⟨hn0,hn1,hl0,hl1⟩:=vld_bounds hv;obtain ⟨n,hn⟩:∃ n:Nat,N.n=(n:Int):=⟨N.n.toNat,by omega⟩
    have f1:lo.length=n+1:=by omega
    have f2:hi.length=n+1:=by omega
    rw [f1,f2,show N.n.toNat=n by omega];have hw:=okL_in h1 h2 f1 f2;exact wcheck_fit W N A c cl ch n (prL lo) (prL hi) Al Ah hN' hv hn (hT.below hb) (by rw [← f1];exact (hlo.below hb).more hb.size) (by rw [← f2];exact (hhi.below hb).more hb.size) hw.sl hw.sh (by omega) (by omega) _ rfl
   ·rw [if_neg hc]
    have:=wcheck_bad W N A c cl ch (prL lo) (prL hi) Al Ah hlen hN' (by
     cases hv:vld N
     ·exact Or.inl rfl
     ·by_cases e1:((prL lo).length:Int)=N.n+1
      ·exact Or.inr (Or.inr ⟨rfl,e1,fun e2=>hc ⟨hv,e1,e2⟩⟩)
      ·exact Or.inr (Or.inl ⟨rfl,e1⟩))
    rw [el,el] at this;exact this
  refine (new_err w N A c lo.length hi.length cl ch Al Ah _ hR hck).mono ?_;rintro e w' ⟨rfl,hb⟩;exact ⟨hb,Or.inr ⟨hac,_,rfl,hR,rfl⟩⟩
theorem WtsR.any {w:World} {lo hi:List ByteArray} {e:Ending} {w':World} (h:WtsR w lo hi e w'):Below w.heap.size w w' ∧
  ∃ (Al Ah:Option Addr) (m k c d:Nat) (b:Bool),e = .returned (.tuple #[wtsV Al Ah m k c d,.bool b])∧(b=true→(okL lo lo.length∧okL hi hi.length)∧(lo.length≤140∧hi.length≤140)∧m=lo.length∧k=hi.length∧lo.length≤c∧hi.length≤d ∧
   Rd w' w'.heap.size Al (lo.length*2) (prsF (prL lo))∧Rd w' w'.heap.size Ah (hi.length*2) (prsF (prL hi)))∧(b=false→∀ N,¬ acOk N lo hi):=by
 obtain ⟨hb,h⟩:=h;refine ⟨hb,?_⟩;rcases h with ⟨hn,Al,Ah,m,k,c,d,rfl⟩ | ⟨hy,Al,Ah,cl,ch,rfl,h1,h2,h3,h4⟩
 ·exact ⟨Al,Ah,m,k,c,d,false,rfl,(fun h=>by cases h),fun _ N h=>hn h.1⟩
 ·refine ⟨Al,Ah,_,_,cl,ch,_,rfl,fun h=>?_,fun h N h5=>?_⟩
  ·simp only [Bool.and_eq_true,decide_eq_true_eq] at h;exact ⟨hy,h,rfl,rfl,h1,h2,h3,h4⟩
  ·have:=h5.2.1;rw [decide_eq_true this.1,decide_eq_true this.2] at h;cases h
end Go.Proofs.YtoljkoifgnmbgaaGreatDoor
end
section
set_option maxRecDepth 100000
set_option maxHeartbeats 4000000
open Go Go.RowKit Cs
namespace Go.Proofs.YtoljkoifgnmbgaaGreatDoor
theorem rnew_no (w:World) (N:Nt) (A Al Ah:Option Addr) (c cl ch ml mh:Nat) (R:Int) (hlen:N.l.length≤140737488355328) (hN:NtAt w w.heap.size A N.l)
  (h:(vld N=false∧R=1)∨(vld N=true∧¬ (ml:Int)=N.n+1∧R=1)∨(vld N=true∧(ml:Int)=N.n+1∧¬ (mh:Int)=N.n+1∧R=1) ∨
    (vld N=true∧(ml:Int)=N.n+1∧(mh:Int)=N.n+1∧cchk N≠0∧R=cchk N) ∨
    (vld N=true∧(ml:Int)=N.n+1∧(mh:Int)=N.n+1∧cchk N=0∧R=2∧∀ W,Below w.heap.size w W→Calls Tryz.prog 54 #[.slice Al ml cl,.slice Ah mh ch] W fun e w'=>e = .returned (.bool true)∧Below W.heap.size W w')) :
  Calls Tryz.prog 16 #[ntV N A c,.slice Al ml cl,.slice Ah mh ch] w fun e w'=>e = .returned (.tuple #[.pointer none,.int .i64 R])∧Below w.heap.size w w':=by
 have hck:=fun W hN=>rcheck_any W N A c hlen hN
 have hc1:vld N=true→cchk N≠1:=fun hv=>by
  unfold cchk;rw [hv];simp;split
  ·split <;> decide
  ·decide
 have hc2:vld N=false→cchk N=1:=fun hv=>by unfold cchk;rw [hv];rfl
 obtain ⟨E,hE⟩:∃ E,cchk N=E:=⟨_,rfl⟩;rw [hE] at hck hc1 hc2 h;have HCK:=zqh hck;clear hck hE;obtain ⟨Nn,l⟩:=N;simp only at h hN;have q0:=(Bag.zero w).new #[.int .i64 Nn,.slice A l.length c] 24 w.heap.size 2 rfl rfl;have HNT:=zqh (fun W (hb:Below w.heap.size w W)=>(hN.below hb).more hb.size);clear hN;rcases h with ⟨h1,rfl⟩ | ⟨h1,h2,rfl⟩ | ⟨h1,h2,h3,rfl⟩ | ⟨h1,h2,h3,h4,rfl⟩ | ⟨h1,h2,h3,h4,rfl,hhv⟩
 ·have hE:=hc2 h1;subst hE;clear hc1 hc2 h1
  go_enter Tryz.func16, Tryz.ntmps16
  go_wp2_with fail
  refine (HCK.out _ (HNT.out _ q0.bl)).mono ?_;rintro e w1 ⟨rfl,hb1⟩;have q1:=q0.below hb1;have m1:=q1.is0 0 (by decide) (.int .i64 Nn) rfl;have m2:=q1.is0 1 (by decide) (.slice A l.length c) rfl;clear hb1
  go_wp2_with fail
  go_ret2
  exact ⟨rfl,q1.bl⟩
 ·have b1:(E==1)=false:=beq_eq_false_iff_ne.2 (hc1 h1);have b2:((ml:Int)==Nn+1)=false:=beq_eq_false_iff_ne.2 h2
  have b3:((ml:Int) != Nn+1)=true:=by simp [bne,b2]
  obtain ⟨hn0,hn1,_,_⟩:=vld_bounds h1;simp only at hn0 hn1;clear hc1 hc2 h1 h2
  go_enter Tryz.func16, Tryz.ntmps16
  go_wp2_with fail
  refine (HCK.out _ (HNT.out _ q0.bl)).mono ?_;rintro e w1 ⟨rfl,hb1⟩;have q1:=q0.below hb1;have m1:=q1.is0 0 (by decide) (.int .i64 Nn) rfl;have m2:=q1.is0 1 (by decide) (.slice A l.length c) rfl;clear hb1
  go_wp2_with fail
  go_ret2
  exact ⟨rfl,q1.bl⟩
 ·have b1:(E==1)=false:=beq_eq_false_iff_ne.2 (hc1 h1);have b2:((ml:Int)==Nn+1)=true:=beq_iff_eq.2 h2
  have b3:((ml:Int) != Nn+1)=false:=by simp [bne,b2]
  have b4:((mh:Int)==Nn+1)=false:=beq_eq_false_iff_ne.2 h3
  have b5:((mh:Int) != Nn+1)=true:=by simp [bne,b4]
  obtain ⟨hn0,hn1,_,_⟩:=vld_bounds h1;simp only at hn0 hn1;clear hc1 hc2 h1 h2 h3
  go_enter Tryz.func16, Tryz.ntmps16
  go_wp2_with fail
  refine (HCK.out _ (HNT.out _ q0.bl)).mono ?_;rintro e w1 ⟨rfl,hb1⟩;have q1:=q0.below hb1;have m1:=q1.is0 0 (by decide) (.int .i64 Nn) rfl;have m2:=q1.is0 1 (by decide) (.slice A l.length c) rfl;clear hb1
  go_wp2_with fail
  go_ret2
  exact ⟨rfl,q1.bl⟩
 ·have b1:(R==1)=false:=beq_eq_false_iff_ne.2 (hc1 h1);have b2:((ml:Int)==Nn+1)=true:=beq_iff_eq.2 h2
  have b3:((ml:Int) != Nn+1)=false:=by simp [bne,b2]
  have b4:((mh:Int)==Nn+1)=true:=beq_iff_eq.2 h3
  have b5:((mh:Int) != Nn+1)=false:=by simp [bne,b4]
  have b6:(R==0)=false:=beq_eq_false_iff_ne.2 h4
  have b7:(R != 0)=true:=by simp [bne,b6]
  obtain ⟨hn0,hn1,_,_⟩:=vld_bounds h1;simp only at hn0 hn1;clear hc1 hc2 h1 h2 h3 h4
  go_enter Tryz.func16, Tryz.ntmps16
  go_wp2_with fail
  refine (HCK.out _ (HNT.out _ q0.bl)).mono ?_;rintro e w1 ⟨rfl,hb1⟩;have q1:=q0.below hb1;have m1:=q1.is0 0 (by decide) (.int .i64 Nn) rfl;have m2:=q1.is0 1 (by decide) (.slice A l.length c) rfl;clear hb1
  go_wp2_with fail
  go_ret2
  exact ⟨rfl,q1.bl⟩
 ·subst h4;have b2:((ml:Int)==Nn+1)=true:=beq_iff_eq.2 h2
  have b3:((ml:Int) != Nn+1)=false:=by simp [bne,b2]
  have b4:((mh:Int)==Nn+1)=true:=beq_iff_eq.2 h3
  have b5:((mh:Int) != Nn+1)=false:=by simp [bne,b4]
  have HHV:=zqh hhv;obtain ⟨hn0,hn1,_,_⟩:=vld_bounds h1;simp only at hn0 hn1;clear hc1 hc2 h1 h2 h3 hhv
  go_enter Tryz.func16, Tryz.ntmps16
  go_wp2_with fail
  refine (HCK.out _ (HNT.out _ q0.bl)).mono ?_;rintro e w1 ⟨rfl,hb1⟩;have q1:=q0.below hb1;have m1:=q1.is0 0 (by decide) (.int .i64 Nn) rfl;have m2:=q1.is0 1 (by decide) (.slice A l.length c) rfl;clear hb1
  go_wp2_with fail
  refine (HHV.out _ q1.bl).mono ?_;rintro e w2 ⟨rfl,hb2⟩;have q2:=q1.below hb2;clear hb2 m1 m2
  go_wp2_with fail
  go_ret2
  exact ⟨rfl,q2.bl⟩
theorem rnew_ok (w:World) (N:Nt) (A Al Ah:Option Addr) (c cl ch ml mh:Nat) (hlen:N.l.length≤140737488355328) (hN:NtAt w w.heap.size A N.l)
  (h1:vld N=true) (h2:(ml:Int)=N.n+1) (h3:(mh:Int)=N.n+1) (h4:cchk N=0) (hhv:∀ W,Below w.heap.size w W→Calls Tryz.prog 54 #[.slice Al ml cl,.slice Ah mh ch] W fun e w'=>e = .returned (.bool false)∧Below W.heap.size W w') :
  Calls Tryz.prog 16 #[ntV N A c,.slice Al ml cl,.slice Ah mh ch] w fun e w'=>∃ g,e = .returned (.tuple #[.pointer (some ⟨g,0,none⟩),.int .i64 0])∧w.heap.size≤g ∧
   w'.rowIs g 104 6 (arrF #[.int .i64 N.n,.slice A N.l.length c,.slice Al ml cl,.slice Ah mh ch,.slice none 0 0,.int .i64 0])∧Below w.heap.size w w':=by
 have hck:=fun W hN=>rcheck_any W N A c hlen hN;rw [h4] at hck;have HCK:=zqh hck;clear hck h4;obtain ⟨Nn,l⟩:=N;simp only at h2 h3 hN;have q0:=(Bag.zero w).new #[.int .i64 Nn,.slice A l.length c] 24 w.heap.size 2 rfl rfl;have HNT:=zqh (fun W (hb:Below w.heap.size w W)=>(hN.below hb).more hb.size);clear hN;have b2:((ml:Int)==Nn+1)=true:=beq_iff_eq.2 h2
 have b3:((ml:Int) != Nn+1)=false:=by simp [bne,b2]
 have b4:((mh:Int)==Nn+1)=true:=beq_iff_eq.2 h3
 have b5:((mh:Int) != Nn+1)=false:=by simp [bne,b4]
 have HHV:=zqh hhv;obtain ⟨hn0,hn1,_,_⟩:=vld_bounds h1;simp only at hn0 hn1;clear h1 h2 h3 hhv
 go_enter Tryz.func16, Tryz.ntmps16
 go_wp2_with fail
 refine (HCK.out _ (HNT.out _ q0.bl)).mono ?_;rintro e w1 ⟨rfl,hb1⟩;have q1:=q0.below hb1;have m1:=q1.is0 0 (by decide) (.int .i64 Nn) rfl;have m2:=q1.is0 1 (by decide) (.slice A l.length c) rfl;clear hb1
 go_wp2_with fail
 refine (HHV.out _ q1.bl).mono ?_;rintro e w2 ⟨rfl,hb2⟩;have q2:=q1.below hb2;have m3:=q2.is0 0 (by decide) (.int .i64 Nn) rfl;have m4:=q2.is0 1 (by decide) (.slice A l.length c) rfl;clear hb2 m1 m2
 go_wp2_with fail
 go_ret2
 exact ⟨_,rfl,q2.bl.size,arrNew w2 _ _ _ _ rfl rfl,q2.bl.alloc q2.bl.size _⟩
end Go.Proofs.YtoljkoifgnmbgaaGreatDoor
end
section
set_option maxRecDepth 100000
set_option maxHeartbeats 400000
section
namespace Cs
theorem div_nd (a b:Nat):nd 10 (a / b)≤nd 10 a:=nd_mono 10 (by decide) (Nat.div_le_self _ _)
end Cs
end
section
open Go Go.RowKit Cs
namespace Cs
theorem half_dg (a i:Nat):(10*(a / 10^(i+1)%2)+dg 10 a i) / 2=dg 10 (a / 2) i∧(10*(a / 10^(i+1)%2)+dg 10 a i)%2=a / 10^i%2:=by
 have e1:a / 10^(i+1)=a / 10^i / 10:=by rw [Nat.pow_succ,Nat.div_div_eq_div_mul]
 have e2:a / 2 / 10^i=a / 10^i / 2:=by rw [Nat.div_div_eq_div_mul,Nat.div_div_eq_div_mul,Nat.mul_comm]
 unfold dg;rw [e1,e2];generalize a / 10^i=x;omega
theorem nd2_half (a:Nat) (h:a≠0):nd 2 a=nd 2 (a / 2)+1:=by
 rw [nd_pos 2 a (by decide) (by omega),Nat.add_comm]
theorem lt_decN (a:Nat):a<10^decN a:=Nat.lt_of_lt_of_le (lt_pow_nd 10 a (by decide)) (Nat.pow_le_pow_right (by decide) (nd_decN a))
theorem nd2_dec (a m:Nat) (ha:decN a≤m):nd 2 a≤4*m:=by
 refine (nd_le_iff 2 (by decide) _ _).2 ?_;refine Nat.lt_of_lt_of_le (lt_decN a) ?_;refine Nat.le_trans (Nat.pow_le_pow_left (show 10≤2^4 by decide) _) ?_;rw [← Nat.pow_mul];exact Nat.pow_le_pow_right (by decide) (by omega)
end Cs
namespace Go.Proofs.YtoljkoifgnmbgaaGreatDoor
theorem rhalf_any (w:World) (a:Nat) (ha:decN a≤10000000) :
  Calls Tryz.prog 141 #[.string (dec a)] w fun e w'=>e = .returned (.string (dec (a / 2)))∧Below w.heap.size w w':=by
 have hsa:=dec_size a;have hna:=nd_decN a;have h1a:=decN_one a;have hda:=fun W i hi=>rdigit_any W a i (by omega) hi;have hfm:=fun W A n cap h0 h1 h2 h3=>form_pos W A n cap (a / 2) h0 h1 h2 h3;have hnd:=div_nd a 2;have hz2:a / 10^decN a=0:=Nat.div_eq_of_lt (lt_decN a);obtain ⟨sa,hsa'⟩:∃ s,s=dec a:=⟨_,rfl⟩;rw [← hsa'] at hsa hda ⊢;rw [← hsa] at hz2;clear hsa';have hmk:=rmk_int sa.size (by omega);have HDA:=zqh hda;have HF:=zqh hfm;have HZ2:=zqh hz2;clear hda hfm hz2
 have hza:sa.size≤10000000:=by omega
 have hz1a:1≤sa.size:=by omega
 have hna':nd 10 (a / 2)≤sa.size:=by omega
 have HNA:=zqh hna';clear ha hsa hna h1a hnd hna'
 go_enter Tryz.func141, Tryz.ntmps141
 go_wp2
 go_loopw [4,5,6] (fun r i d wr=>∃ k:Nat,k≤sa.size∧i = .int .i64 ((k:Int)-1)∧r = .int .i64 ((a / 10^k%2:Nat):Int)∧wr.rowIs w.heap.size 3 sa.size (fun j=>if k≤j then dgF (a / 2) j else .int .i64 0)∧Below w.heap.size w wr)
  (fun _ i _ _=>(intOf i+1).toNat)
 case atStart=>exact ⟨sa.size,zqn _,rfl,by rw [HZ2.out];rfl,rowMade w (.int .i64 0) sa.size 3 _ rfl (fun i hi=>by rw [if_neg (by omega)]),(zqr _ _).alloc (zqn _) _⟩
 case round =>
  obtain ⟨k,hk,rfl,rfl,hrow,hbel⟩:=hrel;rcases Nat.eq_zero_or_pos k with h0 | h0
  ·subst h0;have hrd:Rd wr wr.heap.size (some ⟨w.heap.size,0,none⟩) sa.size (dgF (a / 2)):=Rd.of_row (hrow.congr fun i hi=>by rw [if_pos (by omega)]) (zqn _) hrow.lt;have HR:=zqh hrd;have hbl:=hbel.size;clear hrd hmk hrow
   go_wp2_with (go_at_call 148;(with_reducible refine (HF.out _ _ sa.size sa.size hz1a (by omega) HNA.out HR.out).mono ?_);rintro e w' ⟨rfl,hb9⟩)
   go_ret
   exact ⟨rfl,zqx hbel hb9 hbl⟩
  ·obtain ⟨m,rfl⟩:∃ m,k=m+1:=⟨k-1,by omega⟩;have da:=dg10_lt a m;obtain ⟨hd1,hd2⟩:=half_dg a m;have hcell:=hrow.cell (i:=m) (by omega);have hfr:=hrow.frozen m;have hrl:=Nat.mod_lt (a / 10^(m+1)) (show 2 > 0 by decide);have hset:=hrow.set m (dgF (a / 2) m)
   have hset2:(wr.setCell ⟨w.heap.size,m,none⟩ (.int .i64 ((dg 10 (a / 2) m:Nat):Int))).rowIs w.heap.size 3 sa.size (fun j=>if m≤j then dgF (a / 2) j else .int .i64 0):=hset.congr fun i hi=>by
    by_cases e:i=m
    ·rw [if_pos e,if_pos (by omega),e]
    ·rw [if_neg e];by_cases e2:m+1≤i
     ·rw [if_pos e2,if_pos (by omega)]
     ·rw [if_neg e2,if_neg (by omega)]
   have HS2:=zqh hset2;obtain ⟨r,hr⟩:∃ r,a / 10^(m+1)%2=r:=⟨_,rfl⟩;obtain ⟨r',hr'⟩:∃ r,a / 10^m%2=r:=⟨_,rfl⟩;obtain ⟨x,hx⟩:∃ x,dg 10 a m=x:=⟨_,rfl⟩;obtain ⟨y,hy⟩:∃ y,dg 10 (a / 2) m=y:=⟨_,rfl⟩;have hd:=HDA.out;have hdm:=fun W=>hd W m (by omega);rw [hx] at hdm da hd1 hd2;rw [hr] at hd1 hd2 hrl ⊢;rw [hy] at hd1 HS2;rw [hr'] at hd2
   have Y1:(10*(r:Int)+(x:Int)) / 2=(y:Int):=by omega
   have Y2:(10*(r:Int)+(x:Int))%2=(r':Int):=by omega
   have HR':=zqh hr';have HDM:=zqh hdm
   have e0:((m:Int)+1)-1=(m:Int):=by omega
   have hcell2:wr.cell? ⟨w.heap.size,m,none⟩=some (.int .i64 0):=hcell.trans (by rw [if_neg (by omega)])
   have hi1:(m:Int)<(sa.size:Int):=by omega
   have hi2:m<sa.size:=by omega
   rw [show (((m+1:Nat):Int)-1)=(m:Int) by omega];clear hd hdm hr hr' hx hy hd1 hd2 hset hset2 hcell hmk e0
   go_wp2_with (go_at_call 145;(with_reducible refine (HDM.out _).mono ?_);rintro e w' ⟨rfl,rfl⟩)
   go_roundw
   case rel=>exact ⟨m,by omega,rfl,by rw [HR'.out,Y2],HS2.out,hbel.setCell (by simp) _⟩
   case measure=>simp [intOf] <;> omega
theorem rlen_any (w:World) (a:Nat) (ha:decN a≤10000000) :
  Calls Tryz.prog 98 #[.string (dec a)] w fun e w'=>e = .returned (.int .i64 (nd 2 a:Nat))∧Below w.heap.size w w':=by
 have hb:=nd2_dec a 10000000 ha
 go_enter Tryz.func98, Tryz.ntmps98
 go_wp2
 go_loopw [0,3] (fun s n wr=>∃ k x:Nat,s = .string (dec x)∧n = .int .i64 k∧x≤a∧Hid (k+nd 2 x=nd 2 a)∧Below w.heap.size w wr) (fun _ n _=>nd 2 a-(intOf n).toNat)
 case atStart=>exact ⟨0,a,rfl,rfl,zqn _,Nat.zero_add _,zqr _ _⟩
 case round =>
  obtain ⟨k,x,rfl,rfl,hxa,HK,hbel⟩:=hrel;have h0:=dec_is0 x;have hk:=HK.out;by_cases hx0:x=0
  ·have hd:(dec x).toList=[48]:=h0.2 hx0
   have hkk:k=nd 2 a:=by rw [hx0,nd_zero] at hk;omega
   have HKK:=zqh hkk;clear h0 hk hkk hx0 hb ha hxa HK
   generalize dec x=s at *
   go_wp2
   go_ret
   exact ⟨ret_int (by rw [HKK.out]),hbel⟩
  ·have hd:¬ (dec x).toList=[48]:=fun h=>hx0 (h0.1 h);have hd2:((dec x).toList==[48])=false:=beq_eq_false_iff_ne.2 hd;have hhf:=fun W=>rhalf_any W x (Nat.le_trans (decN_mono hxa) ha);have HHF:=zqh hhf;have hn2:=nd2_half x hx0
   have hk3:k+1≤nd 2 a:=by omega
   have HN:=zqh (show (k+1)+nd 2 (x / 2)=nd 2 a by omega)
   have hxx:x / 2≤a:=by omega
   clear h0 hk hx0 hhf hn2 HK
   generalize nd 2 a=m at *
   generalize dec x=s at *
   go_wp2_with (go_at_call 141;(with_reducible refine (HHF.out _).mono ?_);rintro e w3 ⟨rfl,hb3⟩)
   go_roundw
   case rel=>exact ⟨k+1,x / 2,rfl,by go_num,hxx,HN,zqx hbel hb3 hbel.size⟩
   case measure=>simp [intOf];omega
end Go.Proofs.YtoljkoifgnmbgaaGreatDoor
end
end
