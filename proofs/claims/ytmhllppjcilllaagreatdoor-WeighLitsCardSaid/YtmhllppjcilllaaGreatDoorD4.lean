import Derived.Test.YtmhllppjcilllaaGreatDoorNr
import Derived.WalkMore
import Derived.Maps.AppendAt
import Derived.Deep.CutBlock
import Derived.Deep.CutRange
import Derived.Test.YtmhllppjcilllaaGreatDoorN2
import Derived.Lib.BitFns
set_option linter.unusedSimpArgs false
set_option linter.unusedVariables false
set_option maxRecDepth 100000
set_option maxHeartbeats 4000000
section
open Go Go.RowKit Cs
namespace Cs
theorem dword (U p:Nat):U / 2^(32*p)=wd U p+4294967296*(U / 2^(32*(p+1))):=by
 unfold wd;rw [zbL,← Nat.div_div_eq_div_mul];have:=Nat.div_add_mod (U / 2^(32*p)) 4294967296;omega
theorem zeq {U n:Nat} (h:U<2^(32*(n+1))):U / 2^(32*n)=wd U n:=by
 unfold wd;rw [Nat.mod_eq_of_lt];rw [Nat.div_lt_iff_lt_mul (Nat.pow_pos (by decide)),Nat.mul_comm,← zbL];exact h
theorem zhX {U n:Nat} (h:U<2^(32*(n+3))):U=((wd U (n+2)*4294967296+wd U (n+1))*4294967296+wd U n)*2^(32*n)+U%2^(32*n):=by
 have h1:=dword U n;have h2:=dword U (n+1);rw [zeq h] at h2;rw [h2,show wd U n+4294967296*(wd U (n+1)+4294967296*wd U (n+1+1))=(wd U (n+1+1)*4294967296+wd U (n+1))*4294967296+wd U n by omega] at h1;have h3:=Nat.div_add_mod U (2^(32*n));rw [h1,Nat.mul_comm (2^(32*n))] at h3;exact h3.symm
theorem xc {Y n:Nat} (h:Y<2^(32*(n+2))):Y=(wd Y (n+1)*4294967296+wd Y n)*2^(32*n)+Y%2^(32*n):=by
 have h1:=dword Y n;rw [zeq h,show wd Y n+4294967296*wd Y (n+1)=wd Y (n+1)*4294967296+wd Y n by omega] at h1;have h3:=Nat.div_add_mod Y (2^(32*n));rw [h1,Nat.mul_comm (2^(32*n))] at h3;exact h3.symm
end Cs
namespace Go.Proofs.YtmhllppjcilllaaGreatDoor
theorem zf4 (w:World) (g N i n cap gy oy capy U T Y d:Nat) (b:Bool) (F:Nat→Value) (hn:n≤1000000) (hiN:i+n<N) (hr0:w.rowIs g 124 N F) (hF:∀ k,k≤n→F (i+k) = .int .u32 (wd U k))
  (hy:∀ k,k<n→w.cell? ⟨gy,oy+k,none⟩=some (.int .u32 (wd Y k))) (hne:gy≠g) (hY:Y<2^(32*n)) (hi:i≤10000000) (ho:oy≤10000000)
  (hd:d<4294967296) (hU:U<2^(32*(n+1))) (hT:T<2^(32*(n+1))) (hE:T+d*Y=U+2^(32*(n+1))*(if b=true then 1 else 0)) :
  Calls Tryz.prog 157 #[.slice (some ⟨g,i,none⟩) (n+1) cap,.slice (some ⟨gy,oy,none⟩) n capy,.int .u64 d] w fun e w'=>e = .returned (.bool b)∧w'.rowIs g 124 N (yo T i (n+1) F)∧w.grownBy w' (some g):=by
 refine (zgZ w g N i n cap gy oy capy U T Y d (if b=true then 1 else 0) F hn hiN hr0 hF hy hne hY hi ho hd (by split <;> omega) hU hT hE).mono ?_;rintro e w' ⟨rfl,h⟩;exact ⟨by cases b <;> rfl,h⟩
theorem long_any (w:World) (g gy n m k cap capy X Y:Nat) (hn:2≤n) (hm:(m:Int)-(n:Int)=(k:Int)) (hm2:m≤1000000) (hcap:m≤cap) (hx:w.rowIs g 124 m (fun q=>.int .u32 (wd X q)))
  (hy:w.rowIs gy 124 n (fun q=>.int .u32 (wd Y q))) (hne:gy≠g) (hY:Y<2^(32*n)) (htop:2147483648≤wd Y (n-1)) (hX:X<Y*2^(32*k)) :
  Calls Tryz.prog 121 #[.slice (some ⟨g,0,none⟩) m cap,.slice (some ⟨gy,0,none⟩) n capy] w fun e w'=>∃ o,w.heap.size≤o∧e = .returned (.slice (some ⟨o,0,none⟩) k k) ∧
   w'.rowIs o 124 k (fun q=>.int .u32 (wd (X / Y) q))∧w'.rowIs g 124 m (fun q=>.int .u32 (wd (X%Y) q))∧w.grownBy w' (some g):=by
 have hmk:=zeZ k (by omega);have hY0:0<Y:=by
  rcases Nat.eq_zero_or_pos Y with h | h
  ·subst h;simp [wd] at htop
  ·exact h
 have hrow0:(w.alloc (.cells (madeCells #[.int .u32 0] k) 124)).rowIs w.heap.size 124 k (fun _=>.int .u32 0):=pS _ _ _ _ _ rfl fun _ _=>rfl;have hx0:=hx.alloc (.cells (madeCells #[.int .u32 0] k) 124);have hg0:w.grownBy (w.alloc (.cells (madeCells #[.int .u32 0] k) 124)) (some g):=zkl (World.grownBy.refl w _) _;have hgl:=hx.lt;have hyl:=hy.lt;have HX:=zb hX;have HY:=zb hY;have HY0:=zb hY0;clear hX hY hY0;go_enter Tryz.func121, Tryz.ntmps121;go_wp2_with fail
 go_loopw [7] (fun t wr=>∃ j:Nat,j≤k∧t = .int .i64 ((j:Int)-1)∧wr.rowIs w.heap.size 124 k (fun q=>.int .u32 (if q<j then 0 else wd (X / Y) q))∧wr.rowIs g 124 m (fun q=>.int .u32 (wd (lr X Y j) q))∧w.grownBy wr (some g)∧w.heap.size<wr.heap.size) (fun t _=>(intOf t+1).toNat)
 case atStart=>exact ⟨k,zu _,rfl,hrow0.congr fun q hq=>by rw [if_pos hq],hx0.congr fun q _=>by rw [lr_top X Y k HX.out],hg0,by simp⟩
 case round =>
  clear hrow0 hx0 hg0 hmk;obtain ⟨j,hj,rfl,ho,hr,hg,hsz⟩:=hrel;rcases Nat.eq_zero_or_pos j with h0 | h0
  ·subst h0;go_wp2;go_ret;exact ⟨w.heap.size,zu _,rfl,ho.congr fun q _=>by rw [if_neg (by omega)],hr.congr fun q _=>by rw [lr_zero],hg⟩
  ·obtain ⟨i,rfl⟩:∃ i,j=i+1:=⟨j-1,by omega⟩;have ej:((i+1:Nat):Int)-1=(i:Int):=by omega
   rw [ej];clear ej h0;have hU:=lr_lt X Y i HY0.out;obtain ⟨U,hUe⟩:∃ U,lr X Y (i+1) / 2^(32*i)=U:=⟨_,rfl⟩;have hw:∀ q,q≤n→wr.cell? ⟨g,i+q,none⟩=some (.int .u32 (wd U q)):=fun q hq=>by rw [hr.cell (i:=i+q) (by omega),zge,hUe]
   have hyw:∀ q,q<n→wr.cell? ⟨gy,q,none⟩=some (.int .u32 (wd Y q)):=fun q hq=>hg.cell (hy.cell hq) (by intro e;injection e with e;exact hne e);rw [hUe] at hU;have c1:=hw n (zu _);have c2:=hw (n-1) (by omega);have c3:=hw (n-2) (by omega);have c4:=hyw (n-1) (by omega);have c5:=hyw (n-2) (by omega);rw [show i+(n-1)=i+n-1 by omega] at c2;rw [show i+(n-2)=i+n-2 by omega] at c3;have hu1:=qz U n;have hu2:=qz U (n-1);have hu3:=qz U (n-2);have hy1:=qz Y (n-1);have hy2:=qz Y (n-2);have hor:=jA (wd U n) (wd U (n-1)) hu1 hu2;have HW:=zb hw;have HYW:=zb hyw;have HU:=zb hU;clear hw hyw hU;go_wp2
   go_step3
   go_wp2
   go_quiet (fail)
   go_wp2
   go_quiet (fail)
   go_wp2
   go_step3
   have hUn:U<2^(32*(n+1)):=Nat.lt_of_lt_of_le HU.out (by rw [zbL,Nat.mul_comm];exact Nat.mul_le_mul_right _ (Nat.le_of_lt HY.out));have hU3:=zhX (U:=U) (n:=n-2) (by rw [show n-2+3=n+1 by omega];exact hUn);have hY2:=xc (Y:=Y) (n:=n-2) (by rw [show n-2+2=n by omega];exact HY.out);rw [show n-2+2=n by omega,show n-2+1=n-1 by omega] at hU3;rw [show n-2+1=n-1 by omega] at hY2;have hK:0<2^(32*(n-2)):=Nat.pow_pos (by decide);have hL:=Nat.mod_lt U hK;have hM:=Nat.mod_lt Y hK;obtain ⟨T,hT⟩:∃ T,wd U n*4294967296+wd U (n-1)=T:=⟨_,rfl⟩;rw [hT] at hU3;have hfirst:=zhW hK hL hU3 hY2 hu3 (by omega);have htop2:=xg hK hM hU3 hY2 HU.out;have hdown:=fun d rest hr hd=>zjP (d:=d) (rest:=rest) hK hL hU3 hY2 hr hu3 HU.out hd;have hkeep:=fun d rest hr hd h=>zjO (d:=d) (rest:=rest) hM hU3 hY2 hr hd htop h;have HFIRST:=zb hfirst;have HTOP:=zb htop2;have HDOWN:=zb hdown;have HKEEP:=zb hkeep;have HUN:=zb hUn;have HT:=zb hT;clear hfirst htop2 hdown hkeep hU3 hY2 hK hL hM hUn hT hor
   go_upto_block 2 with fail
   go_cut [9,10] from 60 to 97 (fun d r wx=>∃ D R:Nat,d = .int .u64 D∧r = .int .u64 R∧Hid (D*Y<U+Y∧U<(D+1)*Y)∧D<4294967296∧wx.rowIs w.heap.size 124 k (fun q=>.int .u32 (if q<i+1 then 0 else wd (X / Y) q))∧wx.rowIs g 124 m (fun q=>.int .u32 (wd (lr X Y (i+1)) q))∧w.grownBy wx (some g)∧w.heap.size<wx.heap.size)
   case first =>
    go_wp2_with fail
    go_loopw [9,10] (fun d r wx=>∃ D R:Nat,d = .int .u64 D∧r = .int .u64 R∧R<4294967296∧D<18446744073709551616∧Hid (T=D*wd Y (n-1)+R∧U<(D+1)*Y)∧wx.rowIs w.heap.size 124 k (fun q=>.int .u32 (if q<i+1 then 0 else wd (X / Y) q))∧wx.rowIs g 124 m (fun q=>.int .u32 (wd (lr X Y (i+1)) q))∧w.grownBy wx (some g)∧w.heap.size<wx.heap.size) (fun d _ _=>(intOf d).toNat)
    case atStart =>
     have hy0:0<wd Y (n-1):=by omega
     refine ⟨T / wd Y (n-1),T%wd Y (n-1),by rw [← HT.out];simp,by rw [← HT.out];simp,Nat.lt_trans (Nat.mod_lt _ hy0) hy1,?_,⟨?_,HFIRST.out⟩,qT (qT ho _) _,qT (qT hr _) _,zb6 (zb6 hg _) _,hsz⟩
     ·exact Nat.lt_of_le_of_lt (Nat.div_le_self _ _) (by have:=HT.out;omega)
     ·rw [Nat.mul_comm];exact (Nat.div_add_mod _ _).symm
    case round =>
     clear c1 c2 c3 c4 c5 ho hr hg hsz HFIRST;obtain ⟨D,R,rfl,rfl,hR,hD,HI,ho,hr,hg,hsz⟩:=hrel;have c3:_=some (Value.int .u32 (wd U (n-2):Int)):=(hr.cell (i:=i+(n-2)) (by omega)).trans (by rw [zge,hUe]);rw [show i+(n-2)=i+n-2 by omega] at c3;have hyw:∀ q,q<n→wr.cell? ⟨gy,q,none⟩=some (.int .u32 (wd Y q)):=fun q hq=>hg.cell (hy.cell hq) (by intro e;injection e with e;exact hne e);have c4:=hyw (n-1) (by omega);have c5:=hyw (n-2) (by omega);clear hyw;have hor:=jA R (wd U (n-2)) hR hu3;obtain ⟨hTe,hUlt⟩:=HI.out;have hdn:=fun hd=>HDOWN.out D R hTe hd;by_cases hbad:4294967296≤D∨R*4294967296+wd U (n-2)<D*wd Y (n-2)
     ·have hd1:=hdn hbad;have hD1:1≤D:=by
       rcases Nat.eq_zero_or_pos D with h | h
       ·subst h;rcases hbad with h' | h' <;> simp at h'
       ·exact h
      have hT2:T=(D-1)*wd Y (n-1)+(R+wd Y (n-1)):=by
       rw [hTe];obtain ⟨D',rfl⟩:∃ D',D=D'+1:=⟨D-1,by omega⟩;rw [Nat.add_mul,Nat.one_mul,Nat.add_sub_cancel];omega
      have hU2:U<(D-1+1)*Y:=by rw [Nat.sub_add_cancel hD1];exact hd1
      have hRnat:((R:Int)+(wd Y (n-1):Int))=((R+wd Y (n-1):Nat):Int):=by simp
      have hDnat:((D:Int)-1)=((D-1:Nat):Int):=by omega
      have HT2:=zb hT2;have HU2:=zb hU2;have HRN:=zb hRnat;have HDN:=zb hDnat;have hout:4294967296≤R+wd Y (n-1)→(D-1)*Y<U+Y∧D-1<4294967296:=fun h=>by
       have h1:D-1<4294967296:=by
        refine Nat.lt_of_not_le fun h2=>?_;have h3:4294967296*wd Y (n-1)≤(D-1)*wd Y (n-1):=Nat.mul_le_mul_right _ h2;have h4:=HTOP.out;rw [hT2] at h4;omega
       refine ⟨HKEEP.out (D-1) _ hT2 h1 ?_,h1⟩;have h5:(D-1)*wd Y (n-2)≤4294967295*4294967295:=Nat.mul_le_mul (by omega) (by omega);have h6:4294967296*4294967296≤(R+wd Y (n-1))*4294967296:=Nat.mul_le_mul_right _ h;omega
      have HOUT:=zb hout;have hcase:4294967296≤D∨(D<4294967296∧R*4294967296+wd U (n-2)<D*wd Y (n-2)):=by
       rcases hbad with h | h
       ·exact .inl h
       ·rcases Nat.lt_or_ge D 4294967296 with h' | h'
        ·exact .inr ⟨h',h⟩
        ·exact .inl h'
      clear hbad hd1 hTe hUlt HI hT2 hU2 hRnat hDnat hdn hout;rcases hcase with h1 | ⟨h1,h2⟩
      ·have b1:decide ((0:Int)<(D:Int) / 4294967296)=true:=decide_eq_true (by omega);clear h1;rcases Nat.lt_or_ge (R+wd Y (n-1)) 4294967296 with h9 | h9
       ·have H9:=zb h9;go_wp2
        go_quiet (fail)
        clear b1;iterate 67 go_step
        refine wp_cond_false (congrArg Value.bool (show decide ((0:Int)<((R:Int)+(wd Y (n-1):Int)) / 4294967296)=false from decide_eq_false (by omega))) ?_;go_wp2;rw [HRN.out,HDN.out];go_roundw
        case rel=>exact ⟨D-1,R+wd Y (n-1),rfl,rfl,H9.out,by omega,⟨HT2.out,HU2.out⟩,qT ho _,qT hr _,zb6 hg _,hsz⟩
        case measure=>simp [intOf];omega
       ·have H9:=zb h9;go_wp2
        go_quiet (fail)
        clear b1;iterate 67 go_step
        refine wp_cond_true (congrArg Value.bool (show decide ((0:Int)<((R:Int)+(wd Y (n-1):Int)) / 4294967296)=true from decide_eq_true (by omega))) ?_;go_wp2;go_meet;rw [HRN.out,HDN.out];exact ⟨D-1,R+wd Y (n-1),rfl,rfl,⟨(HOUT.out H9.out).1,HU2.out⟩,(HOUT.out H9.out).2,qT ho _,qT hr _,zb6 hg _,hsz⟩
      ·have b1:decide ((0:Int)<(D:Int) / 4294967296)=false:=decide_eq_false (by omega);obtain ⟨hm1,hm0⟩:=mul_w h1 hy2;have b2:decide (((R:Int)*4294967296+(wd U (n-2):Int))<(D:Int)*(wd Y (n-2):Int))=true:=decide_eq_true (by
        have:=Int.ofNat_lt.2 h2;simpa using this)
       clear h2 h1;rcases Nat.lt_or_ge (R+wd Y (n-1)) 4294967296 with h9 | h9
       ·have H9:=zb h9;go_wp2
        go_quiet (fail)
        clear b1 b2;iterate 67 go_step
        refine wp_cond_false (congrArg Value.bool (show decide ((0:Int)<((R:Int)+(wd Y (n-1):Int)) / 4294967296)=false from decide_eq_false (by omega))) ?_;go_wp2;rw [HRN.out,HDN.out];go_roundw
        case rel=>exact ⟨D-1,R+wd Y (n-1),rfl,rfl,H9.out,by omega,⟨HT2.out,HU2.out⟩,qT ho _,qT hr _,zb6 hg _,hsz⟩
        case measure=>simp [intOf];omega
       ·have H9:=zb h9;go_wp2
        go_quiet (fail)
        clear b1 b2;iterate 67 go_step
        refine wp_cond_true (congrArg Value.bool (show decide ((0:Int)<((R:Int)+(wd Y (n-1):Int)) / 4294967296)=true from decide_eq_true (by omega))) ?_;go_wp2;go_meet;rw [HRN.out,HDN.out];exact ⟨D-1,R+wd Y (n-1),rfl,rfl,⟨(HOUT.out H9.out).1,HU2.out⟩,(HOUT.out H9.out).2,qT ho _,qT hr _,zb6 hg _,hsz⟩
     ·have hb:D<4294967296∧D*wd Y (n-2)≤R*4294967296+wd U (n-2):=⟨by omega,by omega⟩;have hk:=HKEEP.out D R hTe hb.1 hb.2;obtain ⟨h1,h2⟩:=hb;have b1:decide ((0:Int)<(D:Int) / 4294967296)=false:=decide_eq_false (by omega);obtain ⟨hm1,hm0⟩:=mul_w h1 hy2;have b2:decide (((R:Int)*4294967296+(wd U (n-2):Int))<(D:Int)*(wd Y (n-2):Int))=false:=decide_eq_false (by
       have:=Int.ofNat_le.2 h2;simp at this;omega)
      have HK:=zb hk;have HUL:=zb hUlt;clear hbad hdn hTe hUlt HI h2 hk;go_wp2
      go_quiet (fail)
      clear b1 b2;go_wp2;go_meet;exact ⟨D,R,rfl,rfl,⟨HK.out,HUL.out⟩,h1,qT ho _,qT hr _,zb6 hg _,hsz⟩
   case rest =>
    obtain ⟨D,R,rfl,rfl,HD,hD,ho,hr,hg,hsz⟩:=hcut;clear c1 c2 c3 c4 c5 HFIRST HTOP HDOWN HKEEP HT T;have hF:∀ q,q≤n→(fun q=>Value.int .u32 (wd (lr X Y (i+1)) q)) (i+q) = .int .u32 (wd U q):=fun q _=>by
     show Value.int .u32 (wd (lr X Y (i+1)) (i+q))=_;rw [zge,hUe]
    have hyw:∀ q,q<n→wc.cell? ⟨gy,0+q,none⟩=some (.int .u32 (wd Y q)):=fun q hq=>by rw [Nat.zero_add];exact hg.cell (hy.cell hq) (by intro e;injection e with e;exact hne e)
    have hB:Y<2^(32*(n+1)):=Nat.lt_of_lt_of_le HY.out (Nat.pow_le_pow_right (by decide) (by omega));have hfin:∀ wq:World,wq.rowIs g 124 m (fun q=>if i≤q∧q<i+(n+1) then .int .u32 (wd (U%Y) (q-i)) else .int .u32 (wd (lr X Y (i+1)) q))→wq.rowIs g 124 m (fun q=>.int .u32 (wd (lr X Y i) q)):=fun wq h=>h.congr fun q hq=>by
     have e1:lr X Y i / 2^(32*i)=U%Y:=by rw [lr_high,hUe]
     split
     ·rename_i h1;congr 2;rw [← e1,← zge,show i+(q-i)=q by omega]
     ·rename_i h1;rcases Nat.lt_or_ge q i with h2 | h2
      ·rw [lr_low X Y i q h2]
      ·have e2:∀ Z,Z<2^(32*q)→wd Z q=0:=fun Z hZ=>jh _ _ ((q8 _ _).2 hZ);have e3:∀ t,t≤i+1→lr X Y t<2^(32*q):=fun t ht=>by
        unfold lr;refine Nat.lt_of_lt_of_le (Nat.mod_lt _ (Nat.mul_pos HY0.out (Nat.pow_pos (by decide)))) ?_;refine Nat.le_trans (Nat.mul_le_mul (Nat.le_of_lt HY.out) (zu _)) ?_;rw [← Nat.pow_add];exact Nat.pow_le_pow_right (by decide) (by omega)
       rw [e2 _ (e3 (i+1) (zu _)),e2 _ (e3 i (by omega))]
    have hdig:U / Y=wd (X / Y) i:=by rw [← hUe,lr_digit]
    have HFIN:=zb hfin;have HDIG:=zb hdig;have hio:∀ wq:World,wq.rowIs w.heap.size 124 k (fun q=>.int .u32 (if q<i+1 then 0 else wd (X / Y) q))→(wq.setCell ⟨w.heap.size,i,none⟩ (.int .u32 (wd (X / Y) i:Int))).rowIs w.heap.size 124 k (fun q=>.int .u32 (if q<i then 0 else wd (X / Y) q)):=fun wq h=>(h.set _ _).congr fun q hq=>by
     split
     ·subst q;rw [if_neg (by omega)]
     ·by_cases h1:q<i
      ·rw [if_pos h1,if_pos (by omega)]
      ·rw [if_neg h1,if_neg (by omega)]
    have HIO:=zb hio;clear hfin hdig hio;have eL:i+n+1-i=n+1:=by omega
    have EL:=zb eL;clear eL;by_cases hDY:D*Y≤U
    ·obtain ⟨hDe,hT⟩:D=U / Y∧U-D*Y=U%Y:=by
      have h1:=HD.out;have h2:U / Y=D:=by
       rw [Nat.div_eq_iff HY0.out];rw [Nat.add_mul,Nat.one_mul] at h1;omega
      subst h2;refine ⟨rfl,?_⟩;have:=Nat.div_add_mod U Y;rw [Nat.mul_comm] at this;omega
     have hTB:U%Y<2^(32*(n+1)):=Nat.lt_trans (Nat.mod_lt _ HY0.out) hB;have hEE:U%Y+D*Y=U+2^(32*(n+1))*0:=by rw [← hT];omega
     have hta:=fun cp=>zf4 wc g m i n cp gy 0 capy U (U%Y) Y D false _ (by omega) (by omega) hr hF hyw hne HY.out (by omega) (by omega) hD HUN.out hTB hEE;have HTA:=zb hta;have hdn:(D:Int)=(wd (X / Y) i:Int):=by rw [hDe,HDIG.out]
     have HDN:=zb hdn;clear hdn;clear hta hF hyw hB hTB hEE hT hDY HD hDe;go_wp2_with (
      go_at_call 157;rw [EL.out];(with_reducible refine (HTA.out _).mono ?_);rintro e w5 ⟨rfl,hr5,hg5⟩;have hr6:=HFIN.out _ hr5;have ho5:=jl ho hg5 (by intro e;injection e with e;omega);have c6:=ho5.cell (i:=i) (by omega);have f6:=ho5.frozen i;have hsz5:=Nat.lt_of_lt_of_le hsz hg5.size;have hg6:w.grownBy w5 (some g):=hg.trans hg5;have hrel:∀ W:World,W=w5.setCell ⟨w.heap.size,i,none⟩ (.int .u32 (wd (X / Y) i:Int))→W.rowIs g 124 m (fun q=>.int .u32 (wd (lr X Y i) q))∧w.grownBy W (some g)∧w.heap.size<W.heap.size:=by
       rintro W rfl;exact ⟨hr6.setOther (by simp;omega) _,zbl hg6 (.inr (zu _)) _,by rw [yW];exact hsz5⟩
      have HREL:=zb hrel;clear hrel)
     rw [Exit.noGoto_normal];go_wp2;rw [HDN.out];go_roundw
     case rel =>
      exact ⟨i,by omega,rfl,HIO.out _ ho5,(HREL.out _ rfl).1,(HREL.out _ rfl).2.1,(HREL.out _ rfl).2.2⟩
     case measure=>simp [intOf]
    ·have hDY2:U<D*Y:=by omega
     have hDe:D=U / Y+1:=by
      have h0:D≠0:=by rintro rfl;omega
      obtain ⟨D',rfl⟩:∃ D',D=D'+1:=⟨D-1,by omega⟩;have h1:=HD.out;have h2:U / Y=D':=by
       rw [Nat.div_eq_iff HY0.out];rw [Nat.add_mul,Nat.one_mul] at h1 hDY2;omega
      rw [h2]
     have h1D:1≤D:=by rw [hDe];exact Nat.le_add_left _ _
     have hmod:=Nat.div_add_mod U Y;rw [Nat.mul_comm] at hmod;have hRY:=Nat.mod_lt U HY0.out;have hP:2^(32*(n+1))+U%Y-Y<2^(32*(n+1)):=by
      generalize U%Y=r at hRY;generalize 2^(32*(n+1))=M at hB;omega
     have hEE:2^(32*(n+1))+U%Y-Y+D*Y=U+2^(32*(n+1))*1:=by
      rw [hDe,Nat.add_mul,Nat.one_mul];generalize U%Y=r at hmod hRY;generalize U / Y*Y=p at hmod;generalize 2^(32*(n+1))=M at hB;omega
     obtain ⟨T,hT⟩:∃ T,2^(32*(n+1))+U%Y-Y=T:=⟨_,rfl⟩;rw [hT] at hP hEE;have hTY:∀ q,q<n+1→wd (Y+T) q=wd (U%Y) q:=fun q hq=>by
      have e:Y+T=U%Y+2^(32*(n+1))*1:=by
       rw [← hT];generalize U%Y=r at hRY;generalize 2^(32*(n+1))=M at hB;omega
      rw [e,zgU _ _ _ _ hq]
     have hta:=fun cp=>zf4 wc g m i n cp gy 0 capy U T Y D true _ (by omega) (by omega) hr hF hyw hne HY.out (by omega) (by omega) hD HUN.out hP hEE;have hgb:=fun cp W hW hyW=>zh9 W g m i n cp gy 0 capy T Y (yo T i (n+1) fun q=>.int .u32 (wd (lr X Y (i+1)) q)) (by omega) (by omega) hW (fun q hq=>by unfold yo;rw [if_pos (by omega),show i+q-i=q by omega]) hyW hne HY.out (by omega) (by omega);have hft:∀ q,yo (Y+T) i (n+1) (yo T i (n+1) fun q=>.int .u32 (wd (lr X Y (i+1)) q)) q=if i≤q∧q<i+(n+1) then .int .u32 (wd (U%Y) (q-i)) else .int .u32 (wd (lr X Y (i+1)) q):=fun q=>by
      rw [yo];split
      ·rename_i h1;rw [hTY (q-i) (by omega)]
      ·rename_i h1;show yo T i (n+1) _ q=_;unfold yo;rw [if_neg h1]
     have HFT:=zb hft;clear hft;have HTA:=zb hta;have HGB:=zb hgb;have hdn:(D:Int)-1=(wd (X / Y) i:Int):=by rw [← HDIG.out,hDe];omega
     have HDN:=zb hdn;clear hdn;have HTY:=zb hTY;have HYWC:=zb hyw;clear hta hgb hF hyw hB hP hEE hT hDY HD hDe hmod hRY hDY2 hTY;go_wp2_with (first
      | (go_at_call 157
         rw [EL.out];(with_reducible refine (HTA.out _).mono ?_);rintro e w5 ⟨rfl,hr5,hg5⟩;have ho5:=jl ho hg5 (by intro e;injection e with e;omega);have hsz5:=Nat.lt_of_lt_of_le hsz hg5.size;have hy5:∀ q,q<n→w5.cell? ⟨gy,0+q,none⟩=some (.int .u32 (wd Y q)):=fun q hq=>hg5.cell (HYWC.out q hq) (by intro e;injection e with e;exact hne e);have HY5:=zb hy5;clear hy5;have hg6:w.grownBy w5 (some g):=hg.trans hg5)
      | (go_at_call 158
         rw [EL.out];(with_reducible refine (HGB.out _ _ hr5 HY5.out).mono ?_);rintro e w6 ⟨rfl,hr6,hg7⟩;have hr8:=HFIN.out _ ((hr6.congr fun q hq=>HFT.out q));have ho6:=jl ho5 hg7 (by intro e;injection e with e;omega);have c6:=ho6.cell (i:=i) (by omega);have f6:=ho6.frozen i;have hsz6:=Nat.lt_of_lt_of_le hsz5 hg7.size;have hg8:w.grownBy w6 (some g):=hg6.trans hg7;have hrel:∀ W:World,W=w6.setCell ⟨w.heap.size,i,none⟩ (.int .u32 (wd (X / Y) i:Int))→W.rowIs g 124 m (fun q=>.int .u32 (wd (lr X Y i) q))∧w.grownBy W (some g)∧w.heap.size<W.heap.size:=by
          rintro W rfl;exact ⟨hr8.setOther (by simp;omega) _,zbl hg8 (.inr (zu _)) _,by rw [yW];exact hsz6⟩
         have HREL:=zb hrel;clear hrel))
     rw [Exit.noGoto_normal];go_wp2;rw [HDN.out];go_roundw
     case rel =>
      exact ⟨i,by omega,rfl,HIO.out _ ho6,(HREL.out _ rfl).1,(HREL.out _ rfl).2.1,(HREL.out _ rfl).2.2⟩
     case measure=>simp [intOf]
end Go.Proofs.YtmhllppjcilllaaGreatDoor
end
section
section
open Go Go.RowKit Cs
namespace Go.Proofs.YtmhllppjcilllaaGreatDoor
theorem len32_a (x:Int) (w:World) (h0:0≤x) (h1:x≤4294967295) (c1:x≤255) :
  Calls Tryz.prog 156 #[.int .u32 x] w fun e w'=>e = .returned (.int .i64 (Lib.bitLen x.toNat))∧w=w':=by
 have q1:x≤255:=by omega
 have q0:0≤x:=by omega
 have l:=Lib.bitLen_le8' (x) q0 q1;have s:Lib.bitLen x.toNat=Lib.bitLen x.toNat:=by
  rfl
 have le:=Lib.len8_of (x) q0 q1;have HS:=zb s;have HL:=zb l;have HLE:=zb le;clear s l le;go_enter Tryz.func156, Tryz.ntmps156;go_wp2;go_ret;have s:=HS.out;have l:=HL.out;have le:=HLE.out;refine ⟨congrArg Ending.returned (congrArg (Value.int IntKind.i64) ?_),rfl⟩;show wrap64 (wrap64 (Lib.len8 x))=_;unfold wrap64;rw [le];omega
theorem len32_b (x:Int) (w:World) (h0:0≤x) (h1:x≤4294967295) (c1:¬ x≤255) (c2:x≤65535) :
  Calls Tryz.prog 156 #[.int .u32 x] w fun e w'=>e = .returned (.int .i64 (Lib.bitLen x.toNat))∧w=w':=by
 have q1:x / 256≤255:=by omega
 have q0:0≤x / 256:=by omega
 have l:=Lib.bitLen_le8' (x / 256) q0 q1;have s:Lib.bitLen x.toNat=8+Lib.bitLen (x / 256).toNat:=by
  have:=Lib.bitLen_shift8 x.toNat (by omega) (by omega);have e:(x / 256).toNat=x.toNat / 256:=by omega
  rw [e];omega
 have le:=Lib.len8_of (x / 256) q0 q1;have HS:=zb s;have HL:=zb l;have HLE:=zb le;clear s l le;go_enter Tryz.func156, Tryz.ntmps156;go_wp2;go_ret;have s:=HS.out;have l:=HL.out;have le:=HLE.out;refine ⟨congrArg Ending.returned (congrArg (Value.int IntKind.i64) ?_),rfl⟩;rw [s];show wrap64 (8+wrap64 (Lib.len8 (x / 256)))=_;unfold wrap64;rw [le];omega
theorem len32_c (x:Int) (w:World) (h0:0≤x) (h1:x≤4294967295) (c2:¬ x≤65535) (c3:x≤16777215) :
  Calls Tryz.prog 156 #[.int .u32 x] w fun e w'=>e = .returned (.int .i64 (Lib.bitLen x.toNat))∧w=w':=by
 have q1:x / 65536≤255:=by omega
 have q0:0≤x / 65536:=by omega
 have l:=Lib.bitLen_le8' (x / 65536) q0 q1;have s:Lib.bitLen x.toNat=16+Lib.bitLen (x / 65536).toNat:=by
  have:=Lib.bitLen_shift16 x.toNat (by omega) (by omega);have e:(x / 65536).toNat=x.toNat / 65536:=by omega
  rw [e];omega
 have le:=Lib.len8_of (x / 65536) q0 q1;have HS:=zb s;have HL:=zb l;have HLE:=zb le;clear s l le;go_enter Tryz.func156, Tryz.ntmps156;go_wp2;go_ret;have s:=HS.out;have l:=HL.out;have le:=HLE.out;refine ⟨congrArg Ending.returned (congrArg (Value.int IntKind.i64) ?_),rfl⟩;rw [s];show wrap64 (16+wrap64 (Lib.len8 (x / 65536)))=_;unfold wrap64;rw [le];omega
theorem len32_d (x:Int) (w:World) (h0:0≤x) (h1:x≤4294967295) (c3:¬ x≤16777215) :
  Calls Tryz.prog 156 #[.int .u32 x] w fun e w'=>e = .returned (.int .i64 (Lib.bitLen x.toNat))∧w=w':=by
 have q1:x / 65536 / 256≤255:=by omega
 have q0:0≤x / 65536 / 256:=by omega
 have l:=Lib.bitLen_le8' (x / 65536 / 256) q0 q1;have s:Lib.bitLen x.toNat=24+Lib.bitLen (x / 65536 / 256).toNat:=by
  have:=Lib.bitLen_shift24 x.toNat (by omega) (by omega);have e:(x / 65536 / 256).toNat=x.toNat / 16777216:=by omega
  rw [e];omega
 have le:=Lib.len8_of (x / 65536 / 256) q0 q1;have HS:=zb s;have HL:=zb l;have HLE:=zb le;clear s l le;go_enter Tryz.func156, Tryz.ntmps156;go_wp2;go_ret;have s:=HS.out;have l:=HL.out;have le:=HLE.out;refine ⟨congrArg Ending.returned (congrArg (Value.int IntKind.i64) ?_),rfl⟩;rw [s];show wrap64 (24+wrap64 (Lib.len8 (x / 65536 / 256)))=_;unfold wrap64;rw [le];omega
theorem x5 (x:Int) (w:World) (h0:0≤x) (h1:x≤4294967295) :
  Calls Tryz.prog 156 #[.int .u32 x] w fun e w'=>e = .returned (.int .i64 (Lib.bitLen x.toNat))∧w=w':=by
 by_cases c1:x≤255
 ·exact len32_a x w h0 h1 c1
 ·by_cases c2:x≤65535
  ·exact len32_b x w h0 h1 c1 c2
  ·by_cases c3:x≤16777215
   ·exact len32_c x w h0 h1 c2 c3
   ·exact len32_d x w h0 h1 c3
theorem zi6 (x:Nat) (h:x<2^64):Lib.bitLen x=nd 2 x:=zcR 64 x h
theorem lz32_any (x:Nat) (w:World) (h1:x<4294967296) :
  Calls Tryz.prog 119 #[.int .u32 x] w fun e w'=>e = .returned (.int .i64 ((32-nd 2 x:Nat):Int))∧w=w':=by
 have l:nd 2 x≤32:=(yg 2 (by decide) 32 x).2 (by simpa using h1);have e0:(x:Int).toNat=x:=Int.toNat_natCast x;have e1:=zi6 x (by omega);have e8:((32-nd 2 x:Nat):Int)=32-(nd 2 x:Int):=by omega
 have hc:=fun W=>x5 (x:Int) W (by omega) (by omega);simp only [e0,e1] at hc;have HC:=zb hc;clear hc e0 e1;rw [e8];go_enter Tryz.func119, Tryz.ntmps119;go_wp2_with (go_at_call 156;refine (HC.out _).mono ?_;rintro e w' ⟨rfl,rfl⟩)
 go_ret;exact ⟨rfl,rfl⟩
end Go.Proofs.YtmhllppjcilllaaGreatDoor
end
section
open Go Go.RowKit Cs
namespace Cs
theorem nw_low {b:Nat} (h0:0<b):2^(32*(nw b-1))≤b:=by
 refine Nat.le_of_not_lt fun h=>?_;have h1:=(q8 (nw b-1) b).2 h;have h2:nw b≠0:=fun e=>by rw [oX] at e;omega
 omega
theorem normal {b n:Nat} (hn:nw b=n) (h0:0<b):32-nd 2 (wd b (n-1))<32∧b*2^(32-nd 2 (wd b (n-1)))<2^(32*n)∧2147483648≤wd (b*2^(32-nd 2 (wd b (n-1)))) (n-1):=by
 have hn1:1≤n:=by
  rcases Nat.eq_zero_or_pos n with h | h
  ·rw [h,oX] at hn;omega
  ·exact h
 have hlow:=nw_low h0;rw [hn] at hlow;obtain ⟨m,rfl⟩:∃ m,n=m+1:=⟨n-1,by omega⟩;rw [Nat.add_sub_cancel] at *
 have hlt:b<2^(32*(m+1)):=(q8 _ _).1 (by omega);have hP:0<2^(32*m):=Nat.pow_pos (by decide);have ht:=zeq hlt;have hdm:=Nat.div_add_mod b (2^(32*m));have hml:=Nat.mod_lt b hP;rw [ht] at hdm;have ht0:0<wd b m:=by rw [← ht];exact Nat.div_pos hlow hP
 have ht1:=qz b m;have hd1:nd 2 (wd b m)≤32:=(yg 2 (by decide) 32 _).2 (by simpa using ht1);have hd2:wd b m<2^nd 2 (wd b m):=jS 2 _ (by decide);have hd0:nd 2 (wd b m)≠0:=fun e=>by rw [zbm 2 (by decide)] at e;omega
 have hd3:2^(nd 2 (wd b m)-1)≤wd b m:=zcI 2 _ _ (by decide) (by omega);generalize nd 2 (wd b m)=d at *
 have e32:(2:Nat)^d*2^(32-d)=4294967296:=by rw [← Nat.pow_add,show d+(32-d)=32 by omega]
 have e31:(2:Nat)^(d-1)*2^(32-d)=2147483648:=by rw [← Nat.pow_add,show d-1+(32-d)=31 by omega]
 have hs:0<2^(32-d):=Nat.pow_pos (by decide);have hpn:(2:Nat)^(32*(m+1))=2^(32*m)*4294967296:=zbL m;generalize hPe:2^(32*m)=P at *
 have hup:b*2^(32-d)<P*4294967296:=by
  have h1:b<P*2^d:=by
   have:P*(wd b m+1)≤P*2^d:=Nat.mul_le_mul_left _ hd2;rw [Nat.mul_add,Nat.mul_one] at this;omega
  rw [← e32,← Nat.mul_assoc];exact Nat.mul_lt_mul_of_pos_right h1 hs
 have hdn:P*2147483648≤b*2^(32-d):=by
  have h1:P*2^(d-1)≤b:=Nat.le_trans (Nat.mul_le_mul_left _ hd3) (by omega);rw [← e31,← Nat.mul_assoc];exact Nat.mul_le_mul_right _ h1
 refine ⟨by omega,by rw [hpn];exact hup,?_⟩;have htw:=zeq (U:=b*2^(32-d)) (n:=m) (by rw [hpn];exact hup);rw [← htw,Nat.le_div_iff_mul_le (Nat.pow_pos (by decide)),hPe,Nat.mul_comm];exact hdn
theorem zkn {a b s:Nat} (h0:0<b) (hab:nw b≤nw a+1):a*2^s<b*2^s*2^(32*(nw a+1-nw b)):=by
 have h1:=nw_low h0;have h2:nw b≠0:=fun e=>by rw [oX] at e;omega
 have h3:2^(32*nw a)≤b*2^(32*(nw a+1-nw b)):=by
  refine Nat.le_trans ?_ (Nat.mul_le_mul_right _ h1);rw [← Nat.pow_add];exact Nat.pow_le_pow_right (by decide) (by omega)
 have h4:a<2^(32*nw a):=(q8 _ _).1 (zu _);rw [Nat.mul_right_comm];exact Nat.mul_lt_mul_of_pos_right (Nat.lt_of_lt_of_le h4 h3) (Nat.pow_pos (by decide))
theorem zkk {w:World} {g base n:Nat} {t:TypeId} {f:Nat→Value} (h:w.rowIs g t n f) (hb:base≤g) (hn:n≤maxLen):w.ownsRow base t 1 (.slice (some ⟨g,0,none⟩) n n) n ((List.range n).map f) :=
 ⟨by simp,.inr ⟨g,n,_,rfl,hb,jk h,zu _,hn,by simp,by simp [List.take_of_length_le]⟩⟩
end Cs
namespace Go.Proofs.YtmhllppjcilllaaGreatDoor
theorem zdY {fn:Func} {p q u:Tmp} {ty tz:TypeId} (h:fn.results=#[.cell p ty,.cell q tz,.tmp u]) (tmps:Array Value) (P:Program) (w:World) :
  (results fn tmps).run P w=((asAddr (tmps.getD p undef)).run P w).andThen fun a w₁=>((loadVar ty a).run P w₁).andThen fun x w₂=>((asAddr (tmps.getD q undef)).run P w₂).andThen fun b w₃=>((loadVar tz b).run P w₃).andThen fun y w₄=>.ok (.tuple #[x,y,tmps.getD u undef]) w₄:=by
 simp only [results,h];simp [Sem.run_bind,Result.andThen]
theorem zes {fn:Func} {R:Ending→World→Prop} {a:Act} {w:World} {p q u:Tmp} (h:fn.results=#[.cell p 31,.cell q 31,.tmp u]) {g g':Nat} {t t':TypeId} (V V':Nat) {b:Value}
  (hp:a.tmps.getD p undef = .pointer (some ⟨g,0,none⟩)) (hq:a.tmps.getD q undef = .pointer (some ⟨g',0,none⟩)) (hb:a.tmps.getD u undef=b) (hrow:w.rowIs g t 1 fun _=>.string (za V)) (hrow':w.rowIs g' t' 1 fun _=>.string (za V'))
  (hdf:a.defers=[]) (hR:R (.returned (.tuple #[zN V,zN V',b])) w):bodyPost Tryz.prog fn R .ret a w:=by
 refine bodyPost_ret (v:=.tuple #[zN V,zN V',b]) ?_ hdf hR;rw [zdY h,hp];have hl:=run_loadVar_row (P:=Tryz.prog) w g t 31 _ (0,0) _ (jk hrow) Tryz.underlying31 rfl (by simpa using zd7);have hl':=run_loadVar_row (P:=Tryz.prog) w g' t' 31 _ (0,0) _ (jk hrow') Tryz.underlying31 rfl (by simpa using zd7);simp [asAddr,Result.andThen,hl,hl',hq,hb]
theorem div_spec (w:World) (a b q r:Nat) (ok:Bool) (ha:n8 a≤1000000) (hb:n8 b≤1000000) (hspec:Hid ((b=0∧q=0∧r=0∧ok=false)∨(0<b∧q=a / b∧r=a%b∧ok=true))) :
  Calls Tryz.prog 77 #[zN a,zN b] w fun e w'=>e = .returned (.tuple #[zN q,zN r,.bool ok])∧Below w.heap.size w w':=by
 obtain ⟨i0,hi,hz00,hz01,hz02⟩:=info_parts zjz;go_enter Tryz.func77, Tryz.ntmps77;go_wp2_with fail
 go_region_held3 (fun w'=>w'.cell? ⟨w.heap.size,0,none⟩=some (.string (za a))∧w'.cell? ⟨w.heap.size+1,0,none⟩=some (.string (za b)))
  (first | go_keep | exact ⟨hk3,hk4⟩ | exact ⟨hk1,hk2⟩)
  (first
    | ((go_at_call 78;(with_reducible refine (pT _ a (by omega)).mono ?_);rintro e w1 ⟨g1,hg1,rfl,hr1,hb1⟩;simp at hg1
        have hk1:w1.cell? ⟨w.heap.size,0,none⟩=some (.string (za a)):=(hb1.cell (p:=⟨w.heap.size,0,none⟩) (by simp;omega)).trans (by go_simp);have hk2:w1.cell? ⟨w.heap.size+1,0,none⟩=some (.string (za b)):=(hb1.cell (p:=⟨w.heap.size+1,0,none⟩) (by simp)).trans (by go_simp)))
    | ((go_at_call 78;(with_reducible refine (pT _ b (by omega)).mono ?_);rintro e w2 ⟨g2,hg2,rfl,hr2,hb2⟩
        have hk3:w2.cell? ⟨w.heap.size,0,none⟩=some (.string (za a)):=(hb2.cell (p:=⟨w.heap.size,0,none⟩) (by have:=hb1.size;simp at this ⊢;omega)).trans hk1;have hk4:w2.cell? ⟨w.heap.size+1,0,none⟩=some (.string (za b)):=(hb2.cell (p:=⟨w.heap.size+1,0,none⟩) (by have:=hb1.size;simp at this ⊢;omega)).trans hk2)))
 have hz1:=hb1.size;simp at hz1;have hz2:=hb2.size;have hlt1:=hr1.lt;have hlt2:=hr2.lt;replace hr1:=zo hr1 hb2;have hq:w2.rowIs (w.heap.size+1+1) 31 1 fun _=>.string ⟨#[]⟩:=zo (zo ((qF ((w.alloc _).alloc _) _ _ _ (by simp)).alloc _).drew hb1) hb2;have hp:w2.rowIs (w.heap.size+1+1+1) 31 1 fun _=>.string ⟨#[]⟩:=zo (zo (qF (((w.alloc _).alloc _).alloc _) _ _ _ (by simp)).drew hb1) hb2;have hbel:Below w.heap.size w w2:=(((((((zx _ _).alloc (zu _) _).alloc (by simp) _).alloc (by simp;omega) _).alloc (by simp;omega) _).drew).trans (hb1.mono (by simp;omega))).trans (hb2.mono (by omega));have hne:g2≠g1:=by omega
 have HNE:=zb hne;clear hb1 hb2 hk1 hk2 hne;have hna:nw a≤300000:=by unfold nw;omega
 have hnb:nw b≤300000:=by unfold nw;omega
 have hZ:=pP;have HZ:=zb hZ;clear hZ;rw [HZ.out.symm] at hq hp;rcases hspec.out with ⟨rfl,rfl,rfl,rfl⟩ | ⟨hb0,hq',hr',rfl⟩
 ·have h0:nw 0=0:=by rw [oX]
  rw [h0];clear h0 hspec;have q1:=zV hq;have q2:=hq.frozen 0;have p1:=zV hp;have p2:=hp.frozen 0;go_wp2;refine zes rfl 0 0 rfl rfl rfl (by rw [HZ.out];exact (qZ hq _).setOther (by simp) _) (by rw [HZ.out];exact qZ (hp.setOther (by simp) _) _) rfl ⟨rfl,(hbel.setCell (by simp;omega) _).setCell (by simp;omega) _⟩
 ·have hnb0:nw b≠0:=fun e=>by rw [oX] at e;omega
  have hcp:=fun W=>zgF W a b (by omega) (by omega);have hbz:((nw b:Int)==0)=false:=beq_eq_false_iff_ne.2 (by omega);clear hspec;rcases Nat.lt_or_ge a b with hlt | hge
  ·have hcm:qv a b = -1:=by unfold qv;rw [if_pos hlt]
   rw [hcm] at hcp;have e1:q=0:=by rw [hq',Nat.div_eq_of_lt hlt]
   have e2:r=a:=by rw [hr',Nat.mod_eq_of_lt hlt]
   subst e1;subst e2;have HCP:=zb hcp;clear hcp hcm hq' hr' hlt;go_wp2_with (
    go_at_call 72;(with_reducible refine (HCP.out _).mono ?_);rintro e w3 ⟨rfl,hb3⟩;have k1:w3.cell? ⟨w.heap.size,0,none⟩=some (.string (za r)):=(hb3.cell (p:=⟨w.heap.size,0,none⟩) (by simp;omega)).trans hk3;replace hq:=zo hq hb3;replace hp:=zo hp hb3;replace hbel:=hbel.trans (hb3.mono (by omega));clear hb3)
   have q2:=hq.frozen 0;have p2:=hp.frozen 0;have q1:=zV hq;have p1:=zV hp
   go_region
   all_goals
    try go_wp2
    exact zes rfl 0 r rfl rfl rfl (by rw [HZ.out];exact (qZ hq _).setOther (by simp) _) (qZ (hp.setOther (by simp) _) _) rfl ⟨rfl,((hbel.setCell (by simp;omega) _).setCell (by simp;omega) _).drew⟩
  ·have hcm:¬ qv a b<0:=by unfold qv;rw [if_neg (by omega)];split <;> omega
   obtain ⟨M,hM⟩:∃ M,qv a b=M:=⟨_,rfl⟩;simp only [hM] at hcp;rw [hM] at hcm;have HCP:=zb hcp;clear hcp hM;by_cases h1:nw b=1
   ·have hwb:wd b 0=b:=by
     have h2:b<2^(32*1):=(q8 1 b).1 (by omega);unfold wd;simp;omega
    have hbl:b<4294967296:=by rw [← hwb];exact qz _ _
    have c0:=hr2.cell (i:=0) (by omega);rw [hwb] at c0;clear hwb;rw [h1] at hr2 ⊢;have hsh:=fun W hW=>zfB W g1 (nw a) (nw a) (nw a) a b (by omega) (zu _) (zu _) hb0 hbl hW;have HSH:=zb hsh;have hfr:=fun W V n (hr:W.rowIs g1 124 n fun j=>.int .u32 (wd V j)) (h1:n≤10000000) (h2:nw V≤n)=>zbX W g1 n n V h1 (fun i hi=>hr.cell hi) hr.lt h2;have HFR:=zb hfr;clear hsh hfr;have hrem:a%b<b:=Nat.mod_lt _ hb0;rw [← hq',← hr'] at HSH;rw [← hr'] at hrem;have hnq:nw q≤nw a:=by rw [hq'];exact zdZ (Nat.div_le_self _ _)
    have HNQ:=zb hnq;clear hq' hr' hnq;go_wp2_with (first
     | (go_at_call 72
        (with_reducible refine (HCP.out _).mono ?_);rintro e w3 ⟨rfl,hb3⟩;replace hq:=zo hq hb3;replace hp:=zo hp hb3;replace hr1:=zo hr1 hb3;have c1:=zB hb3 hlt2 c0;replace hbel:=hbel.trans (hb3.mono (by omega));have hz3:=hb3.size;clear hb3)
     | (go_at_call 89
        (with_reducible refine (HSH.out _ hr1).mono ?_);rintro e w4 ⟨rfl,hr4,hg4,hz4⟩;replace hq:=jl hq hg4 (by intro e;injection e with e;omega);replace hp:=jl hp hg4 (by intro e;injection e with e;omega);replace hbel:=zdf hbel hg4 (by omega) (by omega))
     | (go_at_call 74
        (with_reducible refine (HFR.out _ _ _ hr4 (by omega) HNQ.out).mono ?_);rintro e w5 ⟨rfl,hb5⟩;replace hq:=zo hq hb5;replace hp:=zo hp hb5;replace hbel:=hbel.trans (hb5.mono (by omega));have hz5:=hb5.size)
     | (go_at_call 34
        (with_reducible refine (zhs _ r (by omega)).mono ?_);rintro e w6 ⟨rfl,hb6⟩;replace hq:=zo hq hb6;replace hp:=zo hp hb6;replace hbel:=hbel.trans (hb6.mono (by omega));have q2:=hq.frozen 0;have p2:=hp.frozen 0;have q1:=zV hq;have p1:=zV hp))
    exact zes rfl q r rfl rfl rfl ((qZ hq _).setOther (by simp) _) (qZ (hp.setOther (by simp) _) _) rfl ⟨rfl,(hbel.setCell (by simp;omega) _).setCell (by simp;omega) _⟩
   ·have hn2:2≤nw b:=by omega
    have hnba:nw b≤nw a:=zdZ hge;obtain ⟨n,hn⟩:∃ n,nw b=n:=⟨_,rfl⟩;obtain ⟨hs,hY,htop⟩:=normal hn hb0;obtain ⟨s,hse⟩:∃ s,32-nd 2 (wd b (n-1))=s:=⟨_,rfl⟩;rw [hse] at hs hY htop;have hX:=zkn (a:=a) (s:=s) hb0 (by omega);rw [hn] at hX hn2 hnba hr2 hnb hnb0 hbz h1 ⊢;have hlz:=fun W=>lz32_any (wd b (n-1)) W (qz _ _);simp only [hse] at hlz;have HLZ:=zb hlz;have c1:=hr2.cell (i:=n-1) (by omega);have hwl:=qz b (n-1);have hXY:a*2^s / (b*2^s)=q:=by rw [hq',Nat.mul_div_mul_right _ _ (Nat.pow_pos (by decide))]
    have hXY2:a*2^s%(b*2^s)=r*2^s:=by rw [hr',Nat.mul_mod_mul_right]
    have hrb:r<b:=by rw [hr'];exact Nat.mod_lt _ hb0
    have hnq:nw q≤nw a+1-n:=by
     rw [q8,hq'];rw [Nat.mul_right_comm] at hX;have:=Nat.lt_of_mul_lt_mul_right hX;rw [Nat.div_lt_iff_lt_mul hb0,Nat.mul_comm];exact this
    have hnr:nw r≤n:=by rw [← hn];exact zdZ (Nat.le_of_lt hrb)
    clear hlz hse hq' hr' hge;have HX:=zb hX;have HY:=zb hY;have HT:=zb htop;clear hX hY htop;go_wp2_with (first
     | (go_at_call 72
        (with_reducible refine (HCP.out _).mono ?_);rintro e w3 ⟨rfl,hb3⟩;replace hq:=zo hq hb3;replace hp:=zo hp hb3;replace hr1:=zo hr1 hb3;replace hr2:=zo hr2 hb3;replace c1:=hr2.cell (i:=n-1) (by omega);replace hbel:=hbel.trans (hb3.mono (by omega));have hz3:=hb3.size;clear hb3)
     | (go_at_call 119
        (with_reducible refine (HLZ.out _).mono ?_);rintro e w4 ⟨rfl,rfl⟩;have hown:=zkk (base:=w.heap.size) hr1 (by omega) (by unfold maxLen;omega))
     | (at_builtin
        refine wpList_append_own _ rfl _ _ 123 rfl w.heap.size 124 i0 (.int .u32 0) 1 4 Tryz.underlying123 hi hz00 hz01 hz02 rfl (by decide) _ _ _ rfl (hown.alloc _) ⟨w3.heap.size,0,none⟩ 1 1 [.int .u32 0] rfl rfl pM zeU (by unfold maxLen;omega) (by omega) (by simp;omega) ?_;intro v' w5 hown5 hg5' _;have hg5:(w3.alloc (.cells #[.int .u32 0] 124)).grownBy w5 (some g1):=hg5';obtain ⟨g5,cap5,rfl,_,hlt5⟩:=yX hown5 (by omega);have hz5:=hg5.size;simp at hz5;replace hq:=jl (hq.alloc _) hg5 (by intro e;injection e with e;omega);replace hp:=jl (hp.alloc _) hg5 (by intro e;injection e with e;omega);replace hr2:=jl (hr2.alloc _) hg5 (by intro e;injection e with e;exact HNE.out e);have hbel5:=zdf (hbel.alloc (by omega) (.cells #[.int .u32 0] 124)) hg5 (by simp;omega) (by omega);have h5:∀ i,i<nw a+1→w5.cell? ⟨g5,i,none⟩=some (.int .u32 (wd a i)):=fun i hi=>zez hown5 (by
         rcases Nat.lt_or_ge i (nw a) with h | h
         ·rw [List.getElem?_append_left (by simpa using h)];simp [h]
         ·have e:i=nw a:=by omega
          subst e;rw [List.getElem?_append_right (by simp),jh a _ h];simp)
        have H5:=zb h5;clear hbel hr1 hown hg5 hg5' h5 hown5)
     | (go_at_call 120
        (with_reducible refine (zeI _ g5 (nw a+1) cap5 a s (by omega) hs H5.out hlt5).mono ?_);rintro e w6 ⟨g6,hg6,rfl,hr6,hb6⟩;replace hq:=zo hq hb6;replace hp:=zo hp hb6;replace hr2:=zo hr2 hb6;have hbel6:=hbel5.trans (hb6.mono (by omega));have hz6:=hb6.size;have hlt6:=hr6.lt;clear hb6 hbel5 H5)
     | (go_at_call 120
        (with_reducible refine (zeI _ g2 n n b s (by omega) hs (fun i hi=>hr2.cell hi) hr2.lt).mono ?_);rintro e w7 ⟨g7,hg7,rfl,hr7,hb7⟩;replace hq:=zo hq hb7;replace hp:=zo hp hb7;replace hr6:=zo hr6 hb7;have hbel7:=hbel6.trans (hb7.mono (by omega));have hz7:=hb7.size;have hlt7:=hr7.lt;clear hb7 hbel6 hr2)
     | (go_at_call 121
        (with_reducible refine (long_any _ g6 g7 n (nw a+1) (nw a+1-n) (nw a+1) n (a*2^s) (b*2^s) hn2 (by omega) (by omega) (zu _) hr6 hr7 (by omega) HY.out HT.out HX.out).mono ?_);rintro e w8 ⟨g8,hg8,rfl,hr8,hr9,hg9⟩;replace hq:=jl hq hg9 (by intro e;injection e with e;omega);replace hp:=jl hp hg9 (by intro e;injection e with e;omega);have hbel8:=zdf hbel7 hg9 (by omega) (by omega);have hz8:=hg9.size;have hlt8:=hr8.lt;rw [hXY] at hr8;rw [hXY2] at hr9;clear hg9 hbel7 hr6 hr7))
    have hrV:r*2^s<2^(32*n):=Nat.lt_trans (Nat.mul_lt_mul_of_pos_right hrb (Nat.pow_pos (by decide))) HY.out;have hwn:wd (r*2^s) n=0:=jh _ _ ((q8 _ _).2 hrV);have hbk:∀ k,wd (r*2^s) k / 2^s ||| (wd (r*2^s) (k+1)*2^(32-s))%4294967296=wd r k:=fun k=>by
     rw [pC _ _ _ hs,Nat.mul_div_cancel _ (Nat.pow_pos (by decide))]
    have hlast:∀ k,¬ (k+1<n∧0<s)→k<n→wd (r*2^s) k / 2^s=wd r k:=fun k h1 h2=>by
     rw [← hbk k];have e:(wd (r*2^s) (k+1)*2^(32-s))%4294967296=0:=by
      by_cases h:k+1<n
      ·have:s=0:=by omega
       subst this;exact Nat.mul_mod_left _ _
      ·have:k+1=n:=by omega
       rw [this,hwn,Nat.zero_mul]
     rw [e,Nat.or_zero]
    have HBK:=zb hbk;have HLAST:=zb hlast;clear hrV hwn hbk hlast HX HY HT hXY hXY2 HCP HLZ hrb;go_loopw [65] (fun t wr=>∃ k:Nat,k≤n∧t = .int .i64 k∧wr.rowIs g6 124 (nw a+1) (fun i=>.int .u32 (if i<k then wd r i else wd (r*2^s) i))∧wr.rowIs g8 124 (nw a+1-n) (fun i=>.int .u32 (wd q i)) ∧
      wr.rowIs (w.heap.size+1+1) 31 1 (fun _=>.string (za 0))∧wr.rowIs (w.heap.size+1+1+1) 31 1 (fun _=>.string (za 0))∧Below w.heap.size w wr) (fun t _=>n-(intOf t).toNat)
    case atStart=>exact ⟨0,by omega,rfl,hr9.congr fun i _=>by rw [if_neg (by omega)],hr8,hq,hp,hbel8⟩
    case round =>
     clear hr8 hr9 hq hp hbel8;obtain ⟨k,hk,rfl,hr6,hr8,hq,hp,hbel⟩:=hrel;by_cases hkn:k<n
     ·have c1:=hr6.cell (i:=k) (by omega);rw [if_neg (by omega)] at c1;have f1:=hr6.frozen k;have hw1:=qz (r*2^s) k;have hsp:0<2^s:=Nat.pow_pos (by decide);by_cases hif:k+1<n∧0<s
      ·obtain ⟨i1,i2⟩:=hif;have c2:=hr6.cell (i:=k+1) (by omega);rw [if_neg (by omega)] at c2;go_wp2
       go_region
       all_goals try go_wp2
       have hwq:=qz (r*2^s) (k+1);have e1:(wd (r*2^s) k:Int) / 2^s=((wd (r*2^s) k / 2^s:Nat):Int):=by simp
       have e2:(wd (r*2^s) (k+1):Int)*2^(32-s)%4294967296=((wd (r*2^s) (k+1)*2^(32-s)%4294967296:Nat):Int):=by simp
       have e3:wd (r*2^s) k / 2^s<4294967296:=Nat.lt_of_le_of_lt (Nat.div_le_self _ _) hw1;have e4:bits BinOp.or IntKind.u32 ((wd (r*2^s) k:Int) / 2^s) ((wd (r*2^s) (k+1):Int)*2^(32-s)%4294967296)=(wd r k:Int):=by
        rw [e1,e2,u32_or_nat _ _ e3 (Nat.mod_lt _ (by decide)),HBK.out]
       rw [e4];refine ⟨⟨k+1,by omega,by go_num,(((hr6.set _ _).set _ _).congr fun i hi=>?_).drew,(hr8.setOther (by simp;omega) _).setOther (by simp;omega) _,(hq.setOther (by simp;omega) _).setOther (by simp;omega) _,(hp.setOther (by simp;omega) _).setOther (by simp;omega) _,((hbel.setCell (by simp;omega) _).setCell (by simp;omega) _).drew⟩,by simp [intOf];omega⟩;split
       ·subst i;rw [if_pos (by omega)]
       ·by_cases h:i<k
        ·rw [if_pos h,if_pos (by omega)]
        ·rw [if_neg h,if_neg (by omega)]
      ·have e1:(wd (r*2^s) k:Int) / 2^s=(wd r k:Int):=by rw [← HLAST.out k hif hkn];simp
       have hrel:∀ W:World,W=wr.setCell ⟨g6,k,none⟩ (.int .u32 (wd r k:Int))→W.rowIs g6 124 (nw a+1) (fun i=>.int .u32 (if i<k+1 then wd r i else wd (r*2^s) i))∧W.rowIs g8 124 (nw a+1-n) (fun i=>.int .u32 (wd q i)) ∧
         W.rowIs (w.heap.size+1+1) 31 1 (fun _=>.string (za 0))∧W.rowIs (w.heap.size+1+1+1) 31 1 (fun _=>.string (za 0))∧Below w.heap.size w W:=by
        rintro W rfl;refine ⟨(hr6.set _ _).congr fun i hi=>?_,hr8.setOther (by simp;omega) _,hq.setOther (by simp;omega) _,hp.setOther (by simp;omega) _,hbel.setCell (by simp;omega) _⟩;split
        ·subst i;rw [if_pos (by omega)]
        ·by_cases h:i<k
         ·rw [if_pos h,if_pos (by omega)]
         ·rw [if_neg h,if_neg (by omega)]
       have HREL:=zb hrel;have HE:=zb e1;clear hrel e1;rcases Nat.lt_or_ge (k+1) n with i1 | i1
       ·have i2:¬ 0<s:=fun h=>hif ⟨i1,h⟩;go_wp2;rw [HE.out];go_roundw
        case rel=>exact ⟨k+1,by omega,by go_num,HREL.out _ rfl⟩
        case measure=>simp [intOf];omega
       ·go_wp2;rw [HE.out];go_roundw
        case rel=>exact ⟨k+1,by omega,by go_num,HREL.out _ rfl⟩
        case measure=>simp [intOf];omega
     ·obtain rfl:k=n:=by omega
      replace hr6:wr.rowIs g6 124 (nw a+1) (fun i=>.int .u32 (if i<k then wd r i else wd (r*2^s) i)):=hr6;have hc6:∀ W:World,Below wr.drew.heap.size wr.drew W→∀ i,i<k→W.cell? ⟨g6,i,none⟩=some (.int .u32 (wd r i)):=fun W hW i hi=>by
       have:=(zo hr6.drew hW).cell (i:=i) (by omega);rw [if_pos hi] at this;exact this
      have hlt6':=hr6.lt;have hlt8':=hr8.lt;have hsz0:=hbel.size;clear HBK HLAST;have hs1:(0:Int)≤(k:Int):=by omega
      have hs2:(k:Int)≤((nw a+1:Nat):Int):=by omega
      have hs3:(k:Int)≤(nw a:Int)+1:=by omega
      go_wp2_with fail
      have hf1:=zbX wr.drew g8 (nw a+1-k) (nw a+1-k) q (by omega) (fun i hi=>hr8.drew.cell hi) hr8.lt hnq;have hf2:=fun W (hW:Below wr.drew.heap.size wr.drew W)=>zbX W g6 k (nw a+1) r (by omega) (hc6 W hW) (Nat.lt_of_lt_of_le hlt6' hW.size) hnr;have HF1:=zb hf1;have HF2:=zb hf2;have hqd:wr.drew.rowIs (w.heap.size+1+1) 31 1 (fun _=>.string (za 0)):=hq;have hpd:wr.drew.rowIs (w.heap.size+1+1+1) 31 1 (fun _=>.string (za 0)):=hp;have hbd:Below w.heap.size w wr.drew:=hbel.drew;clear hf1 hf2 hc6
      go_region_law (first
       | (go_simp
          go_at_call 74;(with_reducible refine HF1.out.mono ?_);rintro e w10 ⟨rfl,hb10⟩)
       | (go_simp
          go_at_call 74;(with_reducible refine (HF2.out _ hb10).mono ?_);rintro e w11 ⟨rfl,hb11⟩;have hq2:=zo (zo hqd hb10) hb11;have hp2:=zo (zo hpd hb10) hb11;have hq3:=hq2.frozen 0;have hp3:=hp2.frozen 0;have hq4:=zV hq2;have hp4:=zV hp2;have hb12:Below w.heap.size w w11:=(hbd.trans (hb10.mono hsz0)).trans (hb11.mono (Nat.le_trans hsz0 hb10.size))))
      all_goals
       try go_wp2
       exact zes rfl q r rfl rfl rfl ((qZ hq2 _).setOther (by simp) _) (qZ (hp2.setOther (by simp) _) _) rfl ⟨rfl,(hb12.setCell (by simp;omega) _).setCell (by simp;omega) _⟩
theorem zix (w:World) (a b:Nat) (ha:n8 a≤1000000) (hb:n8 b≤1000000) (hb0:0<b) :
  Calls Tryz.prog 77 #[zN a,zN b] w fun e w'=>e = .returned (.tuple #[zN (a / b),zN (a%b),.bool true])∧Below w.heap.size w w' :=
 div_spec w a b _ _ _ ha hb (zb (.inr ⟨hb0,rfl,rfl,rfl⟩))
end Go.Proofs.YtmhllppjcilllaaGreatDoor
end
end
