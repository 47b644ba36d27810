import Derived.Test.YtoljkoifgnmbgaaGreatDoorUz
import Derived.Test.YtoljkoifgnmbgaaGreatDoorUi
import Derived.Test.YtoljkoifgnmbgaaGreatDoorUp
import Derived.Test.YtoljkoifgnmbgaaGreatDoorDl
import Derived.Laws.EntriesVeiled
import Derived.Test.YtoljkoifgnmbgaaGreatDoorVl
import Derived.Test.YtoljkoifgnmbgaaGreatDoorDw
import Derived.Test.YtoljkoifgnmbgaaGreatDoorKl
set_option linter.unusedSimpArgs false
set_option linter.unusedVariables false
section
open Go Go.RowKit Cs
namespace Go.Proofs.YtoljkoifgnmbgaaGreatDoor
theorem zfb {n:Nat} {la:List ByteArray} (h:qx la la.length) (hl:la.length=n+1) (v:Nat) (hv:v≤n) :
  PT (la.getD v ⟨#[]⟩) ((prL la).getD v (0,0)).1 ((prL la).getD v (0,0)).2∧(la.getD v ⟨#[]⟩).size≤9∧((prL la).getD v (0,0)).1<10^9∧0<((prL la).getD v (0,0)).2∧((prL la).getD v (0,0)).2<10^9:=by
 obtain ⟨⟨q,hq⟩,hs⟩:=h v (by omega);obtain ⟨h1,h2⟩:=j8 hq hs;rw [zf7 la v (by omega),zdZ hq rfl];exact ⟨PT.read hq,hs,h1,q.den_pos,h2⟩
def wgX (n:Nat) (lo hi:List Pr):List Nat:=(List.range (n+1)).map fun v=>if v=0 then 0 else (lo.getD v (0,0)).1*((hi.getD v (0,0)).2 / Nat.gcd (lo.getD v (0,0)).2 (hi.getD v (0,0)).2)
def wgY (n:Nat) (lo hi:List Pr):List Nat:=(List.range (n+1)).map fun v=>if v=0 then 0 else (hi.getD v (0,0)).1*((lo.getD v (0,0)).2 / Nat.gcd (lo.getD v (0,0)).2 (hi.getD v (0,0)).2)
def wgP (lo hi:List Pr):Nat→Nat
 | 0=>1
 | k+1=>wgP lo hi k*jI (lo.getD (k+1) (0,0)).2 (hi.getD (k+1) (0,0)).2
theorem ziT {n:Nat} {lo hi:List Pr} {v:Nat} (h1:1≤v) (h2:v≤n):(wgX n lo hi).getD v 0=(lo.getD v (0,0)).1*((hi.getD v (0,0)).2 / Nat.gcd (lo.getD v (0,0)).2 (hi.getD v (0,0)).2):=by
 unfold wgX;rw [List.getD_eq_getElem?_getD,List.getElem?_map,List.getElem?_range (by omega)];show (if v=0 then _ else _)=_;rw [if_neg (by omega)]
theorem ziS {n:Nat} {lo hi:List Pr} {v:Nat} (h1:1≤v) (h2:v≤n):(wgY n lo hi).getD v 0=(hi.getD v (0,0)).1*((lo.getD v (0,0)).2 / Nat.gcd (lo.getD v (0,0)).2 (hi.getD v (0,0)).2):=by
 unfold wgY;rw [List.getD_eq_getElem?_getD,List.getElem?_map,List.getElem?_range (by omega)];show (if v=0 then _ else _)=_;rw [if_neg (by omega)]
theorem wg_mul (a d e:Nat) (hd:0<d):((a*(e / Nat.gcd d e):Nat):Rat)=((jI d e:Nat):Rat)*qq a d:=by
 have h:=zhk a d (e / Nat.gcd d e);rw [yE hd] at h;rw [← h,Rat.mul_comm];congr 2;unfold jI;rw [Nat.mul_div_assoc _ (Nat.gcd_dvd_right d e)]
theorem wg_mul2 (b d e:Nat) (he:0<e):((b*(d / Nat.gcd d e):Nat):Rat)=((jI d e:Nat):Rat)*qq b e:=by
 have h:=wg_mul b e d he;rw [Nat.gcd_comm e d] at h;rw [h];unfold jI;rw [Nat.gcd_comm e d,Nat.mul_comm e d]
theorem jR (lo hi:List Pr) (n:Nat) (h:∀ v,v≤n→0<(lo.getD v (0,0)).2∧(lo.getD v (0,0)).2<10^9∧0<(hi.getD v (0,0)).2∧(hi.getD v (0,0)).2<10^9):∀ k,k≤n→0<wgP lo hi k∧wgP lo hi k≤10^(18*k)
 | 0,_=>⟨Nat.one_pos,zi _⟩
 | k+1,hk=>by
   obtain ⟨i1,i2⟩:=jR lo hi n h k (by omega);obtain ⟨a,b,c,d⟩:=h (k+1) hk;have hl:0<jI (lo.getD (k+1) (0,0)).2 (hi.getD (k+1) (0,0)).2:=Nat.lcm_pos a c;have hl2:jI (lo.getD (k+1) (0,0)).2 (hi.getD (k+1) (0,0)).2≤10^18:=Nat.le_trans (Nat.div_le_self _ _) (Nat.le_of_lt (Nat.lt_of_lt_of_le (Nat.mul_lt_mul'' b d) (by decide)));refine ⟨Nat.mul_pos i1 hl,?_⟩;show wgP lo hi k*_≤_;rw [show 18*(k+1)=18*k+18 by omega,Nat.pow_add];exact Nat.mul_le_mul i2 hl2
theorem wg_ok {n:Nat} (hn20:n≤20) {la lh:List ByteArray} (h1:qx la la.length) (h2:qx lh lh.length) (e1:la.length=n+1) (e2:lh.length=n+1) :
  WgOk n la lh (wgX n (prL la) (prL lh)) (wgY n (prL la) (prL lh)) (fun v=>((prL la).getD v (0,0)).2) (fun v=>((prL lh).getD v (0,0)).2) (wgP (prL la) (prL lh)):=by
 have f1:=fun v hv=>zfb h1 e1 v hv;have f2:=fun v hv=>zfb h2 e2 v hv;have hd:∀ z,z<10^9→zB z≤100:=fun z hz=>Nat.le_trans (zbW z 9 hz (by decide)) (by decide);have hP:=jR (prL la) (prL lh) n fun v hv=>⟨(f1 v hv).2.2.2.1,(f1 v hv).2.2.2.2,(f2 v hv).2.2.2.1,(f2 v hv).2.2.2.2⟩;refine ⟨fun v a b W=>?_,fun v a b W=>?_,fun v a b W=>?_,fun v a b=>⟨(f1 v b).2.2.2.1,(f1 v b).2.2.2.2,(f2 v b).2.2.2.1,(f2 v b).2.2.2.2⟩,rfl,fun k _=>rfl,fun k hk=>?_,?_,?_⟩
 ·rw [ziT a b,ziS a b];obtain ⟨a1,a2,a3,a4,a5⟩:=f1 v b;obtain ⟨b1,b2,b3,b4,b5⟩:=f2 v b;exact zld W _ _ _ _ _ _ a1 b1 (by omega) (by omega) (hd _ a3) (hd _ a5) (hd _ b3) (hd _ b5) a4 b4
 ·obtain ⟨a1,a2,a3,a4,a5⟩:=f1 v b;refine (zbN W _ _ _ a1 (by omega)).mono ?_;rintro e w' ⟨rfl,hb⟩;exact ⟨⟨_,rfl⟩,hb⟩
 ·obtain ⟨a1,a2,a3,a4,a5⟩:=f2 v b;refine (zbN W _ _ _ a1 (by omega)).mono ?_;rintro e w' ⟨rfl,hb⟩;exact ⟨⟨_,rfl⟩,hb⟩
 ·have:=zbW (wgP (prL la) (prL lh) k) (18*k+1) (Nat.lt_of_le_of_lt (hP k hk).2 (Nat.pow_lt_pow_right (by decide) (Nat.lt_succ_self _))) (by omega);omega
 ·unfold wgX;rw [List.getD_eq_getElem?_getD,List.getElem?_map,List.getElem?_range (by omega)];rfl
 ·unfold wgY;rw [List.getD_eq_getElem?_getD,List.getElem?_map,List.getElem?_range (by omega)];rfl
theorem pO {x p k j:Nat} (h:n8 x≤k) (hp:p≤10^j):zB (x*p)≤3*k+j+1:=by
 refine zbW _ _ ?_ (by omega);have h1:x<256^k:=(jv k x).1 h;have h2:256^k≤10^(3*k):=by
  rw [Nat.pow_mul];exact Nat.pow_le_pow_left (by decide) k
 have h3:x*p≤10^(3*k)*10^j:=Nat.mul_le_mul (Nat.le_of_lt (Nat.lt_of_lt_of_le h1 h2)) hp;rw [← Nat.pow_add] at h3;exact Nat.lt_of_le_of_lt h3 (Nat.pow_lt_pow_right (by decide) (Nat.lt_succ_self _))
theorem zjc (w:World) (g:Nat) (N:Nt) (A Al Ah:Option Addr) (c cl ch n:Nat) (tv:Value) (T:List Int) (u:Int) (la lh:List ByteArray)
  (h:RsAt w g N A c (.slice Al (n+1) cl) (.slice Ah (n+1) ch) tv T u) (hN:NtAt w w.heap.size A N.l) (hk:qz N=0) (hn:N.n=(n:Int)) (hn20:n≤20) (hT:∀ l∈T,1≤l.natAbs∧l.natAbs≤n) (hTl:T.length≤1000000)
  (hL:Rd w w.heap.size Al (n+1) (qW la)) (hH:Rd w w.heap.size Ah (n+1) (qW lh)) (h1:qx la la.length) (h2:qx lh lh.length) (e1:la.length=n+1) (e2:lh.length=n+1)
  (ok:WtOk n (qk n (prL la) T) (qm n (prL lh) T)) (hsp:Sp (yw N n (prL la) (prL lh) T)) :
  Calls Tryz.prog 56 #[.pointer (some ⟨g,0,none⟩)] w fun e w'=>e = .returned (.string (Go.Proofs.YtoljkoifgnmbgaaGreatDoor.ptext (yw N n (prL la) (prL lh) T).1 (yw N n (prL la) (prL lh) T).2))∧Below w.heap.size w w':=by
 have hv:=zfk hk;obtain ⟨hd,hs⟩:=zfZ hv hk;have f1:=fun v hv=>zfb h1 e1 v hv;have f2:=fun v hv=>zfb h2 e2 v hv;have hP:=jR (prL la) (prL lh) n (fun v hv=>⟨(f1 v hv).2.2.2.1,(f1 v hv).2.2.2.2,(f2 v hv).2.2.2.1,(f2 v hv).2.2.2.2⟩) n (zi _);have hX:∀ v,1≤v→v≤n→(((wgX n (prL la) (prL lh)).getD v 0:Nat):Rat)=((jI ((prL la).getD v (0,0)).2 ((prL lh).getD v (0,0)).2:Nat):Rat)*qp ((prL la).getD v (0,0)):=fun v a b=>by
  rw [ziT a b];exact wg_mul _ _ _ (f1 v b).2.2.2.1
 have hY:∀ v,1≤v→v≤n→(((wgY n (prL la) (prL lh)).getD v 0:Nat):Rat)=((jI ((prL la).getD v (0,0)).2 ((prL lh).getD v (0,0)).2:Nat):Rat)*qp ((prL lh).getD v (0,0)):=fun v a b=>by
  rw [ziS a b];exact wg_mul2 _ _ _ (f2 v b).2.2.2.1
 have hq:=zjQ ok hv hd hn (wgX n (prL la) (prL lh)) (wgY n (prL la) (prL lh)) (fun v=>jI ((prL la).getD v (0,0)).2 ((prL lh).getD v (0,0)).2) (wgP (prL la) (prL lh)) hX hY rfl (fun k _=>rfl) hP.1;have htx:=xT ok hv hd hn (wgX n (prL la) (prL lh)) (wgY n (prL la) (prL lh)) (fun v=>jI ((prL la).getD v (0,0)).2 ((prL lh).getD v (0,0)).2) (wgP (prL la) (prL lh)) hX hY rfl (fun k _=>rfl) hP.1;rw [← htx];have hVb:zB (((RN 0).wit (WX (zL T (wgX n (prL la) (prL lh))) (zH T (wgY n (prL la) (prL lh))))).sum N)≤1000000:=by
  unfold qp at hq;have h5:=(zf4 _ _ _ _).1 hq;rw [yE hP.1] at h5;have h6:((RN 0).wit (WX (zL T (wgX n (prL la) (prL lh))) (zH T (wgY n (prL la) (prL lh))))).sum N≤(yw N n (prL la) (prL lh) T).1*wgP (prL la) (prL lh) n:=by
   rw [h5];exact Nat.le_mul_of_pos_right _ (xp _)
  have h7:=pO hsp.1 hP.2;have h8:=yz h6;omega
 have hlX:(wgX n (prL la) (prL lh)).length=n+1:=by unfold wgX;rw [List.length_map,List.length_range]
 have hlY:(wgY n (prL la) (prL lh)).length=n+1:=by unfold wgY;rw [List.length_map,List.length_range]
 have hbw:∀ i,(wgX n (prL la) (prL lh)).getD i 0≤2^100∧(wgY n (prL la) (prL lh)).getD i 0≤2^100:=fun i=>by
  have z:∀ a e q:Nat,a<10^9→e<10^9→a*(e / q)≤2^100:=fun a e q ha he=>Nat.le_trans (Nat.mul_le_mul (Nat.le_of_lt ha) (Nat.le_trans (Nat.div_le_self _ _) (Nat.le_of_lt he))) (by decide);rcases Nat.eq_zero_or_pos i with rfl | hp
  ·rw [(wg_ok hn20 h1 h2 e1 e2).x0,(wg_ok hn20 h1 h2 e1 e2).y0];exact ⟨Nat.zero_le _,Nat.zero_le _⟩
  ·by_cases hin:i≤n
   ·rw [ziT hp hin,ziS hp hin];exact ⟨z _ _ _ (f1 i hin).2.2.1 (f2 i hin).2.2.2.2,z _ _ _ (f2 i hin).2.2.1 (f1 i hin).2.2.2.2⟩
   ·rw [List.getD_eq_getElem?_getD,List.getElem?_eq_none (by omega),List.getD_eq_getElem?_getD,List.getElem?_eq_none (by omega)];exact ⟨Nat.zero_le _,Nat.zero_le _⟩
 refine zhe w g N A Al Ah c cl ch n _ tv T u la lh _ _ _ _ _ h hn (by omega) hT hTl hL hH (wg_ok hn20 h1 h2 e1 e2) hP.1 hVb fun W Bl Bh dl dh hb a1 a2=>?_;exact zg0 W N A Bl Bh c dl dh n _ _ hn hn20 ((hN.below hb).more hb.size) hk (by rw [zL_len,hlX]) (by rw [zH_len,hlY])
  (fun i=>by rw [zdK];split;exact Nat.zero_le _;exact (hbw i).1) (fun i=>by rw [zdL];split;exact Nat.zero_le _;exact (hbw i).2) a1 a2
end Go.Proofs.YtoljkoifgnmbgaaGreatDoor
end
section
set_option maxRecDepth 100000
set_option maxHeartbeats 1000000
open Go Go.RowKit Cs
namespace Go.Proofs.YtoljkoifgnmbgaaGreatDoor
theorem rsame_eq (w:World) (A B:Option Addr) (c d:Nat) (T:List Int) (hT:T.length≤1000000) (hA:Rd w w.heap.size A T.length (zJ T)) (hB:Rd w w.heap.size B T.length (zJ T)) :
  Calls Tryz.prog 57 #[.slice A T.length c,.slice B T.length d] w fun e w'=>e = .returned (.bool true)∧Below w.heap.size w w':=by
 have d0:((T.length:Int) != (T.length:Int))=false:=by simp
 obtain ⟨m,hm⟩:∃ m,T.length=m:=⟨_,rfl⟩;rw [hm] at hT hA hB d0 ⊢;go_enter Tryz.func57, Tryz.ntmps57;go_wp2_with fail
 go_loopw [5] (fun t wr=>∃ k:Nat,k≤m∧t = .int .i64 (k:Int)∧Below w.heap.size w wr) (fun t _=>m-(intOf t).toNat)
 case atStart=>exact ⟨0,Nat.zero_le _,rfl,zA _ _⟩
 case round =>
  obtain ⟨k,hk,rfl,hb⟩:=hrel;by_cases hlt:k<m
  ·obtain ⟨b1,o1,rfl,hb1,hc1⟩:=hA (by omega);obtain ⟨b2,o2,rfl,hb2,hc2⟩:=hB (by omega);have e1:=hc1 k hlt;have e2:=hc2 k hlt;unfold zJ at e1 e2;obtain ⟨y,hy⟩:∃ y,T.getD k 0=y:=⟨_,rfl⟩;rw [hy] at e1 e2;have hbd:Below w.heap.size w wr.drew:=qw hb 1;have z1:wr.drew.cell? ⟨b1,o1+k,none⟩=some (.int .i64 y):=zy hbd e1 hb1;have z2:wr.drew.cell? ⟨b2,o2+k,none⟩=some (.int .i64 y):=zy hbd e2 hb2;have z1':wr.cell? ⟨b1,o1+k,none⟩=some (.int .i64 y):=zy hb e1 hb1;have z2':wr.cell? ⟨b2,o2+k,none⟩=some (.int .i64 y):=zy hb e2 hb2;have i1:(0:Int)≤(k:Int):=by omega
   have i2:(k:Int)<(m:Int):=by omega
   have HBD:=za hbd;clear e1 e2 hc1 hc2 hy hbd hb hA hB hm;go_wp2_with fail
   go_region_held3 (fun w'=>w'.cell? ⟨b1,o1+k,none⟩=some (.int .i64 y)∧w'.cell? ⟨b2,o2+k,none⟩=some (.int .i64 y)) (first | exact ⟨z1,z2⟩ | go_keep) (fail)
   all_goals
    try go_wp2
    go_roundw
    case rel=>exact ⟨k+1,hlt,by go_num,HBD.out⟩
    case measure=>simp [intOf];omega
  ·obtain rfl:k=m:=by omega
   go_wp2_with fail
   go_ret;exact ⟨rfl,hb⟩
end Go.Proofs.YtoljkoifgnmbgaaGreatDoor
end
section
open Go Go.RowKit Cs
namespace Go.Proofs.YtoljkoifgnmbgaaGreatDoor
theorem unew_any (w:World) (N:Nt) (A:Option Addr) (c cl ch:Nat) (lo hi:List ByteArray) (Al Ah:Option Addr) (hlen:N.l.length≤140737488355328) (hN:NtAt w w.heap.size A N.l) (hT:Tab w)
  (hin:∀ k (hk:k<N.l.length),N.l[k].ins.length≤1000000) (h1:qx lo lo.length) (h2:qx hi hi.length) (hb1:lo.length≤140) (hb2:hi.length≤140)
  (hlo:Rd w w.heap.size Al (lo.length*2) (zT (prL lo))) (hhi:Rd w w.heap.size Ah (hi.length*2) (zT (prL hi))) (hc1:lo.length≤cl) (hc2:hi.length≤ch) :
  Calls Tryz.prog 15 #[ql N A c,jM Al Ah lo.length hi.length cl ch] w fun e w'=>Below w.heap.size w w' ∧
   ((xm N lo hi∧∃ g E,e = .returned (.tuple #[.pointer (some ⟨g.b,0,none⟩),.int .i64 0])∧Ly w E g N N.n.toNat (prL lo) (prL hi) (.slice none 0 0) [] 0 [] w') ∨
    (¬ xm N lo hi∧∃ R:Int,R=ju N (prL lo) (prL hi)∧R≠0∧e = .returned (.tuple #[.pointer none,.int .i64 R]))):=by
 have el:∀ L:List ByteArray,(prL L).length=L.length:=fun L=>by unfold prL;rw [List.length_map]
 by_cases hac:xm N lo hi
 ·obtain ⟨n,hn,e1,e2,ok⟩:=zfl hac hT.lt;have htn:N.n.toNat=n:=by omega
  rw [htn];have:=new_ok w N A c n cl ch (prL lo) (prL hi) Al Ah hN ok.hv ok.hd ok.hs hn hT hin ok.wt ok.hb (by rw [← e1];exact hlo) (by rw [← e2];exact hhi) (by omega) (by omega);rw [← e1] at this;refine (show Calls Tryz.prog 15 #[ql N A c,jM Al Ah lo.length hi.length cl ch] w _ from by rw [show hi.length=lo.length by omega];exact this).mono ?_;rintro e w' ⟨g,E,rfl,hs,hb⟩;exact ⟨hb,Or.inl ⟨hac,g,E,rfl,Ly.ofLv ⟨hs,hb⟩⟩⟩
 ·have hR:ju N (prL lo) (prL hi)≠0:=fun h=>hac ⟨⟨h1,h2⟩,⟨hb1,hb2⟩,h⟩;have hck:∀ W,Below w.heap.size w W→Calls Tryz.prog 40 #[ql N A c,jM Al Ah lo.length hi.length cl ch] W fun e w'=>e = .returned (.int .i64 (ju N (prL lo) (prL hi)))∧Below W.heap.size W w':=fun W hb=>by
   have hN':=(hN.below hb).more hb.size;unfold ju;by_cases hc:zC N=true∧((prL lo).length:Int)=N.n+1∧((prL hi).length:Int)=N.n+1
   ·rw [if_pos hc];obtain ⟨hv,e1,e2⟩:=hc;rw [el] at e1 e2;obtain ⟨hn0,hn1,hl0,hl1⟩:=qD hv;obtain ⟨n,hn⟩:∃ n:Nat,N.n=(n:Int):=⟨N.n.toNat,by omega⟩;have f1:lo.length=n+1:=by omega
    have f2:hi.length=n+1:=by omega
    rw [f1,f2,show N.n.toNat=n by omega];have hw:=okL_in h1 h2 f1 f2;exact zgn W N A c cl ch n (prL lo) (prL hi) Al Ah hN' hv hn (hT.below hb) (by rw [← f1];exact (hlo.below hb).more hb.size) (by rw [← f2];exact (hhi.below hb).more hb.size) hw.sl hw.sh (by omega) (by omega) _ rfl
   ·rw [if_neg hc];have:=zkS W N A c cl ch (prL lo) (prL hi) Al Ah hlen hN' (by
     cases hv:zC N
     ·exact Or.inl rfl
     ·by_cases e1:((prL lo).length:Int)=N.n+1
      ·exact Or.inr (Or.inr ⟨rfl,e1,fun e2=>hc ⟨hv,e1,e2⟩⟩)
      ·exact Or.inr (Or.inl ⟨rfl,e1⟩))
    rw [el,el] at this;exact this
  refine (new_err w N A c lo.length hi.length cl ch Al Ah _ hR hck).mono ?_;rintro e w' ⟨rfl,hb⟩;exact ⟨hb,Or.inr ⟨hac,_,rfl,hR,rfl⟩⟩
theorem WtsR.any {w:World} {lo hi:List ByteArray} {e:Ending} {w':World} (h:WtsR w lo hi e w'):Below w.heap.size w w' ∧
  ∃ (Al Ah:Option Addr) (m k c d:Nat) (b:Bool),e = .returned (.tuple #[jM Al Ah m k c d,.bool b])∧(b=true→(qx lo lo.length∧qx hi hi.length)∧(lo.length≤140∧hi.length≤140)∧m=lo.length∧k=hi.length∧lo.length≤c∧hi.length≤d ∧
   Rd w' w'.heap.size Al (lo.length*2) (zT (prL lo))∧Rd w' w'.heap.size Ah (hi.length*2) (zT (prL hi)))∧(b=false→∀ N,¬ xm N lo hi):=by
 obtain ⟨hb,h⟩:=h;refine ⟨hb,?_⟩;rcases h with ⟨hn,Al,Ah,m,k,c,d,rfl⟩ | ⟨hy,Al,Ah,cl,ch,rfl,h1,h2,h3,h4⟩
 ·exact ⟨Al,Ah,m,k,c,d,false,rfl,(fun h=>by cases h),fun _ N h=>hn h.1⟩
 ·refine ⟨Al,Ah,_,_,cl,ch,_,rfl,fun h=>?_,fun h N h5=>?_⟩
  ·simp only [Bool.and_eq_true,decide_eq_true_eq] at h;exact ⟨hy,h,rfl,rfl,h1,h2,h3,h4⟩
  ·have:=h5.2.1;rw [decide_eq_true this.1,decide_eq_true this.2] at h;cases h
end Go.Proofs.YtoljkoifgnmbgaaGreatDoor
end
section
open Go Go.RowKit Cs
end
section
open Go Go.RowKit Cs
end
section
open Go Go.RowKit Cs
end
section
set_option maxRecDepth 100000
set_option maxHeartbeats 4000000
open Go Go.RowKit Cs
namespace Go.Proofs.YtoljkoifgnmbgaaGreatDoor
def yK (N:Nt) (l:Nat):Bool:=jk N&&(decide (N.n≤20)||decide (128<N.n))&&decide (l≤15)
theorem fewU_any (w:World) (N:Nt) (A Ab:Option Addr) (c lb cb:Nat) (hlen:N.l.length≤140737488355328) (hN:NtAt w w.heap.size A N.l) :
  Calls Tryz.prog 17 #[ql N A c,.slice Ab lb cb] w fun e w'=>e = .returned (.bool (yK N lb))∧Below w.heap.size w w':=by
 have hfw:=fun W hN=>few_any W N A c hlen hN;obtain ⟨F,hF⟩:∃ F,yK N lb=F:=⟨_,rfl⟩;rw [hF];unfold yK at hF;obtain ⟨B,hB⟩:∃ B,jk N=B:=⟨_,rfl⟩;rw [hB] at hfw hF;have HFW:=za hfw;have HF:=za hF;clear hfw hB hF;obtain ⟨n,l⟩:=N;have q0:=(Bag.zero w).new #[.int .i64 n,.slice A l.length c] 24 w.heap.size 2 rfl rfl;simp only at HF;cases B
 ·go_enter Tryz.func17, Tryz.ntmps17;go_wp2_with fail
  refine (HFW.out _ ((hN.below q0.bl).more q0.bl.size)).mono ?_;rintro e w1 ⟨rfl,hb1⟩;have q1:=q0.below hb1;have m1:=q1.is0 0 (by decide) (.int .i64 n) rfl;have m2:=q1.is0 1 (by decide) (.slice A l.length c) rfl;clear hN hlen HFW;go_wp2_with fail
  go_ret;have hh:=HF.out;rw [Bool.false_and,Bool.false_and] at hh;obtain rfl:=hh;exact ⟨rfl,q1.bl⟩
 ·rcases (show n≤20∨20<n by omega) with h1 | h1
  ·have d1:decide (n≤20)=true:=decide_eq_true h1;rcases (show lb≤15∨15<lb by omega) with h2 | h2
   ·have d2:decide ((lb:Int)≤15)=true:=decide_eq_true (by omega);have d4:decide (lb≤15)=true:=decide_eq_true (by omega);go_enter Tryz.func17, Tryz.ntmps17;go_wp2_with fail
    refine (HFW.out _ ((hN.below q0.bl).more q0.bl.size)).mono ?_;rintro e w1 ⟨rfl,hb1⟩;have q1:=q0.below hb1;have m1:=q1.is0 0 (by decide) (.int .i64 n) rfl;have m2:=q1.is0 1 (by decide) (.slice A l.length c) rfl;clear hN hlen HFW;go_wp2_with fail
    go_ret;have hh:=HF.out;rw [d1,d4,Bool.true_or,Bool.true_and,Bool.true_and] at hh;obtain rfl:=hh;exact ⟨rfl,q1.bl⟩
   ·have d2:decide ((lb:Int)≤15)=false:=decide_eq_false (by omega);have d4:decide (lb≤15)=false:=decide_eq_false (by omega);go_enter Tryz.func17, Tryz.ntmps17;go_wp2_with fail
    refine (HFW.out _ ((hN.below q0.bl).more q0.bl.size)).mono ?_;rintro e w1 ⟨rfl,hb1⟩;have q1:=q0.below hb1;have m1:=q1.is0 0 (by decide) (.int .i64 n) rfl;have m2:=q1.is0 1 (by decide) (.slice A l.length c) rfl;clear hN hlen HFW;go_wp2_with fail
    go_ret;have hh:=HF.out;rw [d1,d4,Bool.and_false] at hh;obtain rfl:=hh;exact ⟨rfl,q1.bl⟩
  ·have d1:decide (n≤20)=false:=decide_eq_false (by omega);rcases (show 128<n∨n≤128 by omega) with h3 | h3
   ·have d3:decide (128<n)=true:=decide_eq_true h3;rcases (show lb≤15∨15<lb by omega) with h2 | h2
    ·have d2:decide ((lb:Int)≤15)=true:=decide_eq_true (by omega);have d4:decide (lb≤15)=true:=decide_eq_true (by omega);go_enter Tryz.func17, Tryz.ntmps17;go_wp2_with fail
     refine (HFW.out _ ((hN.below q0.bl).more q0.bl.size)).mono ?_;rintro e w1 ⟨rfl,hb1⟩;have q1:=q0.below hb1;have m1:=q1.is0 0 (by decide) (.int .i64 n) rfl;have m2:=q1.is0 1 (by decide) (.slice A l.length c) rfl;clear hN hlen HFW;go_wp2_with fail
     go_ret;have hh:=HF.out;rw [d1,d3,d4,Bool.or_true,Bool.true_and,Bool.true_and] at hh;obtain rfl:=hh;exact ⟨rfl,q1.bl⟩
    ·have d2:decide ((lb:Int)≤15)=false:=decide_eq_false (by omega);have d4:decide (lb≤15)=false:=decide_eq_false (by omega);go_enter Tryz.func17, Tryz.ntmps17;go_wp2_with fail
     refine (HFW.out _ ((hN.below q0.bl).more q0.bl.size)).mono ?_;rintro e w1 ⟨rfl,hb1⟩;have q1:=q0.below hb1;have m1:=q1.is0 0 (by decide) (.int .i64 n) rfl;have m2:=q1.is0 1 (by decide) (.slice A l.length c) rfl;clear hN hlen HFW;go_wp2_with fail
     go_ret;have hh:=HF.out;rw [d1,d3,d4,Bool.and_false] at hh;obtain rfl:=hh;exact ⟨rfl,q1.bl⟩
   ·have d3:decide (128<n)=false:=decide_eq_false (by omega);go_enter Tryz.func17, Tryz.ntmps17;go_wp2_with fail
    refine (HFW.out _ ((hN.below q0.bl).more q0.bl.size)).mono ?_;rintro e w1 ⟨rfl,hb1⟩;have q1:=q0.below hb1;have m1:=q1.is0 0 (by decide) (.int .i64 n) rfl;have m2:=q1.is0 1 (by decide) (.slice A l.length c) rfl;clear hN hlen HFW;go_wp2_with fail
    go_ret;have hh:=HF.out;rw [d1,d3,Bool.or_false,Bool.and_false,Bool.false_and] at hh;obtain rfl:=hh;exact ⟨rfl,q1.bl⟩
end Go.Proofs.YtoljkoifgnmbgaaGreatDoor
end
section
open Go Go.RowKit Cs
namespace Go.Proofs.YtoljkoifgnmbgaaGreatDoor
structure ActIn (N:Nt) (A:Option Addr) (lo hi:List ByteArray) (Al Ah AL:Option Addr) (L:List Int) (W:World):Prop where
 nt:NtAt W W.heap.size A N.l
 tb:Tab W
 l1:Rd W W.heap.size Al lo.length (qW lo)
 l2:Rd W W.heap.size Ah hi.length (qW hi)
 al:Rd W W.heap.size AL L.length (zJ L)
structure ActC (N:Nt) (lo hi:List ByteArray) (L:List Int):Prop where
 hlen:N.l.length≤140737488355328
 hl1:lo.length≤1000000000000
 hl2:hi.length≤1000000000000
 hs1:∀ i,(lo.getD i ⟨#[]⟩).size≤maxLen
 hs2:∀ i,(hi.getD i ⟨#[]⟩).size≤maxLen
 hLr:∀ i,-9223372036854775808≤L.getD i 0∧L.getD i 0≤9223372036854775807
section
variable {N:Nt} {A Al Ah AL:Option Addr} {lo hi:List ByteArray} {L:List Int} {W W' w:World} {g:Sg} {E:Nat} {tv:Value} {k:Int}
theorem ActIn.below (h:ActIn N A lo hi Al Ah AL L W) (hb:Below W.heap.size W W'):ActIn N A lo hi Al Ah AL L W' :=
 ⟨(h.nt.below hb).more hb.size,h.tb.below hb,(h.l1.below hb).more hb.size,(h.l2.below hb).more hb.size,(h.al.below hb).more hb.size⟩
theorem fewU_ins {l:Nat} (hf:yK N l=true):∀ k (hk:k<N.l.length),N.l[k].ins.length≤1000000:=fun k hk=>by
 have:jk N=true:=by
  unfold yK at hf;rw [Bool.and_eq_true,Bool.and_eq_true] at hf;exact hf.1.1
 have:=few_ins this k hk;omega
theorem fewU_len {l:Nat} (hf:yK N l=true):l≤15:=by
 unfold yK at hf;rw [Bool.and_eq_true,Bool.and_eq_true] at hf;exact of_decide_eq_true hf.2
theorem acOk_at (h:xm N lo hi) {D:Nat} (hD:1<D) {T:List Int} (ht:TOk N.n.toNat T):SesOk N N.n.toNat (prL lo) (prL hi) T D:=by
 obtain ⟨n,hn,_,_,ok⟩:=zfl h hD;rw [show N.n.toNat=n by omega] at ht ⊢;exact ok.at ht
theorem acOk_tk (h:xm N lo hi) (L:List Int):TOk N.n.toNat (yC N.n L):=by
 obtain ⟨n,hn,_,_,ok⟩:=zfl h (Nat.lt_succ_self _);rw [show N.n.toNat=n by omega];exact TOk.acts hn (yF ok.hv hn) _
end
end Go.Proofs.YtoljkoifgnmbgaaGreatDoor
end
