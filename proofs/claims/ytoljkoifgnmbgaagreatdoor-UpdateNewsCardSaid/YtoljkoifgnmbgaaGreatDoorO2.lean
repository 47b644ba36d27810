import Derived.Test.YtoljkoifgnmbgaaGreatDoorUl
import Derived.Test.YtoljkoifgnmbgaaGreatDoorKl
import Derived.Test.YtoljkoifgnmbgaaGreatDoorVl
import Derived.Test.YtoljkoifgnmbgaaGreatDoorO1
import Derived.Test.YtoljkoifgnmbgaaGreatDoorV1
set_option linter.unusedSimpArgs false
set_option linter.unusedVariables false
section
set_option maxRecDepth 100000
set_option maxHeartbeats 8000000
open Go Go.RowKit Cs
namespace Cs
def fillF (k i:Nat):Value:=.string (if i<k then ⟨#[49]⟩ else ⟨#[]⟩)
theorem fillF_all {k i:Nat} (h:i<k):fillF k i=strF (oneL k) i:=by
 unfold fillF strF;rw [if_pos h,oneL_get h]
end Cs
namespace Go.Proofs.YtoljkoifgnmbgaaGreatDoor
theorem mk_txt (n:Nat) (h:n≤1000000000) (u:World):(Instr.makeSlice 27 (.int .i64 (n:Int)) (.int .i64 (n:Int))).run Tryz.prog u =
  .ok (.slice (some ⟨u.heap.size,0,none⟩) n n) (u.alloc (.cells (madeCells #[.string ⟨#[]⟩] n) 9)):=by
 obtain ⟨i0,hi,hz0,hz1,hz2⟩:=info_parts info_str;exact run_make_row 27 9 i0 (.string ⟨#[]⟩) Tryz.underlying27 hi hz0 hz1 rfl .i64 .i64 n (by rw [hz2];omega) (by omega) u
section
variable {w W W':World} {N:Nt} {A:Option Addr} {c ga gb a b ka kb:Nat}
structure FillAt (w:World) (N:Nt) (A:Option Addr) (c ga gb a b ka kb:Nat) (W:World):Prop where
 bl:Below w.heap.size w W
 rx:W.rowIs w.heap.size 24 2 (arrF #[.int .i64 N.n,.slice A N.l.length c])
 ra:W.rowIs ga 9 a (fillF ka)
 rb:W.rowIs gb 9 b (fillF kb)
 la:w.heap.size<ga
 lb:w.heap.size<gb
 ne:ga≠gb
theorem FillAt.setA (h:FillAt w N A c ga gb a b ka kb W):FillAt w N A c ga gb a b (ka+1) kb (W.setCell ⟨ga,ka,none⟩ (.string ⟨#[49]⟩)) :=
 ⟨h.bl.setCell (by have:=h.la;show w.heap.size≤ga;omega) _,h.rx.setOther (by have:=h.la;show w.heap.size≠ga;omega) _,(h.ra.set ka _).congr fun i _=>by
   unfold fillF;by_cases e:i=ka
   ·rw [if_pos e,if_pos (by omega)]
   ·rw [if_neg e];by_cases e2:i<ka
    ·rw [if_pos e2,if_pos (by omega)]
    ·rw [if_neg e2,if_neg (by omega)],h.rb.setOther (fun e=>h.ne e.symm) _,h.la,h.lb,h.ne⟩
theorem FillAt.setB (h:FillAt w N A c ga gb a b ka kb W):FillAt w N A c ga gb a b ka (kb+1) (W.setCell ⟨gb,kb,none⟩ (.string ⟨#[49]⟩)) :=
 ⟨h.bl.setCell (by have:=h.lb;show w.heap.size≤gb;omega) _,h.rx.setOther (by have:=h.lb;show w.heap.size≠gb;omega) _,h.ra.setOther h.ne _,(h.rb.set kb _).congr fun i _=>by
   unfold fillF;by_cases e:i=kb
   ·rw [if_pos e,if_pos (by omega)]
   ·rw [if_neg e];by_cases e2:i<kb
    ·rw [if_pos e2,if_pos (by omega)]
    ·rw [if_neg e2,if_neg (by omega)],h.la,h.lb,h.ne⟩
theorem FillAt.one (h:FillAt w N A c ga gb a b ka kb W) (hN:NtAt w w.heap.size A N.l):OneAt w N A c w.heap.size W:=⟨h.bl,(hN.below h.bl).more h.bl.size,h.rx⟩
theorem FillAt.rows (h:FillAt w N A c ga gb a b a b W):Rd W W.heap.size (some ⟨ga,0,none⟩) a (strF (oneL a))∧Rd W W.heap.size (some ⟨gb,0,none⟩) b (strF (oneL b)) :=
 ⟨Rd.of_row (h.ra.congr fun i hi=>fillF_all hi) (zqn _) h.ra.lt,Rd.of_row (h.rb.congr fun i hi=>fillF_all hi) (zqn _) h.rb.lt⟩
def NewsAt (w:World) (N:Nt) (A:Option Addr) (c gw:Nat) (sa sb:Value) (W:World):Prop :=
 ∃ (Ba Bb Bl Bh:Option Addr) (x y ca cb cm ck:Nat),sa = .slice Ba x ca∧sb = .slice Bb y cb∧x≤140∧y≤140∧OneAt w N A c w.heap.size W∧W.rowIs gw 30 2 (arrF #[.slice Bl x cm,.slice Bh y ck]) ∧
  Rd W W.heap.size Ba x (strF (oneL x))∧Rd W W.heap.size Bb y (strF (oneL y))∧x≤cm∧y≤ck∧Rd W W.heap.size Bl (x*2) (prsF (prL (oneL x)))∧Rd W W.heap.size Bh (y*2) (prsF (prL (oneL y)))
theorem rd_nil {W:World} {B:Nat} {A:Option Addr} {f:Nat→Value}:Rd W B A 0 f:=fun h=>absurd h (by omega)
end
theorem unews_ok (w:World) (N:Nt) (A:Option Addr) (c a b:Nat) (hlen:N.l.length≤140737488355328) (hN:NtAt w w.heap.size A N.l) (hT:Tab w) (hf:fewB N=true) (ha:a≤200) (hb:b≤200) :
  Calls Tryz.prog 3 #[ntV N A c,.int .u8 (a:Int),.int .u8 (b:Int)] w fun e w'=>e = .returned (.bool true)∧Below w.heap.size w w':=by
 have hin:∀ k (hk:k<N.l.length),N.l[k].ins.length≤1000000:=fun k hk=>few_ins hf k hk;have hfw:=fun W hN=>few_any W N A c hlen hN;rw [hf] at hfw
 have hws:=fun W (ga gb:Nat) h1 h2=>weights_any W (oneL a) (oneL b) (some ⟨ga,0,none⟩) (some ⟨gb,0,none⟩) a b (by rw [oneL_len];omega) (by rw [oneL_len];omega) h1 h2
  (fun i=>Nat.le_trans (oneL_size a i) (by decide)) (fun i=>Nat.le_trans (oneL_size b i) (by decide))
 simp only [oneL_len] at hws;have hwr:=fun (W W':World) (e:Ending) (h:WtsR W (oneL a) (oneL b) e W')=>h.any;simp only [oneL_len] at hwr;have hnw:=fun W x y Bl Bh cm ck (o:OneAt w N A c w.heap.size W) h1 h2 h3 h4 h5 h6=>unew_ones W N A c cm ck x y Bl Bh hlen o.nt (hT.below o.bl) hin h1 h2 h3 h4 h5 h6;have hrn:=fun W x y Ba Bb ca cb (o:OneAt w N A c w.heap.size W) h1 h2=>rnew_ones W N A Ba Bb c ca cb x y hlen o.nt h1 h2;have hwk:=fun W (o:OneAt w N A c w.heap.size W)=>works_any W (hT.below o.bl);have hone:=fun ga gb W (q:FillAt w N A c ga gb a b a b W)=>q.one hN;have hmono:=fun W (hb:Below w.heap.size w W)=>(hN.below hb).more hb.size;have o0:=zqh (oneNew w N A c hN);obtain ⟨m1,m2⟩:=o0.out.cells;have HFW:=zqh hfw;have HWS:=zqh hws;have HWR:=zqh hwr;have HNW:=zqh hnw;have HRN:=zqh hrn;have HWK:=zqh hwk;have HON:=zqh hone;have HMO:=zqh hmono;have hma:=mk_txt a (by omega);have hmb:=mk_txt b (by omega)
 have ea:IntKind.i64.wrap (a:Int)=(a:Int):=by rw [IntKind.wrap_i64];omega
 have eb:IntKind.i64.wrap (b:Int)=(b:Int):=by rw [IntKind.wrap_i64];omega
 have d1:¬ ((200:Int)<(a:Int)):=by omega
 have d2:¬ ((200:Int)<(b:Int)):=by omega
 have d3:decide ((200:Int)<(a:Int))=false:=decide_eq_false d1;have d4:decide ((200:Int)<(b:Int))=false:=decide_eq_false d2;clear hfw hws hwr hnw hrn hwk hone hmono hN hT hf hin hlen
 go_enter Tryz.func3, Tryz.ntmps3
 go_upto_region 3 with (go_at_call 12;(with_reducible refine (HFW.out _ o0.out.nt).mono ?_);rintro e w1 ⟨rfl,hb1⟩;have o1:=zqh (o0.out.below hb1);clear hb1 m1 m2 o0)
 go_cut [7,8] from 29 to 34 (fun sa sb wx=>∃ ga gb,sa = .slice (some ⟨ga,0,none⟩) a a∧sb = .slice (some ⟨gb,0,none⟩) b b∧FillAt w N A c ga gb a b 0 0 wx)
 case first =>
  go_region
  all_goals
   try go_wp2
   go_meet
   case rel =>
    have z:∀ i,(.string ⟨#[]⟩:Value)=fillF 0 i:=fun i=>by unfold fillF;rw [if_neg (Nat.not_lt_zero i)]
    have hs:=o1.out.bl.size;have hl:=o1.out.rb.lt;have r1:=rowMade w1 (.string ⟨#[]⟩) a 9 w1.heap.size rfl (fun i _=>z i);have r2:=rowMade (w1.alloc (.cells (madeCells #[.string ⟨#[]⟩] a) 9)) (.string ⟨#[]⟩) b 9 (w1.heap.size+1) (by simp) (fun i _=>z i);have r3:=rowMade w1 (.string ⟨#[]⟩) b 9 w1.heap.size rfl (fun i _=>z i);have r4:=rowMade (w1.alloc (.cells (madeCells #[.string ⟨#[]⟩] b) 9)) (.string ⟨#[]⟩) a 9 (w1.heap.size+1) (by simp) (fun i _=>z i)
    first
     | exact ⟨_,_,rfl,rfl,belowDrewN ((o1.out.bl.alloc hs _).alloc (by simp;omega) _) 1,((o1.out.rb.alloc _).alloc _).drew,(r1.alloc _).drew,r2.drew,hl,by omega,by omega⟩
     | exact ⟨_,_,rfl,rfl,belowDrewN ((o1.out.bl.alloc hs _).alloc (by simp;omega) _) 1,((o1.out.rb.alloc _).alloc _).drew,r4.drew,(r3.alloc _).drew,by omega,hl,by omega⟩
 case rest =>
 obtain ⟨ga,gb,rfl,rfl,q0⟩:=hcut;clear o1 hma hmb ea eb d1 d2 d3 d4
 go_wp2_with fail
 go_loopw [9] (fun t wr=>∃ k:Nat,k≤a∧t = .int .i64 (k:Int)∧FillAt w N A c ga gb a b k 0 wr) (fun t _=>a-(intOf t).toNat)
 case atStart=>exact ⟨0,Nat.zero_le _,rfl,q0⟩
 case round =>
  clear q0;obtain ⟨k,hk,rfl,q⟩:=hrel;by_cases hlt:k<a
  ·have c1:=q.ra.cell (i:=k) hlt;have c2:=q.ra.frozen k
   have i0:(0:Int)≤(k:Int):=by omega
   have i1:(k:Int)<(a:Int):=by omega
   go_wp2_with fail
   go_roundw
   case measure=>simp [intOf];omega
   case rel=>exact ⟨k+1,hlt,by go_num,q.setA⟩
  ·obtain rfl:k=a:=by omega
   have i1:¬ ((k:Int)<(k:Int)):=by omega
   go_wp2_with fail
   go_loopw [10] (fun t wr=>∃ j:Nat,j≤b∧t = .int .i64 (j:Int)∧FillAt w N A c ga gb k b k j wr) (fun t _=>b-(intOf t).toNat)
   case atStart=>exact ⟨0,Nat.zero_le _,rfl,q⟩
   case round =>
    clear q;obtain ⟨j,hj,rfl,q⟩:=hrel;by_cases hlt2:j<b
    ·have c1:=q.rb.cell (i:=j) hlt2;have c2:=q.rb.frozen j
     have i0:(0:Int)≤(j:Int):=by omega
     have i2:(j:Int)<(b:Int):=by omega
     go_wp2_with fail
     go_roundw
     case measure=>simp [intOf];omega
     case rel=>exact ⟨j+1,hlt2,by go_num,q.setB⟩
    ·obtain rfl:j=b:=by omega
     have i2:¬ ((j:Int)<(j:Int)):=by omega
     have hrows:=q.rows;have o2:=zqh (HON.out _ _ _ q);have HRW:=zqh hrows;clear q hrows
     go_upto_region 12 with (fail)
     go_cut [11,12] from 53 to 58 (fun p x wx=>∃ (Bl Bh:Option Addr) (m n cm cn gw:Nat) (t:Bool),p = .pointer (some ⟨gw,0,none⟩)∧x = .bool t∧OneAt w N A c w.heap.size wx∧w.heap.size<gw∧wx.rowIs gw 30 2 (arrF #[.slice Bl m cm,.slice Bh n cn]) ∧
      Rd wx wx.heap.size (some ⟨ga,0,none⟩) k (strF (oneL k))∧Rd wx wx.heap.size (some ⟨gb,0,none⟩) j (strF (oneL j)) ∧
      (t=true→(k≤140∧j≤140)∧m=k∧n=j∧k≤cm∧j≤cn∧Rd wx wx.heap.size Bl (k*2) (prsF (prL (oneL k)))∧Rd wx wx.heap.size Bh (j*2) (prsF (prL (oneL j)))))
     case first =>
      go_wp2_with fail
      refine (HWS.out _ _ _ HRW.out.1 HRW.out.2).mono ?_;rintro e w2 hr;obtain ⟨hb2,Bl,Bh,m,n,cm,cn,t,rfl,ht,_⟩:=HWR.out _ _ _ hr;have hb3:=(Below.refl w2.heap.size w2).alloc (zqn _) (.cells #[.slice Bl m cm,.slice Bh n cn] 30);have o3:=(o2.out.below hb2).below hb3;have r3:=arrNew w2 #[.slice Bl m cm,.slice Bh n cn] 30 _ 2 rfl rfl;have t1:=(((HRW.out.1.below hb2).more hb2.size).below hb3).more hb3.size;have t2:=(((HRW.out.2.below hb2).more hb2.size).below hb3).more hb3.size;have hg:w.heap.size<w2.heap.size:=Nat.lt_of_lt_of_le o2.out.rb.lt hb2.size
      have ht2:t=true→_:=fun h=>by
       obtain ⟨_,a2,a3,a4,a5,a6,a7,a8⟩:=ht h;exact And.intro a2 (And.intro a3 (And.intro a4 (And.intro a5 (And.intro a6 (And.intro ((a7.below hb3).more hb3.size) ((a8.below hb3).more hb3.size))))))
      clear hr ht hb2 hb3
      go_wp2_with fail
      go_meet
      exact ⟨Bl,Bh,m,n,cm,cn,_,t,rfl,rfl,o3,hg,r3,t1,t2,ht2⟩
     case rest =>
     obtain ⟨Bl,Bh,m,n,cm,cn,gw,t,rfl,rfl,o3,hgw,r3,t1,t2,ht⟩:=hcut;have O3:=zqh o3;have HT3:=zqh ht;have T1:=zqh t1;have T2:=zqh t2;clear o2 HRW HWS HWR HFW HON o3 ht t1 t2
     go_upto_if 60 with (fail)
     go_cut [7,8] from 61 to 61 (fun sa sb wx=>NewsAt w N A c gw sa sb wx)
     case first =>
      cases t
      ·have c1:wc.cell? ⟨gw,0,none⟩=some (.slice Bl m cm):=r3.cell (i:=0) (by decide);have c2:wc.cell? ⟨gw,1,none⟩=some (.slice Bh n cn):=r3.cell (i:=1) (by decide);have f1:=r3.frozen 0;have f2:=r3.frozen 1
       go_wp2_with fail
       go_meet
       have hbx:=(O3.out.bl.setCell (p:=⟨gw,0,none⟩) (Nat.le_of_lt hgw) (.slice none 0 0)).setCell (p:=⟨gw,1,none⟩) (Nat.le_of_lt hgw) (.slice none 0 0);exact ⟨none,none,none,none,0,0,0,0,0,0,rfl,rfl,by decide,by decide,⟨hbx,HMO.out _ hbx,(O3.out.rb.setOther (Nat.ne_of_lt hgw) _).setOther (Nat.ne_of_lt hgw) _⟩,pairRow r3 _ _,rd_nil,rd_nil,zqn _,zqn _,rd_nil,rd_nil⟩
      ·obtain ⟨⟨h1,h2⟩,rfl,rfl,h3,h4,h5,h6⟩:=HT3.out rfl
       go_wp2_with fail
       go_meet
       exact ⟨_,_,_,_,_,_,_,_,_,_,rfl,rfl,h1,h2,O3.out,r3,T1.out,T2.out,h3,h4,h5,h6⟩
     case rest =>
     obtain ⟨Ba,Bb,El,Eh,x,y,ca,cb,em,en,rfl,rfl,hx,hy,o4,r4,t3,t4,h3,h4,h5,h6⟩:=hcut;have hnw:=HNW.out wc x y El Eh em en o4 hx hy h5 h6 h3 h4;have hrn:=fun W (hb:Below wc.heap.size wc W)=>HRN.out W x y Ba Bb ca cb (o4.below hb) ((t3.below hb).more hb.size) ((t4.below hb).more hb.size);obtain ⟨R,hR⟩:∃ R,wchk N (prL (oneL x)) (prL (oneL y))=R:=⟨_,rfl⟩;rw [hR] at hnw;simp only [hR] at hrn;obtain ⟨q1,q2⟩:=o4.cells;have q3:wc.cell? ⟨gw,0,none⟩=some (.slice El x em):=r4.cell (i:=0) (by decide);have q4:wc.cell? ⟨gw,1,none⟩=some (.slice Eh y en):=r4.cell (i:=1) (by decide);have HN2:=zqh hnw;have HR2:=zqh hrn;have O4:=zqh o4;clear hnw hrn hR HNW HRN HMO O3 HT3 T1 T2 r3 r4 o4 t3 t4 hx hy h3 h4 h5 h6 hk hj i1 i2 hlt hlt2
     go_upto_region 17 with (go_at_call 15;(with_reducible refine HN2.out.mono ?_);rintro e w3 ⟨⟨p,rfl,hp⟩,hb3⟩;have HB3:=zqh hb3;have o5:=zqh (O4.out.below hb3);obtain ⟨n1,n2⟩:=o5.out.cells;clear hb3 q1 q2 q3 q4 O4)
     rcases hp with ⟨rfl,g,rfl⟩ | ⟨hR0,rfl⟩
     ·go_wp2_with (first
       | (go_at_call 16;(with_reducible refine (HR2.out _ HB3.out).mono ?_);rintro e w4 ⟨⟨q,rfl⟩,hb4⟩;have o6:=zqh (o5.out.below hb4);clear hb4 n1 n2 o5)
       | (go_at_call 13;(with_reducible refine (HWK.out _ o6.out).mono ?_);rintro e w5 ⟨rfl,hb5⟩;have o7:=zqh (o6.out.below hb5);clear hb5 o6))
      all_goals
       go_ret
       exact ⟨rfl,o7.out.bl⟩
     ·have g1:(R==0)=false:=beq_eq_false_iff_ne.2 hR0;have g2:(R != 0)=true:=bne_iff_ne.2 hR0
      go_wp2_with (first
       | (go_at_call 16;(with_reducible refine (HR2.out _ HB3.out).mono ?_);rintro e w4 ⟨⟨q,rfl⟩,hb4⟩;have o6:=zqh (o5.out.below hb4);clear hb4 n1 n2 o5)
       | (go_at_call 13;(with_reducible refine (HWK.out _ o6.out).mono ?_);rintro e w5 ⟨rfl,hb5⟩;have o7:=zqh (o6.out.below hb5);clear hb5 o6))
      all_goals
       go_ret
       exact ⟨rfl,o7.out.bl⟩
end Go.Proofs.YtoljkoifgnmbgaaGreatDoor
end
section
set_option maxRecDepth 100000
set_option maxHeartbeats 8000000
open Go Go.RowKit Cs
namespace Go.Proofs.YtoljkoifgnmbgaaGreatDoor
theorem unews_any (w:World) (N:Nt) (A:Option Addr) (c a b:Nat) (hlen:N.l.length≤140737488355328) (hN:NtAt w w.heap.size A N.l) (hT:Tab w) (ha:a<256) (hb:b<256) :
  Calls Tryz.prog 3 #[ntV N A c,.int .u8 (a:Int),.int .u8 (b:Int)] w fun e w'=>e = .returned (.bool true)∧Below w.heap.size w w':=by
 by_cases hg:fewB N=true∧a≤200∧b≤200
 ·exact unews_ok w N A c a b hlen hN hT hg.1 hg.2.1 hg.2.2
 ·have hfw:=fun W hN=>few_any W N A c hlen hN;have hwk:=fun W (o:OneAt w N A c w.heap.size W)=>works_any W (hT.below o.bl);have o0:=zqh (oneNew w N A c hN);obtain ⟨m1,m2⟩:=o0.out.cells;obtain ⟨F,hF⟩:∃ F,fewB N=F:=⟨_,rfl⟩;rw [hF] at hg;simp only [hF] at hfw;have HFW:=zqh hfw;have HWK:=zqh hwk
  have hc:F=false∨(F=true∧decide ((200:Int)<(a:Int))=true)∨(F=true∧decide ((200:Int)<(a:Int))=false∧decide ((200:Int)<(b:Int))=true):=by
   cases F
   ·exact Or.inl rfl
   ·by_cases h1:a≤200
    ·exact Or.inr (Or.inr ⟨rfl,decide_eq_false (by omega),decide_eq_true (by have:¬ b≤200:=fun h2=>hg ⟨rfl,h1,h2⟩;omega)⟩)
    ·exact Or.inr (Or.inl ⟨rfl,decide_eq_true (by omega)⟩)
  clear hfw hwk hN hT hF hg hlen ha hb;rcases hc with rfl | ⟨rfl,d1⟩ | ⟨rfl,d1,d2⟩
  ·go_enter Tryz.func3, Tryz.ntmps3
   go_wp2_with (first
    | (go_at_call 12;(with_reducible refine (HFW.out _ o0.out.nt).mono ?_);rintro e w1 ⟨rfl,hb1⟩;have o1:=zqh (o0.out.below hb1);clear hb1 m1 m2 o0)
    | (go_at_call 13;(with_reducible refine (HWK.out _ o1.out).mono ?_);rintro e w2 ⟨rfl,hb2⟩;have o2:=zqh (o1.out.below hb2);clear hb2 o1))
   all_goals
    go_ret
    exact ⟨rfl,o2.out.bl⟩
  ·have e1:(200:Int)<(a:Int):=of_decide_eq_true d1
   go_enter Tryz.func3, Tryz.ntmps3
   go_wp2_with (first
    | (go_at_call 12;(with_reducible refine (HFW.out _ o0.out.nt).mono ?_);rintro e w1 ⟨rfl,hb1⟩;have o1:=zqh (o0.out.below hb1);clear hb1 m1 m2 o0)
    | (go_at_call 13;(with_reducible refine (HWK.out _ o1.out).mono ?_);rintro e w2 ⟨rfl,hb2⟩;have o2:=zqh (o1.out.below hb2);clear hb2 o1))
   all_goals
    go_ret
    exact ⟨rfl,o2.out.bl⟩
  ·have e1:¬ (200:Int)<(a:Int):=of_decide_eq_false d1;have e2:(200:Int)<(b:Int):=of_decide_eq_true d2
   go_enter Tryz.func3, Tryz.ntmps3
   go_wp2_with (first
    | (go_at_call 12;(with_reducible refine (HFW.out _ o0.out.nt).mono ?_);rintro e w1 ⟨rfl,hb1⟩;have o1:=zqh (o0.out.below hb1);clear hb1 m1 m2 o0)
    | (go_at_call 13;(with_reducible refine (HWK.out _ o1.out).mono ?_);rintro e w2 ⟨rfl,hb2⟩;have o2:=zqh (o1.out.below hb2);clear hb2 o1))
   all_goals
    go_ret
    exact ⟨rfl,o2.out.bl⟩
end Go.Proofs.YtoljkoifgnmbgaaGreatDoor
end
section
set_option maxRecDepth 100000
open Go Go.RowKit Cs Go.ChangeShapes Go.WideShapes Go.ChangeAt Go.Joins Go.Deep
namespace Go.Proofs.YtoljkoifgnmbgaaGreatDoor
theorem open_u8 {H:Type} {enc:TypeId×Value→H} {W:World} {r:Reach} {b0:Nat} {v:Value} {d:DataW H} {p:List MemPlace} (hv:Value.okWide Tryz.prog W r b0 5 v) (h:DataW.Trod enc Tryz.prog W 0 (fun _=>true) true 5 v d p) :
  ∃ n:Nat,v = .int .u8 (n:Int)∧n<256:=by
 obtain ⟨z,rfl⟩:=okWide_int Tryz.underlying5 hv;obtain ⟨fuel,hf⟩:=h;obtain ⟨z',hz,_,hw⟩:=DataW.trod_int Tryz.underlying5 hf;simp only [Value.cells,List.cons.injEq,Value.int.injEq,and_true,true_and] at hz;subst hz;have hb:=bounds_u8 hw;refine ⟨z.toNat,?_,by omega⟩;rw [Int.toNat_of_nonneg hb.1]
end Go.Proofs.YtoljkoifgnmbgaaGreatDoor
end
