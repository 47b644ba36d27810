import Derived.Test.YtoljkoifgnmbgaaGreatDoorUp
import Derived.Test.YtoljkoifgnmbgaaGreatDoorVr
import Derived.Laws.AppendOwnNone
import Derived.Test.YtoljkoifgnmbgaaGreatDoorQ1
import Derived.Test.YtoljkoifgnmbgaaGreatDoorM1
import Derived.Laws.AppendOwn
set_option linter.unusedSimpArgs false
set_option linter.unusedVariables false
section
set_option maxRecDepth 100000
set_option maxHeartbeats 8000000
open Go Go.RowKit Cs
namespace Go.Proofs.YtoljkoifgnmbgaaGreatDoor
structure RsAt (W:World) (g:Nat) (N:Nt) (A:Option Addr) (c:Nat) (x2 x3 tv:Value) (T:List Int) (u:Int):Prop where
 row:W.rowIs g 104 6 (zE (rsA N A c x2 x3 tv u))
 tr:∃ B,g<B∧B≤W.heap.size∧W.ownsRow B 3 1 tv T.length (T.map (Value.int .i64))
theorem zcw {W:World} {B:Nat} {tv:Value} {T:List Int} (h:W.ownsRow B 3 1 tv T.length (T.map (Value.int .i64))):∃ (At:Option Addr) (ct:Nat),tv = .slice At T.length ct∧Rd W W.heap.size At T.length (zJ T) ∧
  ((At=none∧ct=0∧T=[])∨∃ gt,At=some ⟨gt,0,none⟩∧B≤gt):=by
 have hrd:∀ (At:Option Addr) (ct:Nat),tv = .slice At T.length ct→Rd W W.heap.size At T.length (zJ T):=fun At ct e=>by
  rw [e] at h;refine Rd.of_own h fun i hi=>?_;rw [List.getElem?_map,List.getElem?_eq_getElem hi];unfold zJ;rw [List.getD_eq_getElem?_getD,List.getElem?_eq_getElem hi];rfl
 rcases h.2 with ⟨e,h0⟩ | ⟨gt,cap,cur,e,hB,_⟩
 ·have hT:T=[]:=List.eq_nil_of_length_eq_zero h0;exact ⟨none,0,by rw [e,h0],hrd none 0 (by rw [e,h0]),Or.inl ⟨rfl,rfl,hT⟩⟩
 ·exact ⟨_,_,e,hrd _ _ e,Or.inr ⟨gt,rfl,hB⟩⟩
theorem RsAt.below {W W':World} {g:Nat} {N:Nt} {A:Option Addr} {c:Nat} {x2 x3 tv:Value} {T:List Int} {u:Int} (h:RsAt W g N A c x2 x3 tv T u) (hb:Below W.heap.size W W'):RsAt W' g N A c x2 x3 tv T u :=
 ⟨zh h.row hb,by obtain ⟨B,h1,h2,h3⟩:=h.tr;exact ⟨B,h1,Nat.le_trans h2 hb.size,yp h3 hb⟩⟩
theorem rpush_no (w:World) (g:Nat) (N:Nt) (A:Option Addr) (c:Nat) (x2 x3 tv:Value) (T:List Int) (u l:Int) (h:RsAt w g N A c x2 x3 tv T u) (hl1 : -9223372036854775808≤l) (hl2:l≤9223372036854775807) (hno:qi l N.n=false) :
  Calls Tryz.prog 23 #[.pointer (some ⟨g,0,none⟩),.int .i64 l] w fun e w'=>e = .returned (.int .i64 1)∧w=w':=by
 have hva:=fun W=>zdt W l N.n hl1 hl2;rw [hno] at hva;have m1:w.cell? ⟨g,0,none⟩=some (.int .i64 N.n):=h.row.cell (i:=0) (by decide);have HVA:=za hva;clear hva h hno;obtain ⟨m,ll⟩:=N;simp only at *
 go_enter Tryz.func23, Tryz.ntmps23;go_wp2_with fail
 refine (HVA.out _).mono ?_;rintro e w1 ⟨rfl,rfl⟩;go_wp2_with fail
 go_ret;exact ⟨rfl,rfl⟩
theorem zjd (w:World) (g:Nat) (N:Nt) (A:Option Addr) (c:Nat) (x2 x3 tv:Value) (T:List Int) (u l:Int) (h:RsAt w g N A c x2 x3 tv T u) (hT:T.length≤1000000) (hl1 : -9223372036854775808≤l) (hl2:l≤9223372036854775807) (hok:qi l N.n=true)
  {n:Nat} (hn:N.n=(n:Int)) (hn2:n≤128) (hin:l∈T∨-l∈T) :
  Calls Tryz.prog 23 #[.pointer (some ⟨g,0,none⟩),.int .i64 l] w fun e w'=>e = .returned (.int .i64 4)∧Below w.heap.size w w':=by
 have hva:=fun W=>zdt W l N.n hl1 hl2;rw [hok] at hva;have m1:w.cell? ⟨g,0,none⟩=some (.int .i64 N.n):=h.row.cell (i:=0) (by decide);obtain ⟨B,hgB,hBw,hown⟩:=h.tr;obtain ⟨At,ct,rfl,hrd,_⟩:=zcw hown;have m2:w.cell? ⟨g,4,none⟩=some (.slice At T.length ct):=h.row.cell (i:=4) (by decide);have hh1:=fun W (hb:Below w.heap.size w W)=>zeS W At ct T l hT ((hrd.below hb).more hb.size);have hh2:=fun W (hb:Below w.heap.size w W)=>zeS W At ct T (-l) hT ((hrd.below hb).more hb.size);have hlr:=lit_range hok hn hn2;have hwr:IntKind.i64.wrap (-l) = -l:=by rw [IntKind.wrap_i64];omega
 obtain ⟨b1,hb1⟩:∃ b,decide (l∈T)=b:=⟨_,rfl⟩;obtain ⟨b2,hb2⟩:∃ b,decide (-l∈T)=b:=⟨_,rfl⟩;simp only [hb1] at hh1;simp only [hb2] at hh2;have hbb:b1=true∨b2=true:=by
  rcases hin with hin | hin
  ·exact Or.inl (by rw [← hb1];exact decide_eq_true hin)
  ·exact Or.inr (by rw [← hb2];exact decide_eq_true hin)
 have hlt:=h.row.lt;have HVA:=za hva;have HH1:=za hh1;have HH2:=za hh2;clear hva hh1 hh2 hb1 hb2 hin hlr hok hrd hown h hn hn2;obtain ⟨m,ll⟩:=N;simp only at *
 obtain ⟨k,hk⟩:∃ k,T.length=k:=⟨_,rfl⟩;rw [hk] at m2 HH1 HH2;clear hk hT;cases b1
 ·obtain rfl:b2=true:=by simpa using hbb
  go_enter Tryz.func23, Tryz.ntmps23;go_wp2_with (first
   | (go_at_call 64;(with_reducible refine (HVA.out _).mono ?_);rintro e w1 ⟨rfl,rfl⟩)
   | (go_at_call 65;(with_reducible refine (HH1.out _ (zA _ _)).mono ?_);rintro e w2 ⟨rfl,hb⟩;have n2:w2.cell? ⟨g,4,none⟩=some (.slice At k ct):=zy hb m2 hlt;have HB2:=za hb;clear hb m1 m2 HVA)
   | (go_at_call 65;(with_reducible refine (HH2.out _ HB2.out).mono ?_);rintro e w3 ⟨rfl,hb⟩))
  all_goals
   go_ret;exact ⟨rfl,zu HB2.out hb HB2.out.size⟩
 ·go_enter Tryz.func23, Tryz.ntmps23;go_wp2_with (first
   | (go_at_call 64;(with_reducible refine (HVA.out _).mono ?_);rintro e w1 ⟨rfl,rfl⟩)
   | (go_at_call 65;(with_reducible refine (HH1.out _ (zA _ _)).mono ?_);rintro e w2 ⟨rfl,hb⟩;have HB2:=za hb;clear hb))
  all_goals
   go_ret;exact ⟨rfl,HB2.out⟩
theorem rpush_ok (w:World) (g:Nat) (N:Nt) (A:Option Addr) (c:Nat) (x2 x3 tv:Value) (T:List Int) (u l:Int) (h:RsAt w g N A c x2 x3 tv T u) (hN:NtAt w g A N.l) (hv:zC N=true) (hT:T.length≤1000000) (hok:qi l N.n=true)
  {n:Nat} (hn:N.n=(n:Int)) (hn2:n≤128) (hi1:l ∉ T) (hi2 : -l ∉ T) :
  Calls Tryz.prog 23 #[.pointer (some ⟨g,0,none⟩),.int .i64 l] w fun e w'=>e = .returned (.int .i64 0)∧w.grownBy w' (some g)∧∃ tv',RsAt w' g N A c x2 x3 tv' (T++[l]) (qY N l.natAbs:Nat)∧∀ x,tv'.ownBlock=some x→w.heap.size≤x:=by
 have hlr:=lit_range hok hn hn2;have hl1 : -9223372036854775808≤l:=by omega
 have hl2:l≤9223372036854775807:=by omega
 have hva:=fun W=>zdt W l N.n hl1 hl2;rw [hok] at hva;have hvr:=fun W=>zeQ W l hl1 hl2;have hlv:zQ l=(l.natAbs:Int):=by
  rcases Int.lt_or_le l 0 with hz | hz
  ·have:=ze3 (v:=l.natAbs) hlr.1 (by omega);exact (congrArg zQ (show l = -((l.natAbs:Nat):Int) by omega)).trans this
  ·have:=ze2 (v:=l.natAbs) hlr.1 (by omega);exact (congrArg zQ (show l=((l.natAbs:Nat):Int) by omega)).trans this
 simp only [hlv] at hvr;have m1:w.cell? ⟨g,0,none⟩=some (.int .i64 N.n):=h.row.cell (i:=0) (by decide);obtain ⟨B,hgB,hBw,hown⟩:=h.tr;obtain ⟨At,ct,rfl,hrd,hsh⟩:=zcw hown;have m2:w.cell? ⟨g,4,none⟩=some (.slice At T.length ct):=h.row.cell (i:=4) (by decide);have hh1:=fun W (hb:Below w.heap.size w W)=>zeS W At ct T l hT ((hrd.below hb).more hb.size);have hh2:=fun W (hb:Below w.heap.size w W)=>zeS W At ct T (-l) hT ((hrd.below hb).more hb.size);rw [decide_eq_false hi1] at hh1;rw [decide_eq_false hi2] at hh2;have hwr:IntKind.i64.wrap (-l) = -l:=by rw [IntKind.wrap_i64];omega
 have hlt:=h.row.lt;have hrow:=h.row;obtain ⟨i0,hi0,hz0,hz1,hz2⟩:=info_parts zd2;have htc:=fun W x4 u' hrow hb=>zgy W g N A c l.natAbs x2 x3 x4 u' hrow ((hN.below (hb:Below g w W)).more (Nat.le_of_lt (Nat.lt_of_lt_of_le hlt hb.size))) hv hlr.1 (by omega);have HVA:=za hva;have HVR:=za hvr;have HH1:=za hh1;have HH2:=za hh2;have HTC:=za htc;have HRW:=za hrow;have HOW:=za hown;have HTL:=za hT;clear hva hvr hh1 hh2 htc hrow hlv hlr hok hrd hown h hn hn2 hN hv hT hi1 hi2;obtain ⟨v0,hv0⟩:∃ v:Nat,l.natAbs=v:=⟨_,rfl⟩;rw [hv0] at HVR HTC ⊢;clear hv0;obtain ⟨m,ll⟩:=N;simp only at *
 obtain ⟨k,hk⟩:∃ k,T.length=k:=⟨_,rfl⟩;rw [hk] at m2 HH1 HH2;have HK:=za hk;clear hk;have hz:k=0→At=none→T.map (Value.int .i64)=[]:=fun h0 _=>by
  have:=HK.out;rw [h0] at this;rw [List.eq_nil_of_length_eq_zero this];rfl
 have HSH:=za hsh;have HZ:=za hz;clear hsh hz;go_enter Tryz.func23, Tryz.ntmps23;go_upto_region 5 with (first
  | (go_at_call 64;(with_reducible refine (HVA.out _).mono ?_);rintro e w1 ⟨rfl,rfl⟩)
  | (go_at_call 65;(with_reducible refine (HH1.out _ (zA _ _)).mono ?_);rintro e w2 ⟨rfl,hb⟩;have n2:w2.cell? ⟨g,4,none⟩=some (.slice At k ct):=zy hb m2 hlt;have HB2:=za hb;clear hb m1 m2 HVA)
  | (go_at_call 65;(with_reducible refine (HH2.out _ HB2.out).mono ?_);rintro e w3 ⟨rfl,hb⟩;have n3:w3.cell? ⟨g,4,none⟩=some (.slice At k ct):=(hb.cell (p:=⟨g,4,none⟩) (Nat.lt_of_lt_of_le hlt HB2.out.size)).trans n2;have HB3:=za (zu HB2.out hb HB2.out.size);clear hb n2))
 have own1:(w3.alloc (.cells #[] 3)).ownsRow w3.heap.size 3 1 (.slice (some ⟨w3.heap.size,0,none⟩) 0 0) 0 []:=zbO (f:=zE #[]) (zU w3 #[] 3 w3.heap.size 0 rfl rfl) (zi _) (Nat.zero_le _);have hB1:Below w3.heap.size w3 (w3.alloc (.cells #[] 3)):=(zA _ _).alloc (zi _) _;have hg3:g<w3.heap.size:=Nat.lt_of_lt_of_le hlt HB3.out.size;have hs3:=HB3.out.size;go_cut [] from 28 to 39 (fun wx=>w.grownBy wx (some g)∧Below g w wx∧∃ tv',RsAt wx g ⟨m,ll⟩ A c x2 x3 tv' (T++[l]) u∧∀ x,tv'.ownBlock=some x→w.heap.size≤x)
 case first =>
  have hend:∀ (w4 w5:World) (B4:Nat) (v4 v5:Value),Below w3.heap.size w3 w4→w3.heap.size≤B4→B4≤w5.heap.size→w4.ownsRow B4 3 1 v4 k (T.map (Value.int .i64))→(w4.alloc (.cells #[.int .i64 l] 3)).grownBy w5 v4.ownBlock→w5.ownsRow B4 3 1 v5 (k+1) (T.map (Value.int .i64)++[.int .i64 l]) →
    w.grownBy (w5.setCell ⟨g,4,none⟩ v5) (some g)∧Below g w (w5.setCell ⟨g,4,none⟩ v5)∧∃ tv',RsAt (w5.setCell ⟨g,4,none⟩ v5) g ⟨m,ll⟩ A c x2 x3 tv' (T++[l]) u∧∀ x,tv'.ownBlock=some x→w.heap.size≤x:=fun w4 w5 B4 v4 v5 h1 h2 h2' h3 h4 h5=>by
   have h6:Below w3.heap.size w3 w5:=(h1.alloc h1.size (.cells #[.int .i64 l] 3)).grown h4 (by simp;exact Nat.le_succ_of_le h1.size) (fun k' e=>Nat.le_trans h2 (h3.lt k' e).1);have h7:=zu HB3.out h6 HB3.out.size;have h8:=zaN (g:=g) (p:=⟨g,4,none⟩) (zey (World.grownBy.refl w (some g)) h7) (Or.inl rfl) v5;refine ⟨h8,(h7.mono (Nat.le_of_lt hlt)).setCell (zi _) _,v5,⟨zjS (zh HRW.out h7) v5,B4,Nat.lt_of_lt_of_le hg3 h2,by rw [zf];exact h2',?_⟩,fun x hx=>Nat.le_trans (Nat.le_trans HB3.out.size h2) (h5.lt x hx).1⟩;have h9:=ownsRow_setCell_other (a:=⟨g,4,none⟩) h5 (fun e=>by have:=(h5.lt g e).1;omega) v5;rw [List.map_append,List.length_append,HK.out];exact h9
  have HEND:=za hend;clear hend;rcases HSH.out with ⟨rfl,rfl,hTn⟩ | ⟨gt,rfl,hgt⟩
  ·subst hTn;obtain rfl:k=0:=HK.out.symm;have hk1:(0:Nat)≤1000000:=by decide
   have hk2:0+1≤maxLen:=by decide
   have hs4:=hB1.size;go_wp2_with (first
    | (at_builtin
       refine wpList_append_own_none rfl _ _ 52 rfl w3.heap.size 3 i0 1 Tryz.underlying52 hi0 _ _ _ rfl own1 rfl ?_;obtain ⟨w4,hw4⟩:∃ W,w3.alloc (.cells #[] 3)=W:=⟨_,rfl⟩;rw [hw4] at hB1 own1 hs4 ⊢;have hb4:=hB1;have hown4:=own1;have own5:=own1.alloc (.cells #[.int .i64 l] 3);clear own1 n3 hw4)
    | (at_builtin
       go_loud (refine wpList_append_own _ rfl _ _ 52 rfl w3.heap.size 3 i0 (.int .i64 0) 1 8 Tryz.underlying52 hi0 hz0 hz1 hz2 rfl (by decide) _ _ _ rfl own5 ⟨w4.heap.size,0,none⟩ 1 1 [.int .i64 l] rfl rfl qR zcL (by omega) (by omega) (by simp;omega) ?_)
       intro v5 w5 hown5 hgr5 _;obtain ⟨gq,cq,rfl⟩:=zjj hown5;have h6:Below w3.heap.size w3 w5:=(hb4.alloc hb4.size (.cells #[.int .i64 l] 3)).grown hgr5 (by simp;exact Nat.le_succ_of_le hb4.size) (fun k' e=>(hown4.lt k' e).1);have r5:=zh HRW.out (zu HB3.out h6 hs3);have c5:w5.cell? ⟨g,4,none⟩=_:=r5.cell (i:=4) (by decide);have f5:=r5.frozen 4;have hs5:=h6.size))
   go_meet;exact HEND.out w4 w5 w3.heap.size _ _ hb4 (zi _) hs5 hown4 hgr5 hown5
  ·have hnews:∀ (j:Nat) (u:Value),(T.map (Value.int .i64))[j]?=some u→(w3.alloc (.cells #[] 3)).cell? ((⟨gt,0,none⟩:Addr).add j)=some u:=(yp (yp HOW.out HB3.out) hB1).cells rfl;have hone:∀ u∈T.map (Value.int .i64),u.oneCell'=true:=fun u hu=>by
    obtain ⟨z,_,rfl⟩:=List.mem_map.1 hu;rfl
   have hlen:(T.map (Value.int .i64)).length=k*1:=by rw [List.length_map,HK.out,Nat.mul_one]
   have hk1:k≤1000000:=by rw [← HK.out];exact HTL.out
   have hk2:k+1≤maxLen:=Nat.le_trans (Nat.succ_le_succ hk1) (by decide);go_wp2_with (first
    | (at_builtin
       refine wpList_append_own _ rfl _ _ 52 rfl w3.heap.size 3 i0 (.int .i64 0) 1 8 Tryz.underlying52 hi0 hz0 hz1 hz2 rfl (by decide) _ _ _ rfl own1 ⟨gt,0,none⟩ k ct (T.map (Value.int .i64)) rfl hlen hnews hone (by omega) (by omega) (by simp) ?_;intro v4 w4 hown4 hgr4 _;have hb4:Below w3.heap.size w3 w4:=hB1.grown hgr4 (by simp) (fun k' e=>by
        have e2:w3.heap.size=k':=by injection e
        omega)
       rw [Nat.zero_add,List.nil_append] at hown4;have own5:=hown4.alloc (.cells #[.int .i64 l] 3);have hs4:=hb4.size;clear hnews hone hlen own1 n3)
    | (at_builtin
       go_loud (refine wpList_append_own _ rfl _ _ 52 rfl w3.heap.size 3 i0 (.int .i64 0) 1 8 Tryz.underlying52 hi0 hz0 hz1 hz2 rfl (by decide) _ _ _ rfl own5 ⟨w4.heap.size,0,none⟩ 1 1 [.int .i64 l] rfl rfl qR zcL (by omega) (by omega) (by simp;omega) ?_)
       intro v5 w5 hown5 hgr5 _;obtain ⟨gq,cq,rfl⟩:=zjj hown5;have h6:Below w3.heap.size w3 w5:=(hb4.alloc hb4.size (.cells #[.int .i64 l] 3)).grown hgr5 (by simp;exact Nat.le_succ_of_le hb4.size) (fun k' e=>(hown4.lt k' e).1);have r5:=zh HRW.out (zu HB3.out h6 hs3);have c5:w5.cell? ⟨g,4,none⟩=_:=r5.cell (i:=4) (by decide);have f5:=r5.frozen 4;have hs5:=h6.size))
   go_meet;exact HEND.out w4 w5 w3.heap.size v4 _ hb4 (zi _) hs5 hown4 hgr5 hown5
 case rest =>
 obtain ⟨hgr,hbg,tv',hr,hnw⟩:=hcut;obtain ⟨hrow2,htr2⟩:=hr;have HNW:=za hnw;have htch:=HTC.out _ _ _ hrow2 hbg;have HTH:=za htch;have HTR:=za htr2;have HGR:=za hgr;clear htch hrow2 hgr hbg own1 hB1 n3 htr2 hnw;go_wp2_with (first
  | (go_at_call 61;(with_reducible refine (HVR.out _).mono ?_);rintro e w7 ⟨rfl,rfl⟩)
  | (go_at_call 60;(with_reducible refine HTH.out.mono ?_);rintro e w8 ⟨rfl,hg8,hr8⟩))
 all_goals
  go_ret;refine ⟨rfl,HGR.out.trans hg8,tv',⟨hr8,?_⟩,HNW.out⟩;obtain ⟨B,h1,h2,h3⟩:=HTR.out;exact ⟨B,h1,Nat.le_trans h2 hg8.size,h3.kept hg8 (by
   cases hq:tv'.ownBlock with
   | none=>exact Or.inl rfl
   | some q=>exact Or.inr (fun e=>by
      injection e with e;have:=(h3.lt q hq).1;omega))⟩
theorem xW (w:World) (g:Nat) (N:Nt) (A:Option Addr) (c:Nat) (x2 x3 tv:Value) (u:Int) (h:RsAt w g N A c x2 x3 tv [] u) :
  Calls Tryz.prog 21 #[.pointer (some ⟨g,0,none⟩)] w fun e w'=>e = .returned (.int .i64 8)∧w=w':=by
 obtain ⟨B,hgB,hBw,hown⟩:=h.tr;obtain ⟨At,ct,rfl,_,_⟩:=zcw hown;have m2:w.cell? ⟨g,4,none⟩=some (.slice At 0 ct):=h.row.cell (i:=4) (by decide);clear h hown;go_enter Tryz.func21, Tryz.ntmps21;go_wp2_with fail
 go_ret;exact ⟨rfl,rfl⟩
theorem rpop_ok (w:World) (g:Nat) (N:Nt) (A:Option Addr) (c:Nat) (x2 x3 tv:Value) (T:List Int) (u x:Int) (h:RsAt w g N A c x2 x3 tv (T++[x]) u) (hN:NtAt w g A N.l) (hv:zC N=true) (hT:T.length≤1000000) (hx1:1≤x.natAbs) (hx2:x.natAbs≤128) :
  Calls Tryz.prog 21 #[.pointer (some ⟨g,0,none⟩)] w fun e w'=>e = .returned (.int .i64 0)∧w.grownBy w' (some g)∧∃ tv',RsAt w' g N A c x2 x3 tv' T (qY N x.natAbs:Nat)∧tv'.ownBlock=tv.ownBlock:=by
 have hvr:=fun W=>zeQ W x (by omega) (by omega);have hlv:zQ x=(x.natAbs:Int):=by
  rcases Int.lt_or_le x 0 with hz | hz
  ·have:=ze3 (v:=x.natAbs) hx1 hx2;exact (congrArg zQ (show x = -((x.natAbs:Nat):Int) by omega)).trans this
  ·have:=ze2 (v:=x.natAbs) hx1 hx2;exact (congrArg zQ (show x=((x.natAbs:Nat):Int) by omega)).trans this
 simp only [hlv] at hvr;have hlt:=h.row.lt;obtain ⟨B,hgB,hBw,hown⟩:=h.tr;obtain ⟨At,ct,rfl,hrd,_⟩:=zcw hown;have hcx:=fun gt (e:At=some ⟨gt,0,none⟩)=>(show gt<w.heap.size∧w.cell? ⟨gt,T.length,none⟩=some (.int .i64 x) from by
  subst e;obtain ⟨h1,h2⟩:=jZ hrd T.length (by simp);refine ⟨h1,h2.trans ?_⟩;unfold zJ;rw [List.getD_eq_getElem?_getD,List.getElem?_append_right (zi _),Nat.sub_self];rfl)
 rw [List.length_append] at hown;obtain ⟨gt,rfl,hct,hown2⟩:=zki hown;have m2:w.cell? ⟨g,4,none⟩=some (.slice (some ⟨gt,0,none⟩) (T.length+1) ct):=by
  have:=h.row.cell (i:=4) (by decide);rw [List.length_append] at this;exact this
 obtain ⟨hgtl,mx⟩:=hcx gt rfl;have htc:=zgy w g N A c x.natAbs x2 x3 _ u h.row (hN.more (Nat.le_of_lt hlt)) hv hx1 hx2;have HVR:=za hvr;have HTC:=za htc;have HOW:=za hown2;have hBg:B≤gt:=(hown2.lt gt rfl).1;clear hvr htc hlv hown hown2 h hN hv hcx hx1 hx2 hrd;obtain ⟨k,hk⟩:∃ k,T.length=k:=⟨_,rfl⟩;rw [hk] at m2 mx hct HOW hT;have HK:=za hk;clear hk;have hwr:IntKind.i64.wrap ((k:Int)+1-1)=(k:Int):=by rw [IntKind.wrap_i64];omega
 have i0:(0:Int)≤(k:Int):=by omega
 have i1:(k:Int)<(k:Int)+1:=by omega
 have i2:¬ ((k:Int)<0):=by omega
 have i3:(k:Int)≤(ct:Int):=by omega
 go_enter Tryz.func21, Tryz.ntmps21;go_wp2_with (first
  | (go_at_call 61;(with_reducible refine (HVR.out _).mono ?_);rintro e w7 ⟨rfl,rfl⟩)
  | (go_at_call 60
     (with_reducible refine HTC.out.mono ?_);rintro e w8 ⟨rfl,hg8,hr8⟩;have n2:w8.cell? ⟨g,4,none⟩=some (.slice (some ⟨gt,0,none⟩) (k+1) ct):=by
      have:=hr8.cell (i:=4) (by decide);rw [List.length_append,HK.out] at this;exact this
     have f2:=hr8.frozen 4;have HO8:=za (HOW.out.kept hg8 (Or.inr (fun (e:some gt=some g)=>by injection e with e;omega)));have HR8:=za hr8;have HG8:=za hg8;clear hg8 hr8 m2 mx))
 all_goals
  go_ret;refine ⟨rfl,zaN HG8.out (Or.inl rfl) _,_,⟨zjS HR8.out _,B,hgB,?_,?_⟩,rfl⟩
  ·rw [zf];exact Nat.le_trans hBw HG8.out.size
  ·rw [HK.out];exact ownsRow_setCell_other (a:=⟨g,4,none⟩) HO8.out (fun (e:some gt=some g)=>by injection e with e;omega) _
end Go.Proofs.YtoljkoifgnmbgaaGreatDoor
end
section
open Go Go.RowKit Cs
namespace Cs
def jh (N:Nt) (T:List Int) (l k:Int):Int:=if qi l N.n=true then (if l∈T∨-l∈T then k else (qY N l.natAbs:Nat)) else k
def popK (N:Nt) (T:List Int) (k:Int):Int:=match T.getLast? with
 | none=>k
 | some l=>(qY N l.natAbs:Nat)
theorem zit (N:Nt) (T:List Int) (l k:Int):popK N (T++[l]) k=(qY N l.natAbs:Nat):=by
 unfold popK;rw [List.getLast?_append];rfl
end Cs
namespace Go.Proofs.YtoljkoifgnmbgaaGreatDoor
theorem ownsSame {W W':World} {B:Nat} {t:TypeId} {m n:Nat} {v:Value} {xs:List Value} (h:W.ownsRow B t m v n xs) (hb:∀ x,v.ownBlock=some x→x<W.heap.size→W'.heap[x]?=W.heap[x]?):W'.ownsRow B t m v n xs:=by
 obtain ⟨h1,h2⟩:=h;refine ⟨h1,?_⟩;rcases h2 with ⟨hv,h0⟩ | ⟨b,cap,cur,hv,hb1,hc,hrest⟩
 ·exact Or.inl ⟨hv,h0⟩
 ·exact Or.inr ⟨b,cap,cur,hv,hb1,(hb b (by rw [hv];rfl) (Array.getElem?_eq_some_iff.1 hc).1).trans hc,hrest⟩
structure Tw (w:World) (E:Nat) (g:Sg) (N:Nt) (n:Nat) (lo hi:List Pr) (gr:Nat) (A:Option Addr) (c:Nat) (x2 x3:Value) (tv:Value) (T:List Int) (k:Int) (S:List Int) (u:Int) (W:World):Prop where
 lv:Lv w E g N n lo hi tv T k W
 rs:∃ tr,RsAt W gr N A c x2 x3 tr S u∧∀ x,tr.ownBlock=some x→x ∉ g.all tv
 gE:E≤gr
 gw:w.heap.size≤gr
 nm:gr ∉ g.all tv
section
variable {w W W':World} {E:Nat} {g:Sg} {N:Nt} {n:Nat} {lo hi:List Pr} {gr:Nat} {A:Option Addr} {c:Nat} {x2 x3:Value} {tv:Value} {T S:List Int} {k u:Int}
theorem Tw.below (h:Tw w E g N n lo hi gr A c x2 x3 tv T k S u W) (hb:Below W.heap.size W W'):Tw w E g N n lo hi gr A c x2 x3 tv T k S u W' :=
 ⟨h.lv.below hb,by obtain ⟨tr,h1,h2⟩:=h.rs;exact ⟨tr,h1.below hb,h2⟩,h.gE,h.gw,h.nm⟩
theorem Tw.start (h:Lv w E g N n lo hi tv T k W) (hb:Below W.heap.size W W') (hg:W.heap.size≤gr) (hr:W'.rowIs gr 104 6 (zE (rsA N A c x2 x3 (.slice none 0 0) u))):Tw w E g N n lo hi gr A c x2 x3 tv T k [] u W' :=
 ⟨h.below hb,⟨.slice none 0 0,⟨hr,gr+1,Nat.lt_succ_self _,hr.lt,World.ownsRow_nil _ _ _ _⟩,fun x hx=>by cases hx⟩,Nat.le_trans h.ses.eU hg,Nat.le_trans h.bl.size hg,fun hm=>absurd (h.allLt gr hm) (by omega)⟩
theorem Tw.own (h:Tw w E g N n lo hi gr A c x2 x3 tv T k S u W) {tv':Value} {T':List Int} {k':Int} (hl:Lv w E g N n lo hi tv' T' k' W') (kp:Keep (g.all tv) W W') (ht:tv'.ownBlock=tv.ownBlock∨∃ X,tv'.ownBlock=some X∧W.heap.size≤X):Tw w E g N n lo hi gr A c x2 x3 tv' T' k' S u W':=by
 obtain ⟨tr,⟨h1,B,h2,h3,h4⟩,h5⟩:=h.rs;have hn:∀ x,x<W.heap.size→x ∉ g.all tv→x ∉ g.all tv':=fun x hx hm hm2=>by
  rcases all_grow ht x hm2 with h6 | h6
  ·exact hm h6
  ·omega
 exact ⟨hl,⟨tr,⟨h1.of_block (kp.block gr h1.lt h.nm),B,h2,Nat.le_trans h3 kp.size,ownsSame h4 fun x hx hlt=>kp.block x hlt (h5 x hx)⟩,fun x hx=>hn x (h4.lt x hx).2 (h5 x hx)⟩,h.gE,h.gw,hn gr h1.lt h.nm⟩
theorem Tw.ref (h:Tw w E g N n lo hi gr A c x2 x3 tv T k S u W) (hg:W.grownBy W' (some gr)) {tr':Value} {S':List Int} {u':Int} (hr:RsAt W' gr N A c x2 x3 tr' S' u') (hn:∀ x,tr'.ownBlock=some x→x ∉ g.all tv):Tw w E g N n lo hi gr A c x2 x3 tv T k S' u' W' :=
 ⟨⟨SsAt.other h.lv.ses h.gE h.nm hg,h.lv.bl.grown hg h.lv.bl.size (fun j e=>by have:=h.gw;injection e with e;omega)⟩,⟨tr',hr,hn⟩,h.gE,h.gw,h.nm⟩
theorem Tw.push1 (h:Tw w E g N n lo hi gr A c x2 x3 tv T k S u W) (ok:SesOk N n lo hi T w.heap.size) (hT:Tab w) (l:Int) (h1 : -9223372036854775808≤l) (h2:l≤9223372036854775807) :
  Calls Tryz.prog 22 #[.pointer (some ⟨g.b,0,none⟩),.int .i64 l] W fun e w'=>e = .returned (.int .i64 (ji N.n T l))∧∃ tv',Tw w E g N n lo hi gr A c x2 x3 tv' (zhm N.n T l) (jh N T l k) S u w':=by
 have hlen:=ok.tk.len;have hn2:=yF ok.hv ok.hn;unfold ji zhm jh;by_cases hb:qi l N.n=true
 ·rw [if_pos hb,if_pos hb,if_pos hb];by_cases ht:l∈T∨-l∈T
  ·rw [if_pos ht,if_pos ht,if_pos ht];refine (zg4 l h1 h2 h.lv.ses ok.hv ok.hn hb (by omega) ht).mono ?_;rintro e w' ⟨rfl,hb9⟩;exact ⟨rfl,tv,h.below hb9⟩
  ·rw [if_neg ht,if_neg ht,if_neg ht];refine (gQ l h.lv.ses ok (hT.below h.lv.bl) (by omega) hb (fun h3=>ht (Or.inl h3)) (fun h3=>ht (Or.inr h3))).mono ?_;rintro e w' ⟨rfl,tv',q,kp,hx⟩;exact ⟨rfl,tv',h.own (h.lv.keepOf q kp) kp hx⟩
 ·rw [if_neg hb,if_neg hb,if_neg hb];refine (push_arg l h1 h2 h.lv.ses ok.hv (by simpa using hb)).mono ?_;rintro e w' ⟨rfl,rfl⟩;exact ⟨rfl,tv,h⟩
theorem Tw.pop1 (h:Tw w E g N n lo hi gr A c x2 x3 tv T k S u W) (ok:SesOk N n lo hi T w.heap.size) (hT:Tab w) :
  Calls Tryz.prog 20 #[.pointer (some ⟨g.b,0,none⟩)] W fun e w'=>e = .returned (.int .i64 (popE T))∧∃ tv',Tw w E g N n lo hi gr A c x2 x3 tv' T.dropLast (popK N T k) S u w':=by
 rcases List.eq_nil_or_concat T with rfl | ⟨R,l,rfl⟩
 ·refine (zke h.lv.ses ok.hv).mono ?_;rintro e w' ⟨rfl,rfl⟩;exact ⟨rfl,tv,h⟩
 ·rw [List.concat_eq_append] at h ok ⊢;rw [List.dropLast_concat,zit];refine (pop_ok l h.lv.ses ok (hT.below h.lv.bl)).mono ?_;rintro e w' ⟨rfl,tv',q,kp,hx⟩;exact ⟨by unfold popE;rw [if_neg (by simp)],tv',h.own (h.lv.keepOf q kp) kp (Or.inl hx)⟩
theorem Tw.push2 (h:Tw w E g N n lo hi gr A c x2 x3 tv T k S u W) (ok:SesOk N n lo hi S w.heap.size) (hN:NtAt w w.heap.size A N.l) (l:Int) (h1 : -9223372036854775808≤l) (h2:l≤9223372036854775807) :
  Calls Tryz.prog 23 #[.pointer (some ⟨gr,0,none⟩),.int .i64 l] W fun e w'=>e = .returned (.int .i64 (ji N.n S l))∧Tw w E g N n lo hi gr A c x2 x3 tv T k (zhm N.n S l) (jh N S l u) w':=by
 have hlen:=ok.tk.len;have hn2:=yF ok.hv ok.hn;obtain ⟨tr,hr,hn⟩:=h.rs;unfold ji zhm jh;by_cases hb:qi l N.n=true
 ·rw [if_pos hb,if_pos hb,if_pos hb];by_cases ht:l∈S∨-l∈S
  ·rw [if_pos ht,if_pos ht,if_pos ht];refine (zjd W gr N A c x2 x3 tr S u l hr (by omega) h1 h2 hb ok.hn hn2 ht).mono ?_;rintro e w' ⟨rfl,hb9⟩;exact ⟨rfl,h.below hb9⟩
  ·rw [if_neg ht,if_neg ht,if_neg ht];refine (rpush_ok W gr N A c x2 x3 tr S u l hr ((hN.below h.lv.bl).more h.gw) ok.hv (by omega) hb ok.hn hn2 (fun h3=>ht (Or.inl h3)) (fun h3=>ht (Or.inr h3))).mono ?_;rintro e w' ⟨rfl,hg,tr',hr',hx⟩;exact ⟨rfl,h.ref hg hr' fun x hx2 hm=>absurd (h.lv.allLt x hm) (by have:=hx x hx2;omega)⟩
 ·rw [if_neg hb,if_neg hb,if_neg hb];refine (rpush_no W gr N A c x2 x3 tr S u l hr h1 h2 (by simpa using hb)).mono ?_;rintro e w' ⟨rfl,rfl⟩;exact ⟨rfl,h⟩
theorem Tw.pop2 (h:Tw w E g N n lo hi gr A c x2 x3 tv T k S u W) (ok:SesOk N n lo hi S w.heap.size) (hN:NtAt w w.heap.size A N.l) :
  Calls Tryz.prog 21 #[.pointer (some ⟨gr,0,none⟩)] W fun e w'=>e = .returned (.int .i64 (popE S))∧Tw w E g N n lo hi gr A c x2 x3 tv T k S.dropLast (popK N S u) w':=by
 have hn2:=yF ok.hv ok.hn;obtain ⟨tr,hr,hn⟩:=h.rs;rcases List.eq_nil_or_concat S with rfl | ⟨R,l,rfl⟩
 ·refine (xW W gr N A c x2 x3 tr u hr).mono ?_;rintro e w' ⟨rfl,rfl⟩;exact ⟨rfl,h⟩
 ·rw [List.concat_eq_append] at h hr ok ⊢;rw [List.dropLast_concat,zit];have hl:=ok.tk.rng l (by simp);have hlen:=ok.tk.len;rw [List.length_append] at hlen;refine (rpop_ok W gr N A c x2 x3 tr R u l hr ((hN.below h.lv.bl).more h.gw) ok.hv (by omega) hl.1 (by omega)).mono ?_;rintro e w' ⟨rfl,hg,tr',hr',hx⟩;exact ⟨by unfold popE;rw [if_neg (by simp)],h.ref hg hr' fun x hx2=>hn x (by rw [← hx];exact hx2)⟩
end
end Go.Proofs.YtoljkoifgnmbgaaGreatDoor
end
section
open Go Go.RowKit Cs
namespace Cs
section
variable {α:Type} {R:Rg α}
def zln (R:Rg α) (m:Nat→α):Nat→α
 | 0=>R.one
 | k+1=>R.mul (zln R m k) (m (k+1))
theorem mul_swap (C:CR R) (a b c d:α):R.mul (R.mul a b) (R.mul c d)=R.mul (R.mul a c) (R.mul b d):=by
 rw [← C.mula,← C.mula,C.mula a b c,C.mulc b c,← C.mula a c b]
theorem zgp (C:CR R) (W W':Int→α) (m:Nat→α) (s:Nat):∀ n:Nat,(∀ v:Nat,1≤v→v≤n→W' (v:Int)=R.mul (m v) (W (v:Int))∧W' (-(v:Int))=R.mul (m v) (W (-(v:Int))))→R.term W' n s=R.mul (zln R m n) (R.term W n s)
 | 0,_=>by
   show R.one=R.mul R.one R.one;rw [C.omul]
 | k+1,h=>by
   have h1:=h (k+1) (by omega) (zi _);have ih:=zgp C W W' m s k fun v a b=>h v a (by omega);show R.mul (R.term W' k s) _=R.mul (R.mul (zln R m k) (m (k+1))) (R.mul (R.term W k s) _);rw [mul_swap C,← ih];congr 1;rw [Int.natCast_succ] at h1;split
   ·exact h1.1
   ·exact h1.2
theorem xL (C:CR R) {N:Nt} (hv:zC N=true) (hd:qv N=true) (W W':Int→α) (m:Nat→α) (n:Nat) (hn:N.n=(n:Int))
  (h:∀ v:Nat,1≤v→v≤n→W' (v:Int)=R.mul (m v) (W (v:Int))∧W' (-(v:Int))=R.mul (m v) (W (-(v:Int)))) :
  (R.wit W').sum N=R.mul (zln R m n) ((R.wit W).sum N):=by
 rw [expand C hv hd W' n hn,expand C hv hd W n hn,← zhY C];refine zbR _ _ _ fun s _=>?_;rw [zgp C W W' m s n h,C.mula]
end
end Cs
end
section
open Go Go.RowKit
namespace Go
section
variable {P:Program} (w:World)
theorem ziI (base:Nat) (t ty e:TypeId) (i:TypeInfo) (z:Value) (ht:P.underlying t=some (.slice e)) (hi:P.info? e=some i) (hz:i.zero=some z) (hzs:z.cells.size=i.size) (hsz:0<i.size)
  (v:Value) (n:Nat) (xs:List Value) (hown:w.ownsRow base e i.size v n xs)
  (a:Addr) (m c:Nat) (news:List Value) (hl:news.length=m*i.size) (hnews:∀ j u,news[j]?=some u→w.cell? (a.add j)=some u) (h1:∀ u∈news,u.oneCell'=true)
  (h63:n+m≤maxLen) (hbytes:(n+m)*i.bytes≤140737488355328) {v':Value} {w':World} (hr:(Builtin.append_ #[t,t] ty #[v,.slice (some a) m c]).run P w = .ok v' w') :
  v'.ownBlock=v.ownBlock∨v'.ownBlock=some w.heap.size:=by
 have hsmall:n+m≤9223372036854775807:=by simp only [maxLen] at h63;omega
 have same:∀ {x:Value} {y:World},(Builtin.append_ #[t,t] ty #[v,.slice (some a) m c]).run P w = .ok x y→v'=x:=fun h=>by rw [hr] at h;injection h
 rcases hown.2 with ⟨rfl,rfl⟩ | ⟨g,cap,cur,rfl,hbg,hg,hnc,hcm,hcs,htake⟩
 ·by_cases hm:m=0
  ·subst hm;have hn:news=[]:=List.eq_nil_of_length_eq_zero (by simpa using hl);have:(Builtin.append_ #[t,t] ty #[.slice none 0 0,.slice (some a) 0 c]).run P w = .ok (.slice none 0 0) w:=by
    simp [Builtin.append_,run_underlying ht,sizeOf,typeInfo,hi,Builtin.lenOf,Builtin.firstCells,loadCells,loadCellsFrom]
   rw [same this];exact .inl rfl
  ·have h2:=run_append_nil (P:=P) w t ty e i z ht hi hz a m c news hl hnews (by omega) (by omega) (by have hb:=hbytes;simp only [Nat.zero_add] at hb;omega);rw [same h2];exact .inr rfl
 ·by_cases hroom:n+m≤cap
  ·have hfit:n*i.size+news.length≤cur.size:=by rw [hl,hcs,← Nat.add_mul];exact Nat.mul_le_mul_right _ hroom
   have h2:=run_append_room (P:=P) w t ty e i ht hi g n cap cur hg a m c news hl hnews h1 hroom hfit;rw [same h2];exact .inl rfl
  ·have holds:∀ j u,xs[j]?=some u→w.cell? ((⟨g,0,none⟩:Addr).add j)=some u:=hown.cells (g:=g) rfl;have h2:=run_append_grow (P:=P) w t ty e i z ht hi hz ⟨g,0,none⟩ n cap xs hown.1 holds a m c news hl hnews (by omega) (by omega) (growslice_fits (by omega) hbytes);rw [same h2];exact .inr rfl
theorem zbY {ops:Array Oper} {rest:List Oper} {o:Oper} {a:Act} {Q:Exit→Act→World→Prop} (hgd:o.guard=none) (s x:Operand) (t:TypeId)
  (ho:o.op = .call { callee:=.builtin .append,args:=#[s,x],argTypes:=#[t,t] })
  (base:Nat) (e:TypeId) (i:TypeInfo) (z:Value) (size bytes:Nat) (ht:P.underlying t=some (.slice e)) (hi:P.info? e=some i) (hz:i.zero=some z)
  (hsize:i.size=size) (hby:i.bytes=bytes) (hzs:z.cells.size=size) (hsz:0<size)
  (v:Value) (n:Nat) (xs:List Value) (hs:a.eval s=v) (hown:w.ownsRow base e size v n xs)
  (ad:Addr) (m c:Nat) (news:List Value) (hx:a.eval x = .slice (some ad) m c) (hl:news.length=m*size) (hnews:∀ j u,news[j]?=some u→w.cell? (ad.add j)=some u) (h1:∀ u∈news,u.oneCell'=true)
  (h63:n+m≤maxLen) (hbytes:(n+m)*bytes≤140737488355328) (hbase:base≤w.heap.size)
  (h:∀ v' w',w'.ownsRow base e size v' (n+m) (xs++news)→w.grownBy w' v.ownBlock→(v'.ownBlock=v.ownBlock∨v'.ownBlock=some w.heap.size)→wpList P ops Q rest (a.put o.dst v') w'):wpList P ops Q (o::rest) a w :=
 wpList_plain hgd fun _ hK=>by
  obtain ⟨v',w',hr,h2,h3,_⟩:=run_append_own (P:=P) w base t o.type e i z size bytes ht hi hz hsize hby hzs hsz v n xs hown ad m c news hl hnews h1 h63 hbytes hbase;subst hsize;subst hby
  have h4:=ziI (P:=P) w base t o.type e i z ht hi hz hzs hsz v n xs hown ad m c news hl hnews h1 h63 hbytes hr;unfold Oper.wp execOp;simp only [ho,resolve,invoke,builtin,Sem.run_bind,Sem.run_pure,Result.andThen_ok,List.map_toArray,List.map_cons,List.map_nil,hs,hx,hr];exact hK _ _ (h v' w' h2 h3 h4)
end
end Go
end
