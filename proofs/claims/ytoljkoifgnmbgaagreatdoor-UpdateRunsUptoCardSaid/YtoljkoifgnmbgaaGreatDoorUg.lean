import Derived.Test.YtoljkoifgnmbgaaGreatDoorUi
import Derived.Test.YtoljkoifgnmbgaaGreatDoorAo
import Derived.Test.YtoljkoifgnmbgaaGreatDoorUh
import Derived.OwnWalk
set_option linter.unusedSimpArgs false
set_option linter.unusedVariables false
section
set_option maxRecDepth 100000
set_option maxHeartbeats 4000000
open Go Go.RowKit Cs
namespace Go.Proofs.YtoljkoifgnmbgaaGreatDoor
section
variable {w w0 W:World} {E:Nat} {g:Sg} {N:Nt} {n:Nat} {la lh:List ByteArray} {gr:Nat} {A Al Ah:Option Addr} {c cl ch:Nat} {tv:Value} {T:List Int} {k:Int}
theorem same_any (h:Tw w E g N n (prL la) (prL lh) gr A c (.slice Al la.length cl) (.slice Ah lh.length ch) tv T k T k W) (ok:SesOk N n (prL la) (prL lh) T w.heap.size) (hT:Tab w) (hN:NtAt w w.heap.size A N.l) (hk:qz N=0) (hn20:n≤20)
  (hL:Rd w w.heap.size Al la.length (qW la)) (hH:Rd w w.heap.size Ah lh.length (qW lh)) (o1:qx la la.length) (o2:qx lh lh.length) (e1:la.length=n+1) (e2:lh.length=n+1) :
  Calls Tryz.prog 19 #[.pointer (some ⟨g.b,0,none⟩),.pointer (some ⟨gr,0,none⟩)] W fun e w'=>e = .returned (.bool true)∧Below W.heap.size W w':=by
 rw [e1] at h hL;rw [e2] at h hH;have hrng:=fun l hl=>ok.tk.rng l hl;have hlen:T.length≤1000000:=by have:=ok.tk.len;have:=yF ok.hv ok.hn;omega
 obtain ⟨tr,hr,_⟩:=h.rs;obtain ⟨Bt,hgB,hBw,hown⟩:=hr.tr;obtain ⟨At,ct,rfl,hrd,_⟩:=zcw hown;have hbw:∀ V,Below W.heap.size W V→Below w.heap.size w V:=fun V hb=>zu h.lv.bl hb h.lv.bl.size;have hco:=fun V (hb:Below W.heap.size W V)=>zlh V gr N A c n _ _ _ T k (hr.below hb) ((hN.below (hbw V hb)).more (hbw V hb).size) hk ok.hn hn20 hrng hlen;have hwe:=fun V (hb:Below W.heap.size W V)=>zjc V gr N A Al Ah c cl ch n _ T k la lh (hr.below hb) ((hN.below (hbw V hb)).more (hbw V hb).size) hk ok.hn hn20 hrng hlen ((hL.below (hbw V hb)).more (hbw V hb).size) ((hH.below (hbw V hb)).more (hbw V hb).size) o1 o2 e1 e2 (ok.wok T) (zgx ok);have hsh:=fun V (hb:Below W.heap.size W V)=>(h.lv.below hb).shows ok hT _ _ k rfl rfl rfl;have hte:∀ V,Below W.heap.size W V→Calls Tryz.prog 26 #[.pointer (some ⟨g.b,0,none⟩)] V fun e w'=>∃ A4 c4,e = .returned (.slice A4 T.length c4)∧Rd w' w'.heap.size A4 T.length (zJ T)∧Below V.heap.size V w':=fun V hb =>
  (term_at (h.lv.below hb).ses ok.hv hlen).mono fun e w' ⟨A4,c4,he,hr4,hb4⟩=>⟨A4,c4,he,hr4.rd,hb4⟩
 have hsa:=fun V A4 c4 (hb:Below W.heap.size W V) (h4:Rd V V.heap.size A4 T.length (zJ T))=>rsame_eq V A4 At c4 ct T hlen h4 ((hrd.below hb).more hb.size);have hce:∀ V,Below W.heap.size W V→V.cell? ⟨gr,5,none⟩=some (.int .i64 k)∧V.cell? ⟨gr,4,none⟩=some (.slice At T.length ct):=fun V hb=>⟨(zh hr.row hb).cell (i:=5) (by decide),(zh hr.row hb).cell (i:=4) (by decide)⟩;generalize zj (yq N n T)=s1 at *
 generalize Go.Proofs.YtoljkoifgnmbgaaGreatDoor.ptext (yw N n (prL la) (prL lh) T).1 (yw N n (prL la) (prL lh) T).2=s2 at *
 obtain ⟨m,hm⟩:∃ m,T.length=m:=⟨_,rfl⟩;simp only [hm] at hte hsa hce;have HCO:=za hco;have HWE:=za hwe;have HSH:=za hsh;have HTE:=za hte;have HSA:=za hsa;have HCE:=za hce;clear hco hwe hsh hte hsa hce hrng hlen hr hown hrd hbw h hm ok hT hN hk hL hH o1 o2 e1 e2;have b0:Hid (Below W.heap.size W W.drew):=za (qw (zA _ _) 1);obtain ⟨c1,c2⟩:=HCE.out _ b0.out;go_enter Tryz.func19, Tryz.ntmps19;go_wp2_with fail
 go_region_held3 (fun w'=>w'.cell? ⟨gr,5,none⟩=some (.int .i64 k)∧w'.cell? ⟨gr,4,none⟩=some (.slice At m ct)) (first | exact ⟨c1,c2⟩ | go_keep)
  (first
    | (go_simp
       go_at_call 55;(with_reducible refine (HCO.out _ b0.out).mono ?_);rintro e w1 ⟨rfl,hb⟩;have b1:=za (zu b0.out hb b0.out.size);clear hb c1 c2 b0;obtain ⟨c1,c2⟩:=HCE.out _ b1.out)
    | (go_simp
       go_at_call 56;(with_reducible refine (HWE.out _ b1.out).mono ?_);rintro e w2 ⟨rfl,hb⟩;have b2:=za (zu b1.out hb b1.out.size);clear hb c1 c2 b1;obtain ⟨c1,c2⟩:=HCE.out _ b2.out)
    | (go_simp
       go_at_call 29;(with_reducible refine (HSH.out _ b2.out).mono ?_);rintro e w3 ⟨rfl,hb⟩;have b3:=za (zu b2.out hb b2.out.size);clear hb c1 c2 b2;obtain ⟨c1,c2⟩:=HCE.out _ b3.out)
    | (go_simp
       go_at_call 26;(with_reducible refine (HTE.out _ b3.out).mono ?_);rintro e w4 ⟨A4,c4,rfl,h4,hb⟩;have b4:=za (zu b3.out hb b3.out.size);have H4:=za h4;clear hb c1 c2 b3 h4;obtain ⟨c1,c2⟩:=HCE.out _ b4.out)
    | (go_simp
       go_at_call 57;(with_reducible refine (HSA.out _ _ _ b4.out H4.out).mono ?_);rintro e w5 ⟨rfl,hb⟩;have b5:=za (zu b4.out hb b4.out.size);clear hb c1 c2 b4;obtain ⟨c1,c2⟩:=HCE.out _ b5.out))
 all_goals
  try go_wp2
  go_ret;exact ⟨rfl,b5.out⟩
def StaR (w:World) (N:Nt) (A Al Ah:Option Addr) (c cl ch:Nat) (la lh:List ByteArray) (e:Ending) (w':World):Prop :=
 Below w.heap.size w w' ∧
 ((xm N la lh∧∃ g E gr w0,e = .returned (.tuple #[.pointer (some ⟨g.b,0,none⟩),.pointer (some ⟨gr,0,none⟩),.bool true])∧Below w.heap.size w w0∧Tw w0 E g N N.n.toNat (prL la) (prL lh) gr A c (.slice Al la.length cl) (.slice Ah lh.length ch) (.slice none 0 0) [] 0 [] 0 w') ∨
  (¬ xm N la lh∧e = .returned (.tuple #[.pointer none,.pointer none,.bool true])))
theorem zja (w:World) (N:Nt) (A:Option Addr) (c cl ch:Nat) (la lh:List ByteArray) (Al Ah:Option Addr) (hlen:N.l.length≤140737488355328) (hN:NtAt w w.heap.size A N.l) (hT:Tab w)
  (hin:∀ k (hk:k<N.l.length),N.l[k].ins.length≤1000000) (hl1:la.length≤1000000000000) (hl2:lh.length≤1000000000000)
  (hA:Rd w w.heap.size Al la.length (qW la)) (hB:Rd w w.heap.size Ah lh.length (qW lh)) (hs1:∀ i,(la.getD i ⟨#[]⟩).size≤maxLen) (hs2:∀ i,(lh.getD i ⟨#[]⟩).size≤maxLen) :
  Calls Tryz.prog 18 #[ql N A c,.slice Al la.length cl,.slice Ah lh.length ch] w (StaR w N A Al Ah c cl ch la lh):=by
 have o0:=za (oneNew w N A c hN);have hb0:=o0.out.bl;have hws:=zfp _ la lh Al Ah cl ch hl1 hl2 ((hA.below hb0).more hb0.size) ((hB.below hb0).more hb0.size) hs1 hs2;have hnw:∀ W (c' cl' ch':Nat) (Bl Bh:Option Addr),Below w.heap.size w W→NtAt W W.heap.size A N.l→qx la la.length∧qx lh lh.length→la.length≤140∧lh.length≤140→_→_→_→_→Calls Tryz.prog 15 #[ql N A c',jM Bl Bh la.length lh.length cl' ch'] W fun e w'=>Below W.heap.size W w'∧∃ p R,e = .returned (.tuple #[p,.int .i64 R])∧R=ju N (prL la) (prL lh) ∧
   ((xm N la lh∧R=0∧∃ g E,p = .pointer (some ⟨g.b,0,none⟩)∧Lv W E g N N.n.toNat (prL la) (prL lh) (.slice none 0 0) [] 0 w')∨(¬ xm N la lh∧R≠0∧p = .pointer none)) :=
  fun W c' cl' ch' Bl Bh hb hN h h2 h3 h4 h5 h6 =>
  (unew_any W N A c' cl' ch' la lh Bl Bh hlen hN (hT.below hb) hin h.1 h.2 h2.1 h2.2 h3 h4 h5 h6).mono fun e w' ⟨hb2,h7⟩=>by
   refine ⟨hb2,?_⟩;rcases h7 with ⟨hac,g,E,rfl,hy⟩ | ⟨hac,R,hR,hR0,rfl⟩
   ·exact ⟨_,_,rfl,hac.2.2.symm,Or.inl ⟨hac,rfl,g,E,rfl,hy.lv⟩⟩
   ·exact ⟨_,_,rfl,hR,Or.inr ⟨hac,hR0,rfl⟩⟩
 have hrn:=fun W (hb:Below w.heap.size w W) (hN:NtAt W W.heap.size A N.l) (h:qx la la.length∧qx lh lh.length)=>rnew_any W N A Al Ah c cl ch la lh hlen hN h.1 h.2 ((hA.below hb).more hb.size) ((hB.below hb).more hb.size);obtain ⟨Q,hQ⟩:∃ Q,ju N (prL la) (prL lh)=Q:=⟨_,rfl⟩;simp only [hQ] at hnw hrn;have HWS:=za hws;have HNW:=za hnw;have HRN:=za hrn;obtain ⟨m1,m2⟩:=o0.out.cells;clear hb0 hws hnw hrn hT hN hA hB hs1 hs2 hl1 hl2 hin hlen hQ;obtain ⟨ll,hll⟩:∃ n,la.length=n:=⟨_,rfl⟩;obtain ⟨l2,hl2⟩:∃ n,lh.length=n:=⟨_,rfl⟩;rw [hll,hl2] at HWS ⊢;go_enter Tryz.func18, Tryz.ntmps18;go_upto_region 1 with (fail)
 go_cut [9,10] from 15 to 20 (fun p x wx=>∃ (Bl Bh:Option Addr) (m k cm ck gw:Nat) (b:Bool),p = .pointer (some ⟨gw,0,none⟩)∧x = .bool b∧OneAt w N A c w.heap.size wx∧wx.rowIs gw 30 2 (zE #[.slice Bl m cm,.slice Bh k ck]) ∧
  (b=true→(qx la la.length∧qx lh lh.length)∧(la.length≤140∧lh.length≤140)∧m=la.length∧k=lh.length∧la.length≤cm∧lh.length≤ck∧Rd wx wx.heap.size Bl (la.length*2) (zT (prL la))∧Rd wx wx.heap.size Bh (lh.length*2) (zT (prL lh)))∧(b=false→∀ N,¬ xm N la lh))
 case first =>
  go_wp2_with fail
  refine HWS.out.mono ?_;rintro e w1 hr;obtain ⟨hb,Bl,Bh,m,k,cm,ck,b,rfl,hbt,hbf⟩:=hr.any;have hb2:=(Below.refl w1.heap.size w1).alloc (zi _) (.cells #[.slice Bl m cm,.slice Bh k ck] 30);have o1:=(o0.out.below hb).below hb2;have r1:=zU w1 #[.slice Bl m cm,.slice Bh k ck] 30 _ 2 rfl rfl;have hbt2:b=true→_:=fun h=>by
   obtain ⟨a1,a2,a3,a4,a5,a6,a7,a8⟩:=hbt h;exact And.intro a1 (And.intro a2 (And.intro a3 (And.intro a4 (And.intro a5 (And.intro a6 (And.intro ((a7.below hb2).more hb2.size) ((a8.below hb2).more hb2.size)))))))
  clear hr hbt HWS hb;go_wp2_with fail
  go_meet;exact ⟨Bl,Bh,m,k,cm,ck,_,b,rfl,rfl,o1,r1,hbt2,hbf⟩
 case rest =>
 obtain ⟨Bl,Bh,m,k,cm,ck,gw,b,rfl,rfl,o1,r1,hbt,hbf⟩:=hcut;have hbt0:=o1.bl;cases b
 ·have hno:=hbf rfl N;clear hbt hbf r1 HWS HNW o1;go_wp2_with fail
  go_ret3;exact ⟨hbt0,Or.inr ⟨hno,rfl⟩⟩
 ·obtain ⟨h1,h2,rfl,rfl,h3,h4,h5,h6⟩:=hbt rfl;have HN2:=za (HNW.out wc c cm ck Bl Bh o1.bl o1.nt h1 h2 h5 h6 h3 h4);obtain ⟨q1,q2⟩:=o1.cells;have q3:wc.cell? ⟨gw,0,none⟩=some (.slice Bl la.length cm):=r1.cell (i:=0) (by decide);have q4:wc.cell? ⟨gw,1,none⟩=some (.slice Bh lh.length ck):=r1.cell (i:=1) (by decide);have HB0:=za hbt0;have HOK:=za h1;have HO1:=za o1;clear hbt hbf r1 HWS HNW o1 h1 h2 h3 h4 h5 h6 m1 m2 o0;rw [hll] at q3 HN2 HRN HOK;rw [hl2] at q4 HN2 HRN HOK;go_upto_region 5 with (go_at_call 15;(with_reducible refine HN2.out.mono ?_);rintro e w2 ⟨hb,p,R,rfl,hRQ,hp⟩)
  obtain rfl:Q=R:=hRQ.symm;have o2:=za (HO1.out.below hb);obtain ⟨n1,n2⟩:=o2.out.cells;have HR:=za (HRN.out w2 o2.out.bl o2.out.nt HOK.out);have HB2:=za (zu HB0.out hb HB0.out.size);clear HN2 q1 q2 q3 q4 HO1 HRN hRQ;rcases hp with ⟨hac,hR0,g,E,rfl,hy⟩ | ⟨hac,hR0,rfl⟩
  ·have HAC:=za hac;have HY:=za hy;have HR0:=za hR0;clear hy hb hac hR0;go_wp2_with (
    go_at_call 16;(with_reducible refine HR.out.mono ?_);rintro e w3 ⟨hb3,p2,R2,rfl,hR2,hp2⟩;obtain rfl:Q=R2:=hR2.symm;obtain ⟨hz,gr,rfl,hgr,hrow⟩:Q=0∧_:=hp2.resolve_right fun hh=>hh.1 HR0.out;have HW:=za hrow;have HG:=za hgr;have HB3:=za hb3;clear hrow hgr hb3 hp2 hR2 hz)
   go_ret3;refine ⟨zu HB2.out HB3.out HB2.out.size,Or.inl ⟨HAC.out,g,E,gr,wc,?_,HB0.out,?_⟩⟩
   ·simp
   ·rw [hll,hl2];exact Tw.start HY.out HB3.out HG.out HW.out
  ·have HAC:=za hac;have HR0:=za hR0;clear hb hac hR0;go_wp2_with (
    go_at_call 16;(with_reducible refine HR.out.mono ?_);rintro e w3 ⟨hb3,p2,R2,rfl,hR2,hp2⟩;obtain rfl:Q=R2:=hR2.symm;obtain ⟨_,rfl⟩:Q≠0∧_:=hp2.resolve_left fun hh=>HR0.out hh.1;have HB3:=za hb3;clear hb3 hp2 hR2)
   go_ret3;refine ⟨zu HB2.out HB3.out HB2.out.size,Or.inr ⟨HAC.out,?_⟩⟩;simp
end
end Go.Proofs.YtoljkoifgnmbgaaGreatDoor
end
section
set_option maxRecDepth 100000
set_option maxHeartbeats 8000000
open Go Go.RowKit Cs
namespace Go.Proofs.YtoljkoifgnmbgaaGreatDoor
theorem fewU_n {N:Nt} {l:Nat} (hf:yK N l=true) (hv:zC N=true):N.n≤20:=by
 obtain ⟨_,h1,_,_⟩:=qD hv;unfold yK at hf;simp only [Bool.and_eq_true,Bool.or_eq_true,decide_eq_true_eq] at hf;omega
section
variable {N:Nt} {A Al Ah AL:Option Addr} {lo hi:List ByteArray} {L:List Int}
theorem zkZ {W:World} (c cl ch:Nat) (h:ActIn N A lo hi Al Ah AL L W) (hc:ActC N lo hi L) (hin:∀ k (hk:k<N.l.length),N.l[k].ins.length≤1000000) :
  Calls Tryz.prog 18 #[ql N A c,.slice Al lo.length cl,.slice Ah hi.length ch] W (StaR W N A Al Ah c cl ch lo hi) :=
 zja W N A c cl ch lo hi Al Ah hc.hlen h.nt h.tb hin hc.hl1 hc.hl2 h.l1 h.l2 hc.hs1 hc.hs2
theorem xD (w:World) (c cl ch cL:Nat) (h:ActIn N A lo hi Al Ah AL L w) (hc:ActC N lo hi L) :
  Calls Tryz.prog 4 #[ql N A c,.slice Al lo.length cl,.slice Ah hi.length ch,.slice AL L.length cL] w fun e w'=>e = .returned (.bool true)∧Below w.heap.size w w':=by
 have hfw:=fun W hN=>fewU_any W N A AL c L.length cL hc.hlen hN;have o0:=za (oneNew w N A c h.nt);obtain ⟨m1,m2⟩:=o0.out.cells;have HT:=za h.tb;have HI:=za (h.below o0.out.bl);obtain ⟨F,hF⟩:∃ F,yK N L.length=F:=⟨_,rfl⟩;rw [hF] at hfw;have HFW:=za hfw;cases F
 ·clear hfw hF h hc;go_enter Tryz.func4, Tryz.ntmps4;go_wp2_with (first
   | (go_at_call 17;(with_reducible refine (HFW.out _ o0.out.nt).mono ?_);rintro e w1 ⟨rfl,hb⟩;have o1:=za (o0.out.below hb);clear hb m1 m2 o0)
   | (go_at_call 13;(with_reducible refine (zfn _ (HT.out.below o1.out.bl)).mono ?_);rintro e w2 ⟨rfl,hb⟩;have o2:=za (o1.out.below hb);clear hb o1))
  all_goals
   go_ret;exact ⟨rfl,o2.out.bl⟩
 ·have hin:=fewU_ins hF;have hll:=fewU_len hF;have hst:=fun W (hi':ActIn N A lo hi Al Ah AL L W)=>zkZ c cl ch hi' hc hin;have HST:=za hst;by_cases hok:xm N lo hi
  ·have hy:=fun (e:Ending) (W W':World) (hr:StaR W N A Al Ah c cl ch lo hi e W')=>hr.2.resolve_right fun hh=>hh.1 hok;have hb':=fun (e:Ending) (W W':World) (hr:StaR W N A Al Ah c cl ch lo hi e W')=>hr.1;obtain ⟨n,hn,e1,e2,ok0⟩:=zfl (D:=1+1) hok (Nat.lt_succ_self _);have hnn:N.n.toNat=n:=by omega
   have hat:∀ D, 1<D→∀ T,TOk N.n.toNat T→SesOk N N.n.toNat (prL lo) (prL hi) T D:=fun D hD T ht=>acOk_at hok hD ht;have htk:=fun k=>acOk_tk hok (L.take k);have hk0:qz N=0:=by
    have h3:=hok.2.2;unfold ju at h3;split at h3
    ·split at h3
     ·assumption
     ·exact h3
    ·exact absurd h3 (by decide)
   have hn20:=fewU_n hF ok0.hv;have hsm:=fun (w0 W:World) E g gr tv k j (h0:Below w.heap.size w w0) (ht:Tw w0 E g N N.n.toNat (prL lo) (prL hi) gr A c (.slice Al lo.length cl) (.slice Ah hi.length ch) tv (yC N.n (L.take j)) k (yC N.n (L.take j)) k W) =>
    same_any ht (hat _ (HT.out.below h0).lt _ (htk j)) (HT.out.below h0) ((h.nt.below h0).more h0.size) hk0 (by omega) ((h.l1.below h0).more h0.size) ((h.l2.below h0).more h0.size) hok.1.1 hok.1.2 (by omega) (by omega)
   have hs0:=fun (w0 W:World) E g gr tv k (h0:Below w.heap.size w w0) (ht:Tw w0 E g N N.n.toNat (prL lo) (prL hi) gr A c (.slice Al lo.length cl) (.slice Ah hi.length ch) tv [] k [] k W)=>hsm w0 W E g gr tv k 0 h0 ht;have HS0:=za hs0;have hsu:=fun k hk=>zl4 N.n L k hk;have hLr:=hc.hLr;have HB:=za hb';have HY:=za hy;have HAT:=za hat;have HTK:=za htk;have HSM:=za hsm;have HSU:=za hsu;have HLR:=za hLr;have HLL:=za h.al;have HNT:=za h.nt;clear hfw hF h hc hin hst hok hy hb' hn e1 e2 ok0 hnn hat htk hk0 hn20 hsm hs0 hsu hLr;go_enter Tryz.func4, Tryz.ntmps4;go_wp2_with (first
    | (go_at_call 17;(with_reducible refine (HFW.out _ o0.out.nt).mono ?_);rintro e w1 ⟨rfl,hb⟩;have o1:=za (o0.out.below hb);have i1:=za (HI.out.below hb);obtain ⟨n1,n2⟩:=o1.out.cells;clear hb m1 m2 o0 HI)
    | (go_at_call 18;(with_reducible refine (HST.out _ i1.out).mono ?_);rintro e w2 hr;have hb:=HB.out _ _ _ hr;obtain ⟨_,g,E,gr,v0,rfl,hv0,t0⟩:=HY.out _ _ _ hr;have T0:=za t0;have HV0:=za (zu o1.out.bl hv0 o1.out.bl.size);clear hb hr n1 n2 o1 i1 hv0 t0)
    | (go_at_call 19;(with_reducible refine (HS0.out v0 _ E g gr _ _ HV0.out T0.out).mono ?_);rintro e w3 ⟨rfl,hb⟩;have T1:=za (T0.out.below hb);clear hb T0))
   go_loopw [12] (fun t wr=>∃ k:Nat,k≤L.length∧t = .int .i64 (k:Int)∧∃ tv kk,Tw v0 E g N N.n.toNat (prL lo) (prL hi) gr A c (.slice Al lo.length cl) (.slice Ah hi.length ch) tv (yC N.n (L.take k)) kk (yC N.n (L.take k)) kk wr) (fun t _=>L.length-(intOf t).toNat)
   case atStart=>exact ⟨0,Nat.zero_le _,rfl,_,_,T1.out⟩
   case round =>
    obtain ⟨k,hk,rfl,tv,kk,ht⟩:=hrel;have hbw:=zu HV0.out ht.lv.bl HV0.out.size;have HBW:=za hbw;by_cases hlt:k<L.length
    ·obtain ⟨b,o,rfl,hbA,hcA⟩:=HLL.out (by omega);have cA0:=hcA k hlt;have i1:(0:Int)≤(k:Int):=by omega
     have i2:(k:Int)<(L.length:Int):=by omega
     have hsu:=HSU.out k hlt;have hrx:=HLR.out k;obtain ⟨x,hx⟩:∃ y,L.getD k 0=y:=⟨_,rfl⟩;rw [hx] at hsu hrx;have hcx:∀ V,Below w.heap.size w V→V.cell? ⟨b,o+k,none⟩=some (.int .i64 x):=fun V hb=>(hb.cell (p:=⟨b,o+k,none⟩) hbA).trans (by rw [cA0];unfold zJ;rw [hx]);have HCX:=za hcx;have cA:=hcx _ hbw;have hok:=HAT.out _ (HT.out.below HV0.out).lt _ (HTK.out k);have hTv:=HT.out.below HV0.out;have hNv:=(HNT.out.below HV0.out).more HV0.out.size;have hsm:=fun (W:World) tv kk=>HSM.out v0 W E g gr tv kk (k+1) HV0.out;by_cases h0:x=0
     ·have hs2:yC N.n (L.take (k+1))=(yC N.n (L.take k)).dropLast:=by rw [hsu];unfold gj;rw [if_pos h0]
      have hp1:=ht.pop1 hok hTv;have hp2:=fun (W:World) tv' (h9:Tw v0 E g N N.n.toNat (prL lo) (prL hi) gr A c (.slice Al lo.length cl) (.slice Ah hi.length ch) tv' (yC N.n (L.take k)).dropLast (popK N (yC N.n (L.take k)) kk) (yC N.n (L.take k)) kk W)=>h9.pop2 hok hNv;rw [← hs2] at hp1;simp only [← hs2] at hp2;obtain ⟨z,hz⟩:∃ z,popE (yC N.n (L.take k))=z:=⟨_,rfl⟩;rw [hz] at hp1;simp only [hz] at hp2;have hzz:(z != z)=false:=by simp
      have HP1:=za hp1;have HP2:=za hp2;have HSM2:=za hsm;subst h0;clear hp1 hp2 hs2 hsu hrx hx cA0 hcA hok ht hcx hz hTv hNv hsm hbw;go_wp2_with (first
       | (go_at_call 20;(with_reducible refine HP1.out.mono ?_);rintro e w5 ⟨rfl,tv',t5⟩;have T5:=za t5;clear t5 HP1 cA)
       | (go_at_call 21;(with_reducible refine (HP2.out _ _ T5.out).mono ?_);rintro e w6 ⟨rfl,t6⟩;have T6:=za t6;clear t6 HP2 T5)
       | (go_at_call 19;(with_reducible refine (HSM2.out _ _ _ T6.out).mono ?_);rintro e w7 ⟨rfl,hb⟩;have T7:=za (T6.out.below hb);clear hb T6 HSM2))
      go_roundw
      case rel=>exact ⟨k+1,by omega,by go_num,_,_,T7.out⟩
      case measure=>simp [intOf];omega
     ·have hs2:yC N.n (L.take (k+1))=zhm N.n (yC N.n (L.take k)) x:=by rw [hsu];unfold gj;rw [if_neg h0]
      have hp1:=ht.push1 hok hTv x hrx.1 hrx.2;have hp2:=fun (W:World) tv' (h9:Tw v0 E g N N.n.toNat (prL lo) (prL hi) gr A c (.slice Al lo.length cl) (.slice Ah hi.length ch) tv' (zhm N.n (yC N.n (L.take k)) x) (jh N (yC N.n (L.take k)) x kk) (yC N.n (L.take k)) kk W)=>h9.push2 hok hNv x hrx.1 hrx.2;rw [← hs2] at hp1;simp only [← hs2] at hp2;obtain ⟨z,hz⟩:∃ z,ji N.n (yC N.n (L.take k)) x=z:=⟨_,rfl⟩;rw [hz] at hp1;simp only [hz] at hp2;have hzz:(z != z)=false:=by simp
      have hx0:(x==0)=false:=by simpa using h0
      have hd1:Below wr.heap.size wr wr.drew:=qw (zA _ _) 1;have hp1d:=(ht.below hd1).push1 hok hTv x hrx.1 hrx.2;rw [← hs2,hz] at hp1d;have cD:wr.drew.cell? ⟨b,o+k,none⟩=some (.int .i64 x):=cA;have HP1:=za hp1d;have HP2:=za hp2;have HSM2:=za hsm;clear hp1 hp2 hp1d hd1 hs2 hsu hrx hx cA0 hcA hok ht hcx hz hTv hNv hsm hbw;go_wp2_with fail
      go_region_held3 (fun w'=>w'.cell? ⟨b,o+k,none⟩=some (.int .i64 x)) (first | exact cA | exact cD | go_keep)
       (first
         | (go_simp
            go_at_call 22;(with_reducible refine HP1.out.mono ?_);rintro e w5 ⟨rfl,tv',t5⟩;have T5:=za t5;clear t5 HP1 cA cD;have cA:=HCX.out _ (zu HV0.out T5.out.lv.bl HV0.out.size))
         | (go_simp
            go_at_call 23;(with_reducible refine (HP2.out _ _ T5.out).mono ?_);rintro e w6 ⟨rfl,t6⟩;have T6:=za t6;clear t6 HP2 cA;have cA:=HCX.out _ (zu HV0.out T6.out.lv.bl HV0.out.size)))
      all_goals
       go_wp2_with (go_at_call 19;(with_reducible refine (HSM2.out _ _ _ T6.out).mono ?_);rintro e w7 ⟨rfl,hb⟩;have T7:=za (T6.out.below hb);clear hb T6 HSM2)
       go_roundw
       case rel=>exact ⟨k+1,by omega,by go_num,_,_,T7.out⟩
       case measure=>simp [intOf];omega
    ·obtain rfl:k=L.length:=by omega
     have T9:=za ht;clear ht;go_wp2_with (go_at_call 13;(with_reducible refine (zfn _ (HT.out.below HBW.out)).mono ?_);rintro e w9 ⟨rfl,hb⟩;have B9:=za (zu HBW.out hb HBW.out.size);clear hb)
     go_ret;exact ⟨rfl,B9.out⟩
  ·have hy:=fun (e:Ending) (W W':World) (hr:StaR W N A Al Ah c cl ch lo hi e W')=>hr.2.resolve_left fun hh=>hok hh.1;have hb':=fun (e:Ending) (W W':World) (hr:StaR W N A Al Ah c cl ch lo hi e W')=>hr.1;have HB:=za hb';have HY:=za hy;clear hfw hF h hc hin hst hok hy hb';go_enter Tryz.func4, Tryz.ntmps4;go_wp2_with (first
    | (go_at_call 17;(with_reducible refine (HFW.out _ o0.out.nt).mono ?_);rintro e w1 ⟨rfl,hb⟩;have o1:=za (o0.out.below hb);have i1:=za (HI.out.below hb);obtain ⟨n1,n2⟩:=o1.out.cells;clear hb m1 m2 o0 HI)
    | (go_at_call 18;(with_reducible refine (HST.out _ i1.out).mono ?_);rintro e w2 hr;have hb:=HB.out _ _ _ hr;obtain ⟨_,rfl⟩:=HY.out _ _ _ hr;have o2:=za (o1.out.below hb);clear hb hr n1 n2 o1 i1)
    | (go_at_call 13;(with_reducible refine (zfn _ (HT.out.below o2.out.bl)).mono ?_);rintro e w4 ⟨rfl,hb⟩;have o4:=za (o2.out.below hb);clear hb o2))
   all_goals
    go_ret;exact ⟨rfl,o4.out.bl⟩
end
end Go.Proofs.YtoljkoifgnmbgaaGreatDoor
end
