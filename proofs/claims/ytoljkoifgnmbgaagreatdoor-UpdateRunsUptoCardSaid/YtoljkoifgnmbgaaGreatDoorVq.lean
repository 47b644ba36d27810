import Derived.Test.YtoljkoifgnmbgaaGreatDoorVn
import Derived.Test.YtoljkoifgnmbgaaGreatDoorQ2
import Derived.WalkMore
set_option linter.unusedSimpArgs false
set_option linter.unusedVariables false
set_option maxRecDepth 100000
set_option maxHeartbeats 8000000
open Go Go.RowKit Cs
namespace Go.Proofs.YtoljkoifgnmbgaaGreatDoor
theorem x8 (w:World) (N:Nt) (A Al Ah AL Ao:Option Addr) (b c cl ch cL cO n i:Nat) (lo hi L Q:List Pr) (hT:Tab w) (hbs:b<w.heap.size)
  (h5:w.cell? ⟨b,11,none⟩=some (.string (zb 1))) (h5':w.cell? ⟨b,12,none⟩=some (.string (zb 1))) (h6:w.cell? ⟨b,13,none⟩=some (.func (.func 50) #[] #[])) (h7:w.cell? ⟨b,14,none⟩=some (.func (.func 51) #[] #[])) (h8:w.cell? ⟨b,15,none⟩=some (.slice Al (n+1) cl)) (h9:w.cell? ⟨b,16,none⟩=some (.slice Ah (n+1) ch))
  (h10:w.cell? ⟨b,17,none⟩=some (.slice AL N.l.length cL))
  (hlo:Rd w w.heap.size Al ((n+1)*2) (zT lo)) (hhi:Rd w w.heap.size Ah ((n+1)*2) (zT hi)) (hL:Rd w w.heap.size AL (N.l.length*2) (zT L)) (hO:Rd w w.heap.size Ao (N.l.length*2) (zK (own N.l)))
  (hN:NtAt w w.heap.size A N.l) (hv:zC N=true) (hn:N.n=(n:Int)) (hi1:i<N.l.length) (hQ:Q.length=i) (hQL:∀ j,j<i→L.getD j (0,0)=Q.getD j (0,0))
  (hpt:∀ m,Sp ((N.l[i].ins.take m).foldl ((RP n lo hi).in1 (own N.l) Q N.l[i]) ((RP n lo hi).start N.l[i]))) (hat:∀ j,Sp (L.getD j (0,0)))
  (hwd:∀ j:Nat,j<i→(j:Int)∈N.l[i].ins→∀ m,Sp ((RP n lo hi).wide (L.getD j (0,0)) ((vl (zI ((own N.l).getD i 0) ((own N.l).getD j 0))).take m)))
  (hb1:∀ v,1≤v→Sp (lo.getD v (0,0))∧Sp (hi.getD v (0,0))) (hb2:∀ u,Sp ((RP n lo hi).both u)) :
  Calls Tryz.prog 96 #[.pointer (some ⟨b,11,none⟩),ql N A c,.slice Ao N.l.length cO,.int .i64 (i:Int)] w fun e w'=>e = .returned (zZ ((RP n lo hi).step (own N.l) Q N.l[i]).1 ((RP n lo hi).step (own N.l) Q N.l[i]).2)∧Below w.heap.size w w':=by
 have hfk:=yT hv i hi1;have hn128:=yF hv hn;obtain ⟨bN,oN,rfl,hbN,hcs⟩:=hN (by omega);obtain ⟨hk1,hk2,⟨A',c',hk3,hri⟩,hr1,hr2,hr3,hr4⟩:=hcs i hi1;obtain ⟨bL,oL,rfl,hbL,hcLL⟩:=hL (by omega);obtain ⟨bO,oO,rfl,hbO,hcO⟩:=hO (by omega);have HCLL:=za hcLL;have HCO:=za hcO;have hsb:∀ j,∀ u∈vl (zI ((own N.l).getD i 0) ((own N.l).getD j 0)),u.natAbs≤n:=fun j u hu=>by
  obtain ⟨k,hk,rfl⟩:=zdN hu;rw [jQ,Bool.and_eq_true] at hk;have:=zcn hv (i+1) i (Nat.lt_succ_self i) hi1 k hk.1;omega
 have hwc:=fun W (hb:Below w.heap.size w W) xn xd s hs hsm=>zil W b cl ch n lo hi Al Ah xn xd s (hT.below hb) (Nat.lt_of_lt_of_le hbs hb.size) (zy hb h6 hbs) (zy hb h7 hbs) (zy hb h8 hbs) (zy hb h9 hbs)
  ((hlo.below hb).more hb.size) ((hhi.below hb).more hb.size) hs hsm hb1 hb2
 have hins:∀ m,m<N.l[i].ins.length→∃ j:Nat,N.l[i].ins.getD m 0=(j:Int)∧j<i:=formed_ins hfk;have hlitok:N.l[i].kind=2→1≤N.l[i].lit.natAbs∧N.l[i].lit.natAbs≤n:=fun h2=>lit_range (zbl hfk h2).1 hn hn128;have hkd:=zeG hfk;have hnil:N.l[i].kind=0∨N.l[i].kind=1∨N.l[i].kind=2→N.l[i].ins=[]:=zgE hfk;have hstep:(RP n lo hi).step (own N.l) Q N.l[i]=N.l[i].ins.foldl ((RP n lo hi).in1 (own N.l) Q N.l[i]) ((RP n lo hi).start N.l[i]):=rfl;obtain ⟨⟨xk,xq,xi⟩,hx⟩:∃ x,N.l[i]=x:=⟨_,rfl⟩;obtain ⟨O,hOw⟩:∃ O,own N.l=O:=⟨_,rfl⟩;rw [hOw] at hpt hwd hsb hstep;rw [hx] at hpt hwd hk1 hk2 hk3 hri hr1 hr2 hr3 hr4 hins hkd hstep hlitok hnil;simp only [hOw] at HCO;simp only at hri hk1 hk2 hk3 hr4 hins hkd hlitok hnil;rw [show own N.l=O from hOw];rw [hx];have HWC:=za hwc;have HSB:=za hsb;have HWD:=za hwd;have HAT:=za hat;have HIN:=za hins;have HPL:=za hQL;obtain ⟨F,hF⟩:∃ F:Nat→Pr,F=fun m=>(xi.take m).foldl ((RP n lo hi).in1 O Q ⟨xk,xq,xi⟩) ((RP n lo hi).start ⟨xk,xq,xi⟩):=⟨_,rfl⟩;have hpt':∀ m,Sp (F m):=fun m=>by rw [hF];exact hpt m
 have HPT:=za hpt';have hFE:(RP n lo hi).step O Q ⟨xk,xq,xi⟩=F xi.length:=by rw [hstep,hF];simp only [List.take_length]
 have HFE:=za hFE;have hFs:∀ m (hm:m<xi.length),F (m+1)=(RP n lo hi).in1 O Q ⟨xk,xq,xi⟩ (F m) xi[m]:=fun m hm=>by
  rw [hF];simp only;rw [List.take_succ_eq_append_getElem hm,List.foldl_append];rfl
 have hF0':F 0=(RP n lo hi).start ⟨xk,xq,xi⟩:=by rw [hF];rfl
 have HCE:=za (show ∀ W,Below w.heap.size w W→W.cell? ⟨b,13,none⟩=some (.func (.func 50) #[] #[])∧W.cell? ⟨b,14,none⟩=some (.func (.func 51) #[] #[])∧W.cell? ⟨b,17,none⟩=some (.slice (some ⟨bL,oL,none⟩) N.l.length cL) from
  fun W hb=>⟨zy hb h6 hbs,zy hb h7 hbs,zy hb h10 hbs⟩)
 clear hpt hwd hsb hwc hins hstep hcs hF hpt' hFE hcLL hcO hOw hfk hQL hat;go_enter Tryz.func96, Tryz.ntmps96;have HNIL:=za hnil;have HLK:=za hlitok;clear hnil hlitok;have i1:(0:Int)≤(i:Int):=by omega
 have i2:(i:Int)<(N.l.length:Int):=by omega
 go_upto_region 3 with (fail)
 go_cut [23] from 22 to 23 (fun t wx=>t = .int .i64 xk∧wx.rowIs (w.heap.size+1) 60 2 (zE #[.string ⟨#[]⟩,.string ⟨#[]⟩])∧wx.rowIs (w.heap.size+1+1) 76 3 (zE #[.int .i64 xk,.int .i64 xq,.slice A' xi.length c'])∧wx.rowIs (w.heap.size+1+1+1) 60 2 (zE #[.string ⟨#[]⟩,.string ⟨#[]⟩])∧Below w.heap.size w wx)
 case first =>
  have a1:=((zU (w.alloc (.cells #[.int .i64 (n:Int),.slice (some ⟨bN,oN,none⟩) N.l.length c] 24)) #[.string ⟨#[]⟩,.string ⟨#[]⟩] 60 (w.heap.size+1) 2 (by simp) rfl).alloc (.cells #[.int .i64 xk,.int .i64 xq,.slice A' xi.length c'] 76)).alloc (.cells #[.string ⟨#[]⟩,.string ⟨#[]⟩] 60);have a2:=(zU ((w.alloc (.cells #[.int .i64 (n:Int),.slice (some ⟨bN,oN,none⟩) N.l.length c] 24)).alloc (.cells #[.string ⟨#[]⟩,.string ⟨#[]⟩] 60)) #[.int .i64 xk,.int .i64 xq,.slice A' xi.length c'] 76 (w.heap.size+1+1) 3 (by simp) rfl).alloc (.cells #[.string ⟨#[]⟩,.string ⟨#[]⟩] 60);have a3:=zU (((w.alloc (.cells #[.int .i64 (n:Int),.slice (some ⟨bN,oN,none⟩) N.l.length c] 24)).alloc (.cells #[.string ⟨#[]⟩,.string ⟨#[]⟩] 60)).alloc (.cells #[.int .i64 xk,.int .i64 xq,.slice A' xi.length c'] 76)) #[.string ⟨#[]⟩,.string ⟨#[]⟩] 60 (w.heap.size+1+1+1) 2 (by simp) rfl;have a4:=(((((Below.refl w.heap.size w).alloc (zi _) (.cells #[.int .i64 (n:Int),.slice (some ⟨bN,oN,none⟩) N.l.length c] 24)).alloc (by simp) (.cells #[.string ⟨#[]⟩,.string ⟨#[]⟩] 60)).alloc (by simp;omega) (.cells #[.int .i64 xk,.int .i64 xq,.slice A' xi.length c'] 76)).alloc (by simp;omega) (.cells #[.string ⟨#[]⟩,.string ⟨#[]⟩] 60));go_wp2_with fail
  go_meet;exact ⟨rfl,a1,a2,a3,a4⟩
 case rest =>
 obtain ⟨rfl,hres,hxx,hzz,hbl⟩:=hcut;clear hk1 hk2 hk3;rcases hkd with rfl | rfl | rfl | rfl | rfl
 ·have zz:wc.cell? ⟨w.heap.size+1+1+1,0,none⟩=some (.string ⟨#[]⟩):=hzz.cell (i:=0) (by decide);have k0:wc.cell? ⟨w.heap.size+1,0,none⟩=some (.string ⟨#[]⟩):=hres.cell (i:=0) (by decide);have z0:=hres.frozen 0;have zz':wc.cell? ⟨w.heap.size+1+1+1,1,none⟩=some (.string ⟨#[]⟩):=hzz.cell (i:=1) (by decide);have k1:wc.cell? ⟨w.heap.size+1,1,none⟩=some (.string ⟨#[]⟩):=hres.cell (i:=1) (by decide);have z1:=hres.frozen 1;have hzl:=hzz.lt;have hrl:=hres.lt;have hF0z:F xi.length=(0,0):=by
   rw [(HNIL.out (Or.inl rfl):xi=[])];exact hF0'
  clear hFs hF0';go_wp2_with fail
  exact zck rfl 0 0 rfl (ratRow0 (yH hres _ _)) rfl ⟨by rw [HFE.out,hF0z],(hbl.setCell (by simp <;> omega) _).setCell (by simp <;> omega) _⟩
 ·have hF0:F 0=(1,1):=hF0';have HFN:Hid (∀ m (hm:m<xi.length) j,xi.getD m 0=((j:Nat):Int)→F (m+1)=jJ (F m) (Q.getD j (0,0))):=za fun m hm j hj=>by
   rw [hFs m hm];have e:xi[m]=(j:Int):=by rw [← hj,List.getD_eq_getElem?_getD,List.getElem?_eq_getElem hm];rfl
   rw [e];unfold Rg.in1;rw [if_pos (Or.inl rfl)];rfl
  have q4:WxAt w (w.heap.size+1) wc.heap.size 60 2 #[.string ⟨#[]⟩,.string ⟨#[]⟩] #[.string (zb ((1,1)).1),.string (zb ((1,1)).2)] (wc.alloc (.cells #[.string (zb 1),.string (zb 1)] 60)):=⟨hres.alloc _,zU wc _ _ _ _ rfl rfl,Nat.ne_of_lt hres.lt,hbl.size,hbl.alloc hbl.size _⟩;have l5:wc.cell? ⟨b,11,none⟩=some (.string (zb 1)):=zy hbl h5 hbs;have l5':wc.cell? ⟨b,12,none⟩=some (.string (zb 1)):=zy hbl h5' hbs;have hbw:=Nat.lt_of_lt_of_le hbs hbl.size;have zz:wc.cell? ⟨w.heap.size+1+1+1,0,none⟩=some (.string ⟨#[]⟩):=hzz.cell (i:=0) (by decide);have xx:wc.cell? ⟨w.heap.size+1+1,2,none⟩=some (.slice A' xi.length c'):=hxx.cell (i:=2) (by decide);have zz':wc.cell? ⟨w.heap.size+1+1+1,1,none⟩=some (.string ⟨#[]⟩):=hzz.cell (i:=1) (by decide);have hzl:=hzz.lt;have hxl:=hxx.lt;clear hFs hF0' hres hxx hzz;go_wp2_with fail
  go_loopw [92] (fun t wr=>∃ m:Nat,m≤xi.length∧t = .int .i64 (m:Int)∧WxAt w (w.heap.size+1) (wc.heap.size) 60 2 #[.string ⟨#[]⟩,.string ⟨#[]⟩] #[.string (zb (F m).1),.string (zb (F m).2)] wr) (fun t _=>xi.length-(intOf t).toNat)
  case atStart=>exact ⟨0,Nat.zero_le _,rfl,by rw [hF0];exact q4⟩
  case round =>
   clear q4;obtain ⟨m,hm,rfl,q⟩:=hrel;by_cases hlt:m<xi.length
   ·obtain ⟨h6,h7,h10⟩:=HCE.out _ q.bl;obtain ⟨bI,oI,rfl,hbI,hcI⟩:=hri (by omega);have cI:=(q.bl.cell (p:=⟨bI,oI+m,none⟩) hbI).trans (hcI m hlt);clear hcI;obtain ⟨j,hj,hji⟩:=HIN.out m hlt;have hj2:zJ xi m = .int .i64 (j:Int):=by unfold zJ;rw [hj]
    rw [hj2] at cI;have hbw:b<wr.heap.size:=Nat.lt_of_lt_of_le hbs q.bl.size;have hbLw:bL<wr.heap.size:=Nat.lt_of_lt_of_le hbL q.bl.size;have hbOw:bO<wr.heap.size:=Nat.lt_of_lt_of_le hbO q.bl.size;have hyw:=q.acc.lt;have i1:(0:Int)≤(m:Int):=by omega
    have i2:(m:Int)<(xi.length:Int):=by omega
    have i3:(j:Int)<(N.l.length:Int):=by omega
    have i4:(0:Int)≤(j:Int):=by omega
    have i5:(i:Int)<(N.l.length:Int):=by omega
    have i6:(0:Int)≤(i:Int):=by omega
    have lx:wr.cell? ⟨bL,oL+j*2,none⟩=some (.string (zb (L.getD j (0,0)).1)):=(q.bl.cell (p:=⟨bL,oL+j*2,none⟩) hbL).trans ((HCLL.out (j*2) (by omega)).trans (by rw [jB]));have lx':wr.cell? ⟨bL,oL+j*2+1,none⟩=some (.string (zb (L.getD j (0,0)).2)):=(q.bl.cell (p:=⟨bL,oL+j*2+1,none⟩) hbL).trans ((HCLL.out (j*2+1) (by omega)).trans (by rw [jC]));have lp:wr.cell? ⟨wc.heap.size,0,none⟩=some (.string (zb (F m).1)):=q.acc.cell (i:=0) (by decide);have lp':wr.cell? ⟨wc.heap.size,1,none⟩=some (.string (zb (F m).2)):=q.acc.cell (i:=1) (by decide);have hx8:=HAT.out j;have hp8:=HPT.out m;have hFn:=HFN.out m hlt j hj;have hPj:=HPL.out j hji;rw [← hPj] at hFn;obtain ⟨x,hx⟩:∃ x,L.getD j (0,0)=x:=⟨_,rfl⟩;rw [hx] at hFn hx8 lx lx';obtain ⟨xn,xd⟩:=x;obtain ⟨p,hp⟩:∃ p,F m=p:=⟨_,rfl⟩;rw [hp] at hFn lp lp' hp8;obtain ⟨pn,pd⟩:=p;obtain ⟨r,hr⟩:∃ r,jJ (pn,pd) (xn,xd)=r:=⟨_,rfl⟩;obtain ⟨rn,rd⟩:=r;replace hFn:F (m+1)=(rn,rd):=hFn.trans hr;have hmul:∀ W,Calls Tryz.prog 51 #[zZ pn pd,zZ xn xd] W fun e w'=>e = .returned (zZ rn rd)∧Below W.heap.size W w':=fun W=>by
     have:=zhl W pn pd xn xd hp8.1 hp8.2 hx8.1 hx8.2;have e1:(jJ (pn,pd) (xn,xd)).1=rn:=by rw [hr]
     have e2:(jJ (pn,pd) (xn,xd)).2=rd:=by rw [hr]
     rw [← e1,← e2];exact this
    have HMU:=za hmul;have HNX:=za hFn;clear hmul hp hr hp8 hx8 hFn hPj hj hji hj2 hx;have s1:=h7;have s2:=lp;have s3:=lp';have s4:=h10;have s5:=lx;have s6:=lx';clear h6 h7 h10 lp lp' lx lx';go_wp2_with fail
    have HS:Hid (∀ W,Below wr.heap.size wr W→W.cell? ⟨b,14,none⟩=some (.func (.func 51) #[] #[])∧W.cell? ⟨wc.heap.size,0,none⟩=some (.string (zb pn))∧W.cell? ⟨wc.heap.size,1,none⟩=some (.string (zb pd))∧W.cell? ⟨b,17,none⟩=some (.slice (some ⟨bL,oL,none⟩) N.l.length cL)∧W.cell? ⟨bL,oL+j*2,none⟩=some (.string (zb xn))∧W.cell? ⟨bL,oL+j*2+1,none⟩=some (.string (zb xd))):=za fun W hb=>⟨zy hb s1 hbw,zy hb s2 hyw,zy hb s3 hyw,zy hb s4 hbw,zy hb s5 hbLw,zy hb s6 hbLw⟩;refine yc (n:=_) (PX:=[zc (.pointer (some ⟨b,11,none⟩)),
       zc (.pointer (some ⟨b,11,none⟩)),
       zc (.pointer (some ⟨b,14,none⟩)),
       zc (.func (.func 51) #[] #[]),
       zc (.agg #[.string (zb pn),.string (zb pd)]),
       zc (.pointer (some ⟨b,11,none⟩)),
       zc (.pointer (some ⟨b,11,none⟩)),
       zc (.pointer (some ⟨b,17,none⟩)),
       zc (.slice (some ⟨bL,oL,none⟩) N.l.length cL),
       zc (.int .i64 (j:Int)),
       zc (.pointer (some ⟨bL,oL+j*2,none⟩)),
       zc (.agg #[.string (zb xn),.string (zb xd)]),
       zc (.agg #[.string (zb rn),.string (zb rd)])])
      (AL:=[]) (DP:=[[],[0],[1],[2],[],[],[5],[6],[7],[],[8,9],[10],[3,4,11]]) (L1:=[0,1,2,3,4,5,6,7,8,9,10,11,12]) (ex:=[]) (by kernel_rfl) rfl (by kernel_rfl) ?_ ?_ (yf ?_)
    ·repeat' first|exact zO|refine ze ?_ ?_|exact fun _ _ _ _ h _=>h
    ·refine ze (zg rfl [] ?_) (ze (zg rfl [(0,some 96)] ?_) (ze (zg rfl [(1,some 97)] ?_) (ze (zg rfl [(2,some 98)] ?_) (ze (zg rfl [] ?_) (ze (zg rfl [] ?_) (ze (zg rfl [(5,some 101)] ?_) (ze (zg rfl [(6,some 102)] ?_) (ze (zg rfl [(7,some 103)] ?_) (ze (zg rfl [] ?_) (ze (zg rfl [(8,some 104),(9,some 105)] ?_) (ze (zg rfl [(10,some 106)] ?_) (ze ?_ zO))))))))))));all_goals try (intro vs W hW hd K hK;(try simp only [zR,zc,and_true,List.getD_cons_succ,List.getD_cons_zero] at hd);(first | simp only [hd,zo,Act.put,zx,zw,zv,zm,zl,zk] at hK ⊢ | simp only [zo,Act.put,zx,zw,zv,zm,zl,zk] at hK ⊢ | skip);obtain ⟨m1,m2,m3,m4,m5,m6⟩:=HS.out W hW;go_simp;exact hK.out _ _ rfl (zA _ _) (qS rfl))
     ·refine qo rfl [(3,some 99),(4,some 100),(11,some 107)] ?_;intro vs W hW hd K hK;have d3:vs 3 = .func (.func 51) #[] #[]:=hd 3 (by decide);have d4:vs 4 = .agg #[.string (zb pn),.string (zb pd)]:=hd 4 (by decide);have d11:vs 11 = .agg #[.string (zb xn),.string (zb xd)]:=hd 11 (by decide);clear hd;try simp only [d3,d4,d11,zo,Act.put,zx,zw,zv,zm,zl,zk] at hK ⊢
      go_simp;go_at_call 51;(with_reducible first | refine (HMU.out _).mono ?_);rintro e w9 ⟨rfl,hb9⟩;exact hK.out _ _ (rfl) hb9 (fun h=>absurd h (by decide))
    refine qT [(0,some 96),(1,some 97),(2,some 98),(3,some 99),(4,some 100),(5,some 101),(6,some 102),(7,some 103),(8,some 104),(9,some 105),(10,some 106),(11,some 107),(12,some 108)] #[true,true,true,true,true,true,true,true,true,true,true,true,true,false] 1 ?_;intro vs Wf hW hd hbk hdis kf;simp only [zR,zc,and_true,List.getD_cons_succ,List.getD_cons_zero] at hd;obtain ⟨d0,d1,d2,d3,d4,d5,d6,d7,d8,d9,d10,d11,d12⟩:=hd;clear hbk hdis;try simp only [d0,d1,d2,d3,d4,d5,d6,d7,d8,d9,d10,d11,d12,zo,Act.put,zx,zw,zv,zm,zl,zk]
    clear d0 d1 d2 d3 d4 d5 d6 d7 d8 d9 d10 d11 d12 vs;clear HS;have qf:=q.below hW;have c0:=qf.acc.cell (i:=0) (by decide);have z0:=qf.acc.frozen 0;have c1:=qf.acc.cell (i:=1) (by decide);have z1:=qf.acc.frozen 1;refine qt 13 (by kernel_rfl) rfl (fun K hK=>?_);go_simp;refine hK.out _ _ ?_;clear hK K;try simp only [zo,Act.put,zx,zw,zv,zm,zl,zk]
    refine qV (by kernel_rfl) ?_ _;all_goals
     try go_wp2
     go_roundw
     case rel=>exact ⟨m+1,by omega,by go_num,by rw [HNX.out];exact qf.put2 _ _⟩
     case measure=>simp [intOf];omega
   ·obtain rfl:m=xi.length:=by omega
    obtain ⟨Y,hY⟩:∃ Y,F xi.length=Y:=⟨_,rfl⟩;rw [hY] at q;have HEQ:=za (HFE.out.trans hY);clear hY;obtain ⟨Yn,Yd⟩:=Y;have r0:=q.res;have hbl2:=q.bl;have k0:wr.cell? ⟨w.heap.size+1,0,none⟩=some (.string ⟨#[]⟩):=r0.cell (i:=0) (by decide);have z0:=r0.frozen 0;have k1:wr.cell? ⟨w.heap.size+1,1,none⟩=some (.string ⟨#[]⟩):=r0.cell (i:=1) (by decide);have z1:=r0.frozen 1;have c0:wr.cell? ⟨wc.heap.size,0,none⟩=some (.string (zb Yn)):=q.acc.cell (i:=0) (by decide);have c1:wr.cell? ⟨wc.heap.size,1,none⟩=some (.string (zb Yd)):=q.acc.cell (i:=1) (by decide);clear q;go_wp2_with fail
    exact zck rfl Yn Yd rfl (zdU (yH r0 _ _)) rfl ⟨by rw [HEQ.out],(hbl2.setCell (by simp <;> omega) _).setCell (by simp <;> omega) _⟩
 ·have hlk:=HLK.out rfl;have hlk:=And.intro hlk (HNIL.out (Or.inr (Or.inr rfl)):xi=[]);have hbl0:=hbl;clear hFs;have hrr:=hres;by_cases hneg:xq<0
  ·obtain ⟨bl,ol,rfl,hbbl,hcl⟩:=hlo (by omega);obtain ⟨v,hv⟩:∃ v:Nat,-xq=(v:Int):=⟨(-xq).toNat,by omega⟩;have hv1:v=xq.natAbs:=by omega
   have hlv:F xi.length=lo.getD v (0,0):=by
    rw [(hlk.2:xi=[])];show F 0=_;rw [hF0'];show (RP n lo hi).lit xq=_;show qL n lo hi xq=_;unfold qL;rw [if_pos hlk.1,if_pos (by omega),hv1]
   have lx:wc.cell? ⟨bl,ol+v*2,none⟩=some (.string (zb (lo.getD v (0,0)).1)):=(hbl0.cell (p:=⟨bl,ol+v*2,none⟩) hbbl).trans ((hcl (v*2) (by omega)).trans (by rw [jB]));have lx':wc.cell? ⟨bl,ol+v*2+1,none⟩=some (.string (zb (lo.getD v (0,0)).2)):=(hbl0.cell (p:=⟨bl,ol+v*2+1,none⟩) hbbl).trans ((hcl (v*2+1) (by omega)).trans (by rw [jC]));obtain ⟨x,hx⟩:∃ x,lo.getD v (0,0)=x:=⟨_,rfl⟩;rw [hx] at lx lx' hlv;obtain ⟨xn,xd⟩:=x;have lh:wc.cell? ⟨b,15,none⟩=some (.slice (some ⟨bl,ol,none⟩) (n+1) cl):=zy hbl0 h8 hbs;have hbw:=Nat.lt_of_lt_of_le hbs hbl0.size;have hxw:=hxx.lt;have hlw:bl<wc.heap.size:=Nat.lt_of_lt_of_le hbbl hbl0.size;have HY:=za (HFE.out.trans hlv);obtain rfl:xq = -(v:Int):=by omega
   have jw1:IntKind.i64.wrap (v:Int)=(v:Int):=by rw [IntKind.wrap_i64];omega
   have jw2:IntKind.i64.wrap (-(-(v:Int)))=(v:Int):=by rw [IntKind.wrap_i64];omega
   have jp:0<v:=by omega
   clear hv hv1 hlv hlk hneg hx hF0';have j1:(0:Int)≤(v:Int):=by omega
   have j2:(v:Int)<(n:Int)+1:=by omega
   have xx:wc.cell? ⟨w.heap.size+1+1,1,none⟩=some (.int .i64 (-(v:Int))):=hxx.cell (i:=1) (by decide);go_wp2_with fail
   have s1:=lh;have s2:=xx;have s3:=lx;have s4:=lx';clear lh xx lx lx';have HS:Hid (∀ W,Below wc.heap.size wc W→W.cell? ⟨b,15,none⟩=some (.slice (some ⟨bl,ol,none⟩) (n+1) cl)∧W.cell? ⟨w.heap.size+1+1,1,none⟩=some (.int .i64 (-(v:Int)))∧W.cell? ⟨bl,ol+v*2,none⟩=some (.string (zb xn))∧W.cell? ⟨bl,ol+v*2+1,none⟩=some (.string (zb xd))):=za fun W hb=>⟨zy hb s1 hbw,zy hb s2 hxw,zy hb s3 hlw,zy hb s4 hlw⟩;refine yc (n:=_) (PX:=[zc (.pointer (some ⟨b,11,none⟩)),
      zc (.pointer (some ⟨b,11,none⟩)),
      zc (.pointer (some ⟨b,15,none⟩)),
      zc (.slice (some ⟨bl,ol,none⟩) (n+1) cl),
      zc (.pointer (some ⟨w.heap.size+1+1,1,none⟩)),
      zc (.int .i64 (-(v:Int))),
      zc (.int .i64 (v:Int)),
      zc (.pointer (some ⟨bl,ol+v*2,none⟩)),
      zc (.agg #[.string (zb xn),.string (zb xd)])])
     (AL:=[]) (DP:=[[],[0],[1],[2],[],[4],[5],[3,6],[7]]) (L1:=[0,1,2,3,4,5,6,7,8]) (ex:=[]) (by kernel_rfl) rfl (by kernel_rfl) ?_ ?_ (yf ?_)
   ·repeat' first|exact zO|refine ze ?_ ?_|exact fun _ _ _ _ h _=>h
   ·refine ze (zg rfl [] ?_) (ze (zg rfl [(0,some 32)] ?_) (ze (zg rfl [(1,some 33)] ?_) (ze (zg rfl [(2,some 34)] ?_) (ze (zg rfl [] ?_) (ze (zg rfl [(4,some 36)] ?_) (ze (zg rfl [(5,some 37)] ?_) (ze (zg rfl [(3,some 35),(6,some 38)] ?_) (ze (zg rfl [(7,some 39)] ?_) zO))))))));all_goals (intro vs W hW hd K hK;(try simp only [zR,zc,and_true,List.getD_cons_succ,List.getD_cons_zero] at hd);(first | simp only [hd,zo,Act.put,zx,zw,zv,zm,zl,zk] at hK ⊢ | simp only [zo,Act.put,zx,zw,zv,zm,zl,zk] at hK ⊢ | skip);obtain ⟨m1,m2,m3,m4⟩:=HS.out W hW;go_simp;exact hK.out _ _ rfl (zA _ _) (qS rfl))
   refine qT [(0,some 32),(1,some 33),(2,some 34),(3,some 35),(4,some 36),(5,some 37),(6,some 38),(7,some 39),(8,some 40)] #[true,true,true,true,true,true,true,true,true,false] 1 ?_;intro vs Wf hW hd hbk hdis kf;simp only [zR,zc,and_true,List.getD_cons_succ,List.getD_cons_zero] at hd;obtain ⟨d0,d1,d2,d3,d4,d5,d6,d7,d8⟩:=hd;clear hbk hdis;try simp only [d0,d1,d2,d3,d4,d5,d6,d7,d8,zo,Act.put,zx,zw,zv,zm,zl,zk]
   clear d0 d1 d2 d3 d4 d5 d6 d7 d8 vs;clear HS;have rf:=zh hrr hW;have c0:Wf.cell? ⟨w.heap.size+1,0,none⟩=some (.string ⟨#[]⟩):=rf.cell (i:=0) (by decide);have z0:=rf.frozen 0;have c1:Wf.cell? ⟨w.heap.size+1,1,none⟩=some (.string ⟨#[]⟩):=rf.cell (i:=1) (by decide);have z1:=rf.frozen 1;refine qt 9 (by kernel_rfl) rfl (fun K hK=>?_);go_simp;refine hK.out _ _ ?_;clear hK K;try simp only [zo,Act.put,zx,zw,zv,zm,zl,zk]
   refine qV (by kernel_rfl) ?_ _;all_goals
    have hbf:=zu hbl0 hW hbl0.size;try go_wp2
    exact zck rfl xn xd rfl (zdU (yH rf _ _)) rfl ⟨by rw [HY.out],(hbf.setCell (by simp <;> omega) _).setCell (by simp <;> omega) _⟩
  ·obtain ⟨bh,oh,rfl,hbbh,hch⟩:=hhi (by omega);obtain ⟨v,hv⟩:∃ v:Nat,xq=(v:Int):=⟨(xq).toNat,by omega⟩;have hv1:v=xq.natAbs:=by omega
   have hlv:F xi.length=hi.getD v (0,0):=by
    rw [(hlk.2:xi=[])];show F 0=_;rw [hF0'];show (RP n lo hi).lit xq=_;show qL n lo hi xq=_;unfold qL;rw [if_pos hlk.1,if_neg (by omega),hv1]
   have lx:wc.cell? ⟨bh,oh+v*2,none⟩=some (.string (zb (hi.getD v (0,0)).1)):=(hbl0.cell (p:=⟨bh,oh+v*2,none⟩) hbbh).trans ((hch (v*2) (by omega)).trans (by rw [jB]));have lx':wc.cell? ⟨bh,oh+v*2+1,none⟩=some (.string (zb (hi.getD v (0,0)).2)):=(hbl0.cell (p:=⟨bh,oh+v*2+1,none⟩) hbbh).trans ((hch (v*2+1) (by omega)).trans (by rw [jC]));obtain ⟨x,hx⟩:∃ x,hi.getD v (0,0)=x:=⟨_,rfl⟩;rw [hx] at lx lx' hlv;obtain ⟨xn,xd⟩:=x;have lh:wc.cell? ⟨b,16,none⟩=some (.slice (some ⟨bh,oh,none⟩) (n+1) ch):=zy hbl0 h9 hbs;have hbw:=Nat.lt_of_lt_of_le hbs hbl0.size;have hxw:=hxx.lt;have hlw:bh<wc.heap.size:=Nat.lt_of_lt_of_le hbbh hbl0.size;have HY:=za (HFE.out.trans hlv);obtain rfl:xq=(v:Int):=by omega
   clear hv hv1 hlv hlk hneg hx hF0';have j1:(0:Int)≤(v:Int):=by omega
   have j2:(v:Int)<(n:Int)+1:=by omega
   have xx:wc.cell? ⟨w.heap.size+1+1,1,none⟩=some (.int .i64 (v:Int)):=hxx.cell (i:=1) (by decide);go_wp2_with fail
   have s1:=lh;have s2:=xx;have s3:=lx;have s4:=lx';clear lh xx lx lx';have HS:Hid (∀ W,Below wc.heap.size wc W→W.cell? ⟨b,16,none⟩=some (.slice (some ⟨bh,oh,none⟩) (n+1) ch)∧W.cell? ⟨w.heap.size+1+1,1,none⟩=some (.int .i64 (v:Int))∧W.cell? ⟨bh,oh+v*2,none⟩=some (.string (zb xn))∧W.cell? ⟨bh,oh+v*2+1,none⟩=some (.string (zb xd))):=za fun W hb=>⟨zy hb s1 hbw,zy hb s2 hxw,zy hb s3 hlw,zy hb s4 hlw⟩;refine yc (n:=_) (PX:=[zc (.pointer (some ⟨b,11,none⟩)),
      zc (.pointer (some ⟨b,11,none⟩)),
      zc (.pointer (some ⟨b,16,none⟩)),
      zc (.slice (some ⟨bh,oh,none⟩) (n+1) ch),
      zc (.pointer (some ⟨w.heap.size+1+1,1,none⟩)),
      zc (.int .i64 (v:Int)),
      zc (.pointer (some ⟨bh,oh+v*2,none⟩)),
      zc (.agg #[.string (zb xn),.string (zb xd)])])
     (AL:=[]) (DP:=[[],[0],[1],[2],[],[4],[3,5],[6]]) (L1:=[0,1,2,3,4,5,6,7]) (ex:=[]) (by kernel_rfl) rfl (by kernel_rfl) ?_ ?_ (yf ?_)
   ·repeat' first|exact zO|refine ze ?_ ?_|exact fun _ _ _ _ h _=>h
   ·refine ze (zg rfl [] ?_) (ze (zg rfl [(0,some 41)] ?_) (ze (zg rfl [(1,some 42)] ?_) (ze (zg rfl [(2,some 43)] ?_) (ze (zg rfl [] ?_) (ze (zg rfl [(4,some 45)] ?_) (ze (zg rfl [(3,some 44),(5,some 46)] ?_) (ze (zg rfl [(6,some 47)] ?_) zO)))))));all_goals (intro vs W hW hd K hK;(try simp only [zR,zc,and_true,List.getD_cons_succ,List.getD_cons_zero] at hd);(first | simp only [hd,zo,Act.put,zx,zw,zv,zm,zl,zk] at hK ⊢ | simp only [zo,Act.put,zx,zw,zv,zm,zl,zk] at hK ⊢ | skip);obtain ⟨m1,m2,m3,m4⟩:=HS.out W hW;go_simp;exact hK.out _ _ rfl (zA _ _) (qS rfl))
   refine qT [(0,some 41),(1,some 42),(2,some 43),(3,some 44),(4,some 45),(5,some 46),(6,some 47),(7,some 48)] #[true,true,true,true,true,true,true,true,false] 1 ?_;intro vs Wf hW hd hbk hdis kf;simp only [zR,zc,and_true,List.getD_cons_succ,List.getD_cons_zero] at hd;obtain ⟨d0,d1,d2,d3,d4,d5,d6,d7⟩:=hd;clear hbk hdis;try simp only [d0,d1,d2,d3,d4,d5,d6,d7,zo,Act.put,zx,zw,zv,zm,zl,zk]
   clear d0 d1 d2 d3 d4 d5 d6 d7 vs;clear HS;have rf:=zh hrr hW;have c0:Wf.cell? ⟨w.heap.size+1,0,none⟩=some (.string ⟨#[]⟩):=rf.cell (i:=0) (by decide);have z0:=rf.frozen 0;have c1:Wf.cell? ⟨w.heap.size+1,1,none⟩=some (.string ⟨#[]⟩):=rf.cell (i:=1) (by decide);have z1:=rf.frozen 1;refine qt 8 (by kernel_rfl) rfl (fun K hK=>?_);go_simp;refine hK.out _ _ ?_;clear hK K;try simp only [zo,Act.put,zx,zw,zv,zm,zl,zk]
   refine qV (by kernel_rfl) ?_ _;all_goals
    have hbf:=zu hbl0 hW hbl0.size;try go_wp2
    exact zck rfl xn xd rfl (zdU (yH rf _ _)) rfl ⟨by rw [HY.out],(hbf.setCell (by simp <;> omega) _).setCell (by simp <;> omega) _⟩
 ·have hF0:F 0=(1,1):=hF0';have HFN:Hid (∀ m (hm:m<xi.length) j,xi.getD m 0=((j:Nat):Int)→F (m+1)=jJ (F m) (Q.getD j (0,0))):=za fun m hm j hj=>by
   rw [hFs m hm];have e:xi[m]=(j:Int):=by rw [← hj,List.getD_eq_getElem?_getD,List.getElem?_eq_getElem hm];rfl
   rw [e];unfold Rg.in1;rw [if_pos (Or.inr rfl)];rfl
  have q4:WxAt w (w.heap.size+1) wc.heap.size 60 2 #[.string ⟨#[]⟩,.string ⟨#[]⟩] #[.string (zb ((1,1)).1),.string (zb ((1,1)).2)] (wc.alloc (.cells #[.string (zb 1),.string (zb 1)] 60)):=⟨hres.alloc _,zU wc _ _ _ _ rfl rfl,Nat.ne_of_lt hres.lt,hbl.size,hbl.alloc hbl.size _⟩;have l5:wc.cell? ⟨b,11,none⟩=some (.string (zb 1)):=zy hbl h5 hbs;have l5':wc.cell? ⟨b,12,none⟩=some (.string (zb 1)):=zy hbl h5' hbs;have hbw:=Nat.lt_of_lt_of_le hbs hbl.size;have zz:wc.cell? ⟨w.heap.size+1+1+1,0,none⟩=some (.string ⟨#[]⟩):=hzz.cell (i:=0) (by decide);have xx:wc.cell? ⟨w.heap.size+1+1,2,none⟩=some (.slice A' xi.length c'):=hxx.cell (i:=2) (by decide);have zz':wc.cell? ⟨w.heap.size+1+1+1,1,none⟩=some (.string ⟨#[]⟩):=hzz.cell (i:=1) (by decide);have hzl:=hzz.lt;have hxl:=hxx.lt;clear hFs hF0' hres hxx hzz;go_wp2_with fail
  go_loopw [92] (fun t wr=>∃ m:Nat,m≤xi.length∧t = .int .i64 (m:Int)∧WxAt w (w.heap.size+1) (wc.heap.size) 60 2 #[.string ⟨#[]⟩,.string ⟨#[]⟩] #[.string (zb (F m).1),.string (zb (F m).2)] wr) (fun t _=>xi.length-(intOf t).toNat)
  case atStart=>exact ⟨0,Nat.zero_le _,rfl,by rw [hF0];exact q4⟩
  case round =>
   clear q4;obtain ⟨m,hm,rfl,q⟩:=hrel;by_cases hlt:m<xi.length
   ·obtain ⟨h6,h7,h10⟩:=HCE.out _ q.bl;obtain ⟨bI,oI,rfl,hbI,hcI⟩:=hri (by omega);have cI:=(q.bl.cell (p:=⟨bI,oI+m,none⟩) hbI).trans (hcI m hlt);clear hcI;obtain ⟨j,hj,hji⟩:=HIN.out m hlt;have hj2:zJ xi m = .int .i64 (j:Int):=by unfold zJ;rw [hj]
    rw [hj2] at cI;have hbw:b<wr.heap.size:=Nat.lt_of_lt_of_le hbs q.bl.size;have hbLw:bL<wr.heap.size:=Nat.lt_of_lt_of_le hbL q.bl.size;have hbOw:bO<wr.heap.size:=Nat.lt_of_lt_of_le hbO q.bl.size;have hyw:=q.acc.lt;have i1:(0:Int)≤(m:Int):=by omega
    have i2:(m:Int)<(xi.length:Int):=by omega
    have i3:(j:Int)<(N.l.length:Int):=by omega
    have i4:(0:Int)≤(j:Int):=by omega
    have i5:(i:Int)<(N.l.length:Int):=by omega
    have i6:(0:Int)≤(i:Int):=by omega
    have lx:wr.cell? ⟨bL,oL+j*2,none⟩=some (.string (zb (L.getD j (0,0)).1)):=(q.bl.cell (p:=⟨bL,oL+j*2,none⟩) hbL).trans ((HCLL.out (j*2) (by omega)).trans (by rw [jB]));have lx':wr.cell? ⟨bL,oL+j*2+1,none⟩=some (.string (zb (L.getD j (0,0)).2)):=(q.bl.cell (p:=⟨bL,oL+j*2+1,none⟩) hbL).trans ((HCLL.out (j*2+1) (by omega)).trans (by rw [jC]));have lp:wr.cell? ⟨wc.heap.size,0,none⟩=some (.string (zb (F m).1)):=q.acc.cell (i:=0) (by decide);have lp':wr.cell? ⟨wc.heap.size,1,none⟩=some (.string (zb (F m).2)):=q.acc.cell (i:=1) (by decide);have hx8:=HAT.out j;have hp8:=HPT.out m;have hFn:=HFN.out m hlt j hj;have hPj:=HPL.out j hji;rw [← hPj] at hFn;obtain ⟨x,hx⟩:∃ x,L.getD j (0,0)=x:=⟨_,rfl⟩;rw [hx] at hFn hx8 lx lx';obtain ⟨xn,xd⟩:=x;obtain ⟨p,hp⟩:∃ p,F m=p:=⟨_,rfl⟩;rw [hp] at hFn lp lp' hp8;obtain ⟨pn,pd⟩:=p;obtain ⟨r,hr⟩:∃ r,jJ (pn,pd) (xn,xd)=r:=⟨_,rfl⟩;obtain ⟨rn,rd⟩:=r;replace hFn:F (m+1)=(rn,rd):=hFn.trans hr;have hmul:∀ W,Calls Tryz.prog 51 #[zZ pn pd,zZ xn xd] W fun e w'=>e = .returned (zZ rn rd)∧Below W.heap.size W w':=fun W=>by
     have:=zhl W pn pd xn xd hp8.1 hp8.2 hx8.1 hx8.2;have e1:(jJ (pn,pd) (xn,xd)).1=rn:=by rw [hr]
     have e2:(jJ (pn,pd) (xn,xd)).2=rd:=by rw [hr]
     rw [← e1,← e2];exact this
    have HMU:=za hmul;have HNX:=za hFn;clear hmul hp hr hp8 hx8 hFn hPj hj hji hj2 hx;have s1:=h7;have s2:=lp;have s3:=lp';have s4:=h10;have s5:=lx;have s6:=lx';clear h6 h7 h10 lp lp' lx lx';go_wp2_with fail
    have HS:Hid (∀ W,Below wr.heap.size wr W→W.cell? ⟨b,14,none⟩=some (.func (.func 51) #[] #[])∧W.cell? ⟨wc.heap.size,0,none⟩=some (.string (zb pn))∧W.cell? ⟨wc.heap.size,1,none⟩=some (.string (zb pd))∧W.cell? ⟨b,17,none⟩=some (.slice (some ⟨bL,oL,none⟩) N.l.length cL)∧W.cell? ⟨bL,oL+j*2,none⟩=some (.string (zb xn))∧W.cell? ⟨bL,oL+j*2+1,none⟩=some (.string (zb xd))):=za fun W hb=>⟨zy hb s1 hbw,zy hb s2 hyw,zy hb s3 hyw,zy hb s4 hbw,zy hb s5 hbLw,zy hb s6 hbLw⟩;refine yc (n:=_) (PX:=[zc (.pointer (some ⟨b,11,none⟩)),
       zc (.pointer (some ⟨b,11,none⟩)),
       zc (.pointer (some ⟨b,14,none⟩)),
       zc (.func (.func 51) #[] #[]),
       zc (.agg #[.string (zb pn),.string (zb pd)]),
       zc (.pointer (some ⟨b,11,none⟩)),
       zc (.pointer (some ⟨b,11,none⟩)),
       zc (.pointer (some ⟨b,17,none⟩)),
       zc (.slice (some ⟨bL,oL,none⟩) N.l.length cL),
       zc (.int .i64 (j:Int)),
       zc (.pointer (some ⟨bL,oL+j*2,none⟩)),
       zc (.agg #[.string (zb xn),.string (zb xd)]),
       zc (.agg #[.string (zb rn),.string (zb rd)])])
      (AL:=[]) (DP:=[[],[0],[1],[2],[],[],[5],[6],[7],[],[8,9],[10],[3,4,11]]) (L1:=[0,1,2,3,4,5,6,7,8,9,10,11,12]) (ex:=[]) (by kernel_rfl) rfl (by kernel_rfl) ?_ ?_ (yf ?_)
    ·repeat' first|exact zO|refine ze ?_ ?_|exact fun _ _ _ _ h _=>h
    ·refine ze (zg rfl [] ?_) (ze (zg rfl [(0,some 96)] ?_) (ze (zg rfl [(1,some 97)] ?_) (ze (zg rfl [(2,some 98)] ?_) (ze (zg rfl [] ?_) (ze (zg rfl [] ?_) (ze (zg rfl [(5,some 101)] ?_) (ze (zg rfl [(6,some 102)] ?_) (ze (zg rfl [(7,some 103)] ?_) (ze (zg rfl [] ?_) (ze (zg rfl [(8,some 104),(9,some 105)] ?_) (ze (zg rfl [(10,some 106)] ?_) (ze ?_ zO))))))))))));all_goals try (intro vs W hW hd K hK;(try simp only [zR,zc,and_true,List.getD_cons_succ,List.getD_cons_zero] at hd);(first | simp only [hd,zo,Act.put,zx,zw,zv,zm,zl,zk] at hK ⊢ | simp only [zo,Act.put,zx,zw,zv,zm,zl,zk] at hK ⊢ | skip);obtain ⟨m1,m2,m3,m4,m5,m6⟩:=HS.out W hW;go_simp;exact hK.out _ _ rfl (zA _ _) (qS rfl))
     ·refine qo rfl [(3,some 99),(4,some 100),(11,some 107)] ?_;intro vs W hW hd K hK;have d3:vs 3 = .func (.func 51) #[] #[]:=hd 3 (by decide);have d4:vs 4 = .agg #[.string (zb pn),.string (zb pd)]:=hd 4 (by decide);have d11:vs 11 = .agg #[.string (zb xn),.string (zb xd)]:=hd 11 (by decide);clear hd;try simp only [d3,d4,d11,zo,Act.put,zx,zw,zv,zm,zl,zk] at hK ⊢
      go_simp;go_at_call 51;(with_reducible first | refine (HMU.out _).mono ?_);rintro e w9 ⟨rfl,hb9⟩;exact hK.out _ _ (rfl) hb9 (fun h=>absurd h (by decide))
    refine qT [(0,some 96),(1,some 97),(2,some 98),(3,some 99),(4,some 100),(5,some 101),(6,some 102),(7,some 103),(8,some 104),(9,some 105),(10,some 106),(11,some 107),(12,some 108)] #[true,true,true,true,true,true,true,true,true,true,true,true,true,false] 1 ?_;intro vs Wf hW hd hbk hdis kf;simp only [zR,zc,and_true,List.getD_cons_succ,List.getD_cons_zero] at hd;obtain ⟨d0,d1,d2,d3,d4,d5,d6,d7,d8,d9,d10,d11,d12⟩:=hd;clear hbk hdis;try simp only [d0,d1,d2,d3,d4,d5,d6,d7,d8,d9,d10,d11,d12,zo,Act.put,zx,zw,zv,zm,zl,zk]
    clear d0 d1 d2 d3 d4 d5 d6 d7 d8 d9 d10 d11 d12 vs;clear HS;have qf:=q.below hW;have c0:=qf.acc.cell (i:=0) (by decide);have z0:=qf.acc.frozen 0;have c1:=qf.acc.cell (i:=1) (by decide);have z1:=qf.acc.frozen 1;refine qt 13 (by kernel_rfl) rfl (fun K hK=>?_);go_simp;refine hK.out _ _ ?_;clear hK K;try simp only [zo,Act.put,zx,zw,zv,zm,zl,zk]
    refine qV (by kernel_rfl) ?_ _;all_goals
     try go_wp2
     go_roundw
     case rel=>exact ⟨m+1,by omega,by go_num,by rw [HNX.out];exact qf.put2 _ _⟩
     case measure=>simp [intOf];omega
   ·obtain rfl:m=xi.length:=by omega
    obtain ⟨Y,hY⟩:∃ Y,F xi.length=Y:=⟨_,rfl⟩;rw [hY] at q;have HEQ:=za (HFE.out.trans hY);clear hY;obtain ⟨Yn,Yd⟩:=Y;have r0:=q.res;have hbl2:=q.bl;have k0:wr.cell? ⟨w.heap.size+1,0,none⟩=some (.string ⟨#[]⟩):=r0.cell (i:=0) (by decide);have z0:=r0.frozen 0;have k1:wr.cell? ⟨w.heap.size+1,1,none⟩=some (.string ⟨#[]⟩):=r0.cell (i:=1) (by decide);have z1:=r0.frozen 1;have c0:wr.cell? ⟨wc.heap.size,0,none⟩=some (.string (zb Yn)):=q.acc.cell (i:=0) (by decide);have c1:wr.cell? ⟨wc.heap.size,1,none⟩=some (.string (zb Yd)):=q.acc.cell (i:=1) (by decide);clear q;go_wp2_with fail
    exact zck rfl Yn Yd rfl (zdU (yH r0 _ _)) rfl ⟨by rw [HEQ.out],(hbl2.setCell (by simp <;> omega) _).setCell (by simp <;> omega) _⟩
 ·have hF0:F 0=(0,0):=hF0';have HFN:Hid (∀ m (hm:m<xi.length) j,xi.getD m 0=((j:Nat):Int)→F (m+1)=y5 (F m) ((RP n lo hi).wide (Q.getD j (0,0)) (vl (zI (O.getD i 0) (O.getD j 0))))):=za fun m hm j hj=>by
   rw [hFs m hm];have e:xi[m]=(j:Int):=by rw [← hj,List.getD_eq_getElem?_getD,List.getElem?_eq_getElem hm];rfl
   rw [e];unfold Rg.in1;rw [if_neg (show ¬ ((4:Int)=1∨(4:Int)=3) by decide),hQ];rfl
  have q4:WxAt w (w.heap.size+1) wc.heap.size 60 2 #[.string ⟨#[]⟩,.string ⟨#[]⟩] #[.string (zb ((0,0)).1),.string (zb ((0,0)).2)] (wc.alloc (.cells #[.string ⟨#[]⟩,.string ⟨#[]⟩] 60)):=⟨hres.alloc _,by rw [yI];exact zU wc _ _ _ _ rfl rfl,Nat.ne_of_lt hres.lt,hbl.size,hbl.alloc hbl.size _⟩;have zz:wc.cell? ⟨w.heap.size+1+1+1,0,none⟩=some (.string ⟨#[]⟩):=hzz.cell (i:=0) (by decide);have xx:wc.cell? ⟨w.heap.size+1+1,2,none⟩=some (.slice A' xi.length c'):=hxx.cell (i:=2) (by decide);have zz':wc.cell? ⟨w.heap.size+1+1+1,1,none⟩=some (.string ⟨#[]⟩):=hzz.cell (i:=1) (by decide);have hzl:=hzz.lt;have hxl:=hxx.lt;clear hFs hF0' hres hxx hzz;go_wp2_with fail
  go_loopw [55] (fun t wr=>∃ m:Nat,m≤xi.length∧t = .int .i64 (m:Int)∧WxAt w (w.heap.size+1) (wc.heap.size) 60 2 #[.string ⟨#[]⟩,.string ⟨#[]⟩] #[.string (zb (F m).1),.string (zb (F m).2)] wr) (fun t _=>xi.length-(intOf t).toNat)
  case atStart=>exact ⟨0,Nat.zero_le _,rfl,by rw [hF0];exact q4⟩
  case round =>
   clear q4;obtain ⟨m,hm,rfl,q⟩:=hrel;by_cases hlt:m<xi.length
   ·obtain ⟨h6,h7,h10⟩:=HCE.out _ q.bl;obtain ⟨bI,oI,rfl,hbI,hcI⟩:=hri (by omega);have cI:=(q.bl.cell (p:=⟨bI,oI+m,none⟩) hbI).trans (hcI m hlt);clear hcI;obtain ⟨j,hj,hji⟩:=HIN.out m hlt;have hj2:zJ xi m = .int .i64 (j:Int):=by unfold zJ;rw [hj]
    rw [hj2] at cI;have hbw:b<wr.heap.size:=Nat.lt_of_lt_of_le hbs q.bl.size;have hbLw:bL<wr.heap.size:=Nat.lt_of_lt_of_le hbL q.bl.size;have hbOw:bO<wr.heap.size:=Nat.lt_of_lt_of_le hbO q.bl.size;have hyw:=q.acc.lt;have i1:(0:Int)≤(m:Int):=by omega
    have i2:(m:Int)<(xi.length:Int):=by omega
    have i3:(j:Int)<(N.l.length:Int):=by omega
    have i4:(0:Int)≤(j:Int):=by omega
    have i5:(i:Int)<(N.l.length:Int):=by omega
    have i6:(0:Int)≤(i:Int):=by omega
    have lx:wr.cell? ⟨bL,oL+j*2,none⟩=some (.string (zb (L.getD j (0,0)).1)):=(q.bl.cell (p:=⟨bL,oL+j*2,none⟩) hbL).trans ((HCLL.out (j*2) (by omega)).trans (by rw [jB]));have lx':wr.cell? ⟨bL,oL+j*2+1,none⟩=some (.string (zb (L.getD j (0,0)).2)):=(q.bl.cell (p:=⟨bL,oL+j*2+1,none⟩) hbL).trans ((HCLL.out (j*2+1) (by omega)).trans (by rw [jC]));have lp:wr.cell? ⟨wc.heap.size,0,none⟩=some (.string (zb (F m).1)):=q.acc.cell (i:=0) (by decide);have lp':wr.cell? ⟨wc.heap.size,1,none⟩=some (.string (zb (F m).2)):=q.acc.cell (i:=1) (by decide);have o1:wr.cell? ⟨bO,oO+i*2,none⟩=some (.int .u64 (Cs.lo (O.getD i 0):Int)):=(q.bl.cell (p:=⟨bO,oO+i*2,none⟩) hbO).trans ((HCO.out (i*2) (by omega)).trans (by rw [zfv]));have o2:wr.cell? ⟨bO,oO+i*2+1,none⟩=some (.int .u64 (Cs.hi (O.getD i 0):Int)):=(q.bl.cell (p:=⟨bO,oO+i*2+1,none⟩) hbO).trans ((HCO.out (i*2+1) (by omega)).trans (by rw [zfu]));have o3:wr.cell? ⟨bO,oO+j*2,none⟩=some (.int .u64 (Cs.lo (O.getD j 0):Int)):=(q.bl.cell (p:=⟨bO,oO+j*2,none⟩) hbO).trans ((HCO.out (j*2) (by omega)).trans (by rw [zfv]));have o4:wr.cell? ⟨bO,oO+j*2+1,none⟩=some (.int .u64 (Cs.hi (O.getD j 0):Int)):=(q.bl.cell (p:=⟨bO,oO+j*2+1,none⟩) hbO).trans ((HCO.out (j*2+1) (by omega)).trans (by rw [zfu]));have hx8:=HAT.out j;have hp8:=HPT.out m;have hFn:=HFN.out m hlt j hj;have hPj:=HPL.out j hji;rw [← hPj] at hFn;have hwd:=HWD.out j hji (by rw [← hj];exact zeF hlt);have hwi:=fun W (hb:Below w.heap.size w W)=>HWC.out W hb (L.getD j (0,0)).1 (L.getD j (0,0)).2 (zI (O.getD i 0) (O.getD j 0)) (HSB.out j) hwd;obtain ⟨g,hg⟩:∃ g,(RP n lo hi).wide (L.getD j (0,0)) (vl (zI (O.getD i 0) (O.getD j 0)))=g:=⟨_,rfl⟩;have hg8:=hwd 128;rw [List.take_of_length_le (zbe _),hg] at hg8;rw [hg] at hFn;obtain ⟨gn,gd⟩:=g;obtain ⟨x,hx⟩:∃ x,L.getD j (0,0)=x:=⟨_,rfl⟩;rw [hx] at hwi hg hx8 lx lx';obtain ⟨xn,xd⟩:=x;have hwi:∀ W,Below w.heap.size w W→Calls Tryz.prog 113 #[.pointer (some ⟨b,11,none⟩),zZ xn xd,zY (zI (O.getD i 0) (O.getD j 0))] W fun e w'=>e = .returned (zZ gn gd)∧Below W.heap.size W w':=fun W hb=>by
     have:=hwi W hb;rw [hg] at this;exact this
    generalize O.getD i 0=si at *
    generalize O.getD j 0=sj at *
    obtain ⟨p,hp⟩:∃ p,F m=p:=⟨_,rfl⟩;rw [hp] at hFn lp lp' hp8;obtain ⟨pn,pd⟩:=p;obtain ⟨r,hr⟩:∃ r,y5 (pn,pd) (gn,gd)=r:=⟨_,rfl⟩;obtain ⟨rn,rd⟩:=r;replace hFn:F (m+1)=(rn,rd):=hFn.trans hr;have hadd:∀ W,Calls Tryz.prog 50 #[zZ pn pd,zZ gn gd] W fun e w'=>e = .returned (zZ rn rd)∧Below W.heap.size W w':=fun W=>by
     have:=zjZ W pn pd gn gd hp8.1 hp8.2 hg8.1 hg8.2;have e1:(y5 (pn,pd) (gn,gd)).1=rn:=by rw [hr]
     have e2:(y5 (pn,pd) (gn,gd)).2=rd:=by rw [hr]
     rw [← e1,← e2];exact this
    have HAD:=za hadd;have HWI:=za hwi;have HNX:=za hFn;clear hadd hwi hg hp hr hwd hg8 hp8 hx8 hFn hPj hj hji hj2 hx;have s1:=h6;have s2:=lp;have s3:=lp';have s4:=h10;have s5:=lx;have s6:=lx';have s7:=o1;have s8:=o2;have s9:=o3;have s10:=o4;clear h6 h7 h10 lp lp' lx lx';clear o1 o2 o3 o4;go_wp2_with fail
    have HS:Hid (∀ W,Below wr.heap.size wr W→W.cell? ⟨b,13,none⟩=some (.func (.func 50) #[] #[])∧W.cell? ⟨wc.heap.size,0,none⟩=some (.string (zb pn))∧W.cell? ⟨wc.heap.size,1,none⟩=some (.string (zb pd))∧W.cell? ⟨b,17,none⟩=some (.slice (some ⟨bL,oL,none⟩) N.l.length cL)∧W.cell? ⟨bL,oL+j*2,none⟩=some (.string (zb xn))∧W.cell? ⟨bL,oL+j*2+1,none⟩=some (.string (zb xd))∧W.cell? ⟨bO,oO+i*2,none⟩=some (.int .u64 (Cs.lo si:Int))∧W.cell? ⟨bO,oO+i*2+1,none⟩=some (.int .u64 (Cs.hi si:Int))∧W.cell? ⟨bO,oO+j*2,none⟩=some (.int .u64 (Cs.lo sj:Int))∧W.cell? ⟨bO,oO+j*2+1,none⟩=some (.int .u64 (Cs.hi sj:Int))):=za fun W hb=>⟨zy hb s1 hbw,zy hb s2 hyw,zy hb s3 hyw,zy hb s4 hbw,zy hb s5 hbLw,zy hb s6 hbLw,zy hb s7 hbOw,zy hb s8 hbOw,zy hb s9 hbOw,zy hb s10 hbOw⟩;refine yc (n:=_) (PX:=[zc (.pointer (some ⟨b,11,none⟩)),
       zc (.pointer (some ⟨b,11,none⟩)),
       zc (.pointer (some ⟨b,13,none⟩)),
       zc (.func (.func 50) #[] #[]),
       zc (.agg #[.string (zb pn),.string (zb pd)]),
       zc (.pointer (some ⟨b,11,none⟩)),
       zc (.pointer (some ⟨b,11,none⟩)),
       zc (.pointer (some ⟨b,11,none⟩)),
       zc (.pointer (some ⟨b,17,none⟩)),
       zc (.slice (some ⟨bL,oL,none⟩) N.l.length cL),
       zc (.int .i64 (j:Int)),
       zc (.pointer (some ⟨bL,oL+j*2,none⟩)),
       zc (.agg #[.string (zb xn),.string (zb xd)]),
       zc (.slice (some ⟨bO,oO,none⟩) N.l.length cO),
       zc (.int .i64 (i:Int)),
       zc (.pointer (some ⟨bO,oO+i*2,none⟩)),
       zc (zY si),
       zc (.slice (some ⟨bO,oO,none⟩) N.l.length cO),
       zc (.int .i64 (j:Int)),
       zc (.pointer (some ⟨bO,oO+j*2,none⟩)),
       zc (zY sj),
       zc (zY (zI si sj)),
       zc (.agg #[.string (zb gn),.string (zb gd)]),
       zc (.agg #[.string (zb rn),.string (zb rd)])])
      (AL:=[]) (DP:=[[],[0],[1],[2],[],[],[],[6],[7],[8],[],[9,10],[11],[],[],[13,14],[15],[],[],[17,18],[19],[16,20],[5,12,21],[3,4,22]]) (L1:=[0,1,2,3,4,5,6,7,8,9,10,11,12,13,14,15,16,17,18,19,20,21,22,23]) (ex:=[]) (by kernel_rfl) rfl (by kernel_rfl) ?_ ?_ (yf ?_)
    ·repeat' first|exact zO|refine ze ?_ ?_|exact fun _ _ _ _ h _=>h
    ·refine ze (zg rfl [] ?_) (ze (zg rfl [(0,some 59)] ?_) (ze (zg rfl [(1,some 60)] ?_) (ze (zg rfl [(2,some 61)] ?_) (ze (zg rfl [] ?_) (ze (zg rfl [] ?_) (ze (zg rfl [] ?_) (ze (zg rfl [(6,some 65)] ?_) (ze (zg rfl [(7,some 66)] ?_) (ze (zg rfl [(8,some 67)] ?_) (ze (zg rfl [] ?_) (ze (zg rfl [(9,some 68),(10,some 69)] ?_) (ze (zg rfl [(11,some 70)] ?_) (ze (zg rfl [] ?_) (ze (zg rfl [] ?_) (ze (zg rfl [(13,some 72),(14,some 73)] ?_) (ze (zg rfl [(15,some 74)] ?_) (ze (zg rfl [] ?_) (ze (zg rfl [] ?_) (ze (zg rfl [(17,some 76),(18,some 77)] ?_) (ze (zg rfl [(19,some 78)] ?_) (ze ?_ (ze ?_ (ze ?_ zO)))))))))))))))))))))));all_goals try (intro vs W hW hd K hK;(try simp only [zR,zc,and_true,List.getD_cons_succ,List.getD_cons_zero] at hd);(first | simp only [hd,zo,Act.put,zx,zw,zv,zm,zl,zk] at hK ⊢ | simp only [zo,Act.put,zx,zw,zv,zm,zl,zk] at hK ⊢ | skip);obtain ⟨m1,m2,m3,m4,m5,m6,m7,m8,m9,m10⟩:=HS.out W hW;go_simp;exact hK.out _ _ rfl (zA _ _) (qS rfl))
     ·refine qo rfl [(16,some 75),(20,some 79)] ?_;intro vs W hW hd K hK;have d16:vs 16=zY si:=hd 16 (by decide);have d20:vs 20=zY sj:=hd 20 (by decide);clear hd;try simp only [d16,d20,zo,Act.put,zx,zw,zv,zm,zl,zk] at hK ⊢
      go_simp;go_at_call 111;(with_reducible first | refine (zdg _ _ _).mono ?_);rintro e w9 ⟨rfl,hb9⟩;exact hK.out _ _ (rfl) hb9 (fun h=>absurd h (by decide))
     ·refine qo rfl [(5,some 64),(12,some 71),(21,some 80)] ?_;intro vs W hW hd K hK;have d5:vs 5 = .pointer (some ⟨b,11,none⟩):=hd 5 (by decide);have d12:vs 12 = .agg #[.string (zb xn),.string (zb xd)]:=hd 12 (by decide);have d21:vs 21=zY (zI si sj):=hd 21 (by decide);clear hd;try simp only [d5,d12,d21,zo,Act.put,zx,zw,zv,zm,zl,zk] at hK ⊢
      go_simp;go_at_call 113;(with_reducible first | refine (HWI.out _ (zu q.bl hW q.bl.size)).mono ?_);rintro e w9 ⟨rfl,hb9⟩;exact hK.out _ _ (rfl) hb9 (fun h=>absurd h (by decide))
     ·refine qo rfl [(3,some 62),(4,some 63),(22,some 81)] ?_;intro vs W hW hd K hK;have d3:vs 3 = .func (.func 50) #[] #[]:=hd 3 (by decide);have d4:vs 4 = .agg #[.string (zb pn),.string (zb pd)]:=hd 4 (by decide);have d22:vs 22 = .agg #[.string (zb gn),.string (zb gd)]:=hd 22 (by decide);clear hd;try simp only [d3,d4,d22,zo,Act.put,zx,zw,zv,zm,zl,zk] at hK ⊢
      go_simp;go_at_call 50;(with_reducible first | refine (HAD.out _).mono ?_);rintro e w9 ⟨rfl,hb9⟩;exact hK.out _ _ (rfl) hb9 (fun h=>absurd h (by decide))
    refine qT [(0,some 59),(1,some 60),(2,some 61),(3,some 62),(4,some 63),(5,some 64),(6,some 65),(7,some 66),(8,some 67),(9,some 68),(10,some 69),(11,some 70),(12,some 71),(13,some 72),(14,some 73),(15,some 74),(16,some 75),(17,some 76),(18,some 77),(19,some 78),(20,some 79),(21,some 80),(22,some 81),(23,some 82)] #[true,true,true,true,true,true,true,true,true,true,true,true,true,true,true,true,true,true,true,true,true,true,true,true,false] 1 ?_;intro vs Wf hW hd hbk hdis kf;simp only [zR,zc,and_true,List.getD_cons_succ,List.getD_cons_zero] at hd;obtain ⟨d0,d1,d2,d3,d4,d5,d6,d7,d8,d9,d10,d11,d12,d13,d14,d15,d16,d17,d18,d19,d20,d21,d22,d23⟩:=hd;clear hbk hdis;try simp only [d0,d1,d2,d3,d4,d5,d6,d7,d8,d9,d10,d11,d12,d13,d14,d15,d16,d17,d18,d19,d20,d21,d22,d23,zo,Act.put,zx,zw,zv,zm,zl,zk]
    clear d0 d1 d2 d3 d4 d5 d6 d7 d8 d9 d10 d11 d12 d13 d14 d15 d16 d17 d18 d19 d20 d21 d22 d23 vs;clear HS;have qf:=q.below hW;have c0:=qf.acc.cell (i:=0) (by decide);have z0:=qf.acc.frozen 0;have c1:=qf.acc.cell (i:=1) (by decide);have z1:=qf.acc.frozen 1;refine qt 24 (by kernel_rfl) rfl (fun K hK=>?_);go_simp;refine hK.out _ _ ?_;clear hK K;try simp only [zo,Act.put,zx,zw,zv,zm,zl,zk]
    refine qV (by kernel_rfl) ?_ _;all_goals
     try go_wp2
     go_roundw
     case rel=>exact ⟨m+1,by omega,by go_num,by rw [HNX.out];exact qf.put2 _ _⟩
     case measure=>simp [intOf];omega
   ·obtain rfl:m=xi.length:=by omega
    obtain ⟨Y,hY⟩:∃ Y,F xi.length=Y:=⟨_,rfl⟩;rw [hY] at q;have HEQ:=za (HFE.out.trans hY);clear hY;obtain ⟨Yn,Yd⟩:=Y;have r0:=q.res;have hbl2:=q.bl;have k0:wr.cell? ⟨w.heap.size+1,0,none⟩=some (.string ⟨#[]⟩):=r0.cell (i:=0) (by decide);have z0:=r0.frozen 0;have k1:wr.cell? ⟨w.heap.size+1,1,none⟩=some (.string ⟨#[]⟩):=r0.cell (i:=1) (by decide);have z1:=r0.frozen 1;have c0:wr.cell? ⟨wc.heap.size,0,none⟩=some (.string (zb Yn)):=q.acc.cell (i:=0) (by decide);have c1:wr.cell? ⟨wc.heap.size,1,none⟩=some (.string (zb Yd)):=q.acc.cell (i:=1) (by decide);clear q;go_wp2_with fail
    exact zck rfl Yn Yd rfl (zdU (yH r0 _ _)) rfl ⟨by rw [HEQ.out],(hbl2.setCell (by simp <;> omega) _).setCell (by simp <;> omega) _⟩
end Go.Proofs.YtoljkoifgnmbgaaGreatDoor
