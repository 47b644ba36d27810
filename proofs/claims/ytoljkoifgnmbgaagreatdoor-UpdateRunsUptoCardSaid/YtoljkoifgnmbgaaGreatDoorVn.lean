import Derived.Test.YtoljkoifgnmbgaaGreatDoorVw
import Derived.Test.YtoljkoifgnmbgaaGreatDoorQ2
import Derived.WalkMore
set_option linter.unusedSimpArgs false
set_option linter.unusedVariables false
set_option maxRecDepth 100000
set_option maxHeartbeats 8000000
open Go Go.RowKit Cs
namespace Go.Proofs.YtoljkoifgnmbgaaGreatDoor
theorem ratRow0 {w:World} {g:Nat} {t:TypeId} (h:w.rowIs g t 2 (zE #[.string ⟨#[]⟩,.string ⟨#[]⟩])):w.rowIs g t 2 (zl8 0 0):=zdU (by rw [yI];exact h)
theorem zgE {x:Nd} {n b:Int} (h:qK x n b=true):x.kind=0∨x.kind=1∨x.kind=2→x.ins=[]:=fun h1=>by
 rcases zba h with ⟨_,h2⟩ | h2 | h2
 ·exact List.length_eq_zero_iff.1 h2
 ·omega
 ·omega
theorem zfv (L:List Nat) (j:Nat):zK L (j*2) = .int .u64 (Cs.lo (L.getD j 0):Int):=by
 unfold zK;rw [if_pos (by omega),Nat.mul_div_cancel _ (by decide)]
theorem zfu (L:List Nat) (j:Nat):zK L (j*2+1) = .int .u64 (Cs.hi (L.getD j 0):Int):=by
 unfold zK;rw [if_neg (by omega),show (j*2+1) / 2=j by omega]
theorem zeF {xi:List Int} {m:Nat} (h:m<xi.length):xi.getD m 0∈xi:=by
 rw [List.getD_eq_getElem?_getD,List.getElem?_eq_getElem h];exact List.getElem_mem h
theorem lit_range {l:Int} {n:Int} {k:Nat} (h:qi l n=true) (hn:n=(k:Int)) (hk:k≤128):1≤l.natAbs∧l.natAbs≤k:=by
 unfold qi at h;simp at h;have h0:=h.1;have h1:=h.2;unfold zQ at h0 h1;by_cases c1:1≤l∧l≤128
 ·rw [if_pos c1] at h1;omega
 ·rw [if_neg c1] at h0 h1;by_cases c2:l≤-1∧-128≤l
  ·rw [if_pos c2] at h1;omega
  ·rw [if_neg c2] at h0;exact absurd rfl h0
structure WxAt (w:World) (g1 g2:Nat) (T:TypeId) (k:Nat) (z y:Array Value) (wr:World):Prop where
 res:wr.rowIs g1 T k (zE z)
 acc:wr.rowIs g2 T k (zE y)
 ne:g1≠g2
 le:w.heap.size≤g2
 bl:Below w.heap.size w wr
section
variable {w wr w':World} {T:TypeId} {g1 g2 k:Nat} {z y:Array Value}
theorem WxAt.below (h:WxAt w g1 g2 T k z y wr) (hb:Below wr.heap.size wr w'):WxAt w g1 g2 T k z y w':=⟨zh h.res hb,zh h.acc hb,h.ne,h.le,zu h.bl hb h.bl.size⟩
theorem WxAt.put1 (h:WxAt w g1 g2 T 1 z y wr) (v:Value):WxAt w g1 g2 T 1 z #[v] (wr.setCell ⟨g2,0,none⟩ v) :=
 ⟨h.res.setOther (show g1≠g2 from h.ne) _,((h.acc.set 0 v).congr fun i hi=>by
   have e:i=0:=by omega
   subst e;rfl),h.ne,h.le,h.bl.setCell (p:=⟨g2,0,none⟩) h.le _⟩
theorem WxAt.put2 (h:WxAt w g1 g2 T 2 z y wr) (u v:Value):WxAt w g1 g2 T 2 z #[u,v] ((wr.setCell ⟨g2,0,none⟩ u).setCell ⟨g2,1,none⟩ v) :=
 ⟨(h.res.setOther (show g1≠g2 from h.ne) _).setOther (show g1≠g2 from h.ne) _,yH h.acc u v,h.ne,h.le,(h.bl.setCell (p:=⟨g2,0,none⟩) h.le _).setCell (p:=⟨g2,1,none⟩) h.le _⟩
end
theorem pu (w:World) (N:Nt) (A Al Ah AL Ao:Option Addr) (b c cl ch cL cO n i:Nat) (lo hi L Q:List Nat) (hT:Tab w) (hbs:b<w.heap.size)
  (h5:w.cell? ⟨b,5,none⟩=some (.string (zb 1))) (h6:w.cell? ⟨b,6,none⟩=some (.func (.func 36) #[] #[])) (h7:w.cell? ⟨b,7,none⟩=some (.func (.func 48) #[] #[])) (h8:w.cell? ⟨b,8,none⟩=some (.slice Al (n+1) cl)) (h9:w.cell? ⟨b,9,none⟩=some (.slice Ah (n+1) ch))
  (h10:w.cell? ⟨b,10,none⟩=some (.slice AL N.l.length cL))
  (hlo:Rd w w.heap.size Al ((n+1)) (qI lo)) (hhi:Rd w w.heap.size Ah ((n+1)) (qI hi)) (hL:Rd w w.heap.size AL (N.l.length) (qI L)) (hO:Rd w w.heap.size Ao (N.l.length*2) (zK (own N.l)))
  (hN:NtAt w w.heap.size A N.l) (hv:zC N=true) (hn:N.n=(n:Int)) (hi1:i<N.l.length) (hQ:Q.length=i) (hQL:∀ j,j<i→L.getD j 0=Q.getD j 0)
  (hpt:∀ m,n8 ((N.l[i].ins.take m).foldl ((RL n lo hi).in1 (own N.l) Q N.l[i]) ((RL n lo hi).start N.l[i]))≤100000) (hat:∀ j,n8 (L.getD j 0)≤100000)
  (hwd:∀ j:Nat,j<i→(j:Int)∈N.l[i].ins→∀ m,n8 ((RL n lo hi).wide (L.getD j 0) ((vl (zI ((own N.l).getD i 0) ((own N.l).getD j 0))).take m))≤100000)
  (hb1:∀ v,1≤v→n8 (lo.getD v 0)≤100000∧n8 (hi.getD v 0)≤100000) (hb2:∀ u,n8 ((RL n lo hi).both u)≤100000) :
  Calls Tryz.prog 95 #[.pointer (some ⟨b,5,none⟩),ql N A c,.slice Ao N.l.length cO,.int .i64 (i:Int)] w fun e w'=>e = .returned (zD ((RL n lo hi).step (own N.l) Q N.l[i]))∧Below w.heap.size w w':=by
 have hfk:=yT hv i hi1;have hn128:=yF hv hn;obtain ⟨bN,oN,rfl,hbN,hcs⟩:=hN (by omega);obtain ⟨hk1,hk2,⟨A',c',hk3,hri⟩,hr1,hr2,hr3,hr4⟩:=hcs i hi1;obtain ⟨bL,oL,rfl,hbL,hcLL⟩:=hL (by omega);obtain ⟨bO,oO,rfl,hbO,hcO⟩:=hO (by omega);have HCLL:=za hcLL;have HCO:=za hcO;have hsb:∀ j,∀ u∈vl (zI ((own N.l).getD i 0) ((own N.l).getD j 0)),u.natAbs≤n:=fun j u hu=>by
  obtain ⟨k,hk,rfl⟩:=zdN hu;rw [jQ,Bool.and_eq_true] at hk;have:=zcn hv (i+1) i (Nat.lt_succ_self i) hi1 k hk.1;omega
 have hwc:=fun W (hb:Below w.heap.size w W) x s hs hsm=>ziv W b cl ch n lo hi Al Ah x s (hT.below hb) (Nat.lt_of_lt_of_le hbs hb.size) (zy hb h6 hbs) (zy hb h7 hbs) (zy hb h8 hbs) (zy hb h9 hbs)
  ((hlo.below hb).more hb.size) ((hhi.below hb).more hb.size) hs hsm hb1 hb2
 have hins:∀ m,m<N.l[i].ins.length→∃ j:Nat,N.l[i].ins.getD m 0=(j:Int)∧j<i:=formed_ins hfk;have hlitok:N.l[i].kind=2→1≤N.l[i].lit.natAbs∧N.l[i].lit.natAbs≤n:=fun h2=>lit_range (zbl hfk h2).1 hn hn128;have hkd:=zeG hfk;have hnil:N.l[i].kind=0∨N.l[i].kind=1∨N.l[i].kind=2→N.l[i].ins=[]:=zgE hfk;have hstep:(RL n lo hi).step (own N.l) Q N.l[i]=N.l[i].ins.foldl ((RL n lo hi).in1 (own N.l) Q N.l[i]) ((RL n lo hi).start N.l[i]):=rfl;obtain ⟨⟨xk,xq,xi⟩,hx⟩:∃ x,N.l[i]=x:=⟨_,rfl⟩;obtain ⟨O,hOw⟩:∃ O,own N.l=O:=⟨_,rfl⟩;rw [hOw] at hpt hwd hsb hstep;rw [hx] at hpt hwd hk1 hk2 hk3 hri hr1 hr2 hr3 hr4 hins hkd hstep hlitok hnil;simp only [hOw] at HCO;simp only at hri hk1 hk2 hk3 hr4 hins hkd hlitok hnil;rw [show own N.l=O from hOw];rw [hx];have HWC:=za hwc;have HSB:=za hsb;have HWD:=za hwd;have HAT:=za hat;have HIN:=za hins;have HPL:=za hQL;obtain ⟨F,hF⟩:∃ F:Nat→Nat,F=fun m=>(xi.take m).foldl ((RL n lo hi).in1 O Q ⟨xk,xq,xi⟩) ((RL n lo hi).start ⟨xk,xq,xi⟩):=⟨_,rfl⟩;have hpt':∀ m,n8 (F m)≤100000:=fun m=>by rw [hF];exact hpt m
 have HPT:=za hpt';have hFE:(RL n lo hi).step O Q ⟨xk,xq,xi⟩=F xi.length:=by rw [hstep,hF];simp only [List.take_length]
 have HFE:=za hFE;have hFs:∀ m (hm:m<xi.length),F (m+1)=(RL n lo hi).in1 O Q ⟨xk,xq,xi⟩ (F m) xi[m]:=fun m hm=>by
  rw [hF];simp only;rw [List.take_succ_eq_append_getElem hm,List.foldl_append];rfl
 have hF0':F 0=(RL n lo hi).start ⟨xk,xq,xi⟩:=by rw [hF];rfl
 have HCE:=za (show ∀ W,Below w.heap.size w W→W.cell? ⟨b,6,none⟩=some (.func (.func 36) #[] #[])∧W.cell? ⟨b,7,none⟩=some (.func (.func 48) #[] #[])∧W.cell? ⟨b,10,none⟩=some (.slice (some ⟨bL,oL,none⟩) N.l.length cL) from
  fun W hb=>⟨zy hb h6 hbs,zy hb h7 hbs,zy hb h10 hbs⟩)
 clear hpt hwd hsb hwc hins hstep hcs hF hpt' hFE hcLL hcO hOw hfk hQL hat;go_enter Tryz.func95, Tryz.ntmps95;have HNIL:=za hnil;have HLK:=za hlitok;clear hnil hlitok;have i1:(0:Int)≤(i:Int):=by omega
 have i2:(i:Int)<(N.l.length:Int):=by omega
 go_upto_region 3 with (fail)
 go_cut [23] from 22 to 23 (fun t wx=>t = .int .i64 xk∧wx.rowIs (w.heap.size+1) 54 1 (zE #[.string ⟨#[]⟩])∧wx.rowIs (w.heap.size+1+1) 76 3 (zE #[.int .i64 xk,.int .i64 xq,.slice A' xi.length c'])∧wx.rowIs (w.heap.size+1+1+1) 54 1 (zE #[.string ⟨#[]⟩])∧Below w.heap.size w wx)
 case first =>
  have a1:=((zU (w.alloc (.cells #[.int .i64 (n:Int),.slice (some ⟨bN,oN,none⟩) N.l.length c] 24)) #[.string ⟨#[]⟩] 54 (w.heap.size+1) 1 (by simp) rfl).alloc (.cells #[.int .i64 xk,.int .i64 xq,.slice A' xi.length c'] 76)).alloc (.cells #[.string ⟨#[]⟩] 54);have a2:=(zU ((w.alloc (.cells #[.int .i64 (n:Int),.slice (some ⟨bN,oN,none⟩) N.l.length c] 24)).alloc (.cells #[.string ⟨#[]⟩] 54)) #[.int .i64 xk,.int .i64 xq,.slice A' xi.length c'] 76 (w.heap.size+1+1) 3 (by simp) rfl).alloc (.cells #[.string ⟨#[]⟩] 54);have a3:=zU (((w.alloc (.cells #[.int .i64 (n:Int),.slice (some ⟨bN,oN,none⟩) N.l.length c] 24)).alloc (.cells #[.string ⟨#[]⟩] 54)).alloc (.cells #[.int .i64 xk,.int .i64 xq,.slice A' xi.length c'] 76)) #[.string ⟨#[]⟩] 54 (w.heap.size+1+1+1) 1 (by simp) rfl;have a4:=(((((Below.refl w.heap.size w).alloc (zi _) (.cells #[.int .i64 (n:Int),.slice (some ⟨bN,oN,none⟩) N.l.length c] 24)).alloc (by simp) (.cells #[.string ⟨#[]⟩] 54)).alloc (by simp;omega) (.cells #[.int .i64 xk,.int .i64 xq,.slice A' xi.length c'] 76)).alloc (by simp;omega) (.cells #[.string ⟨#[]⟩] 54));go_wp2_with fail
  go_meet;exact ⟨rfl,a1,a2,a3,a4⟩
 case rest =>
 obtain ⟨rfl,hres,hxx,hzz,hbl⟩:=hcut;clear hk1 hk2 hk3;rcases hkd with rfl | rfl | rfl | rfl | rfl
 ·have zz:wc.cell? ⟨w.heap.size+1+1+1,0,none⟩=some (.string ⟨#[]⟩):=hzz.cell (i:=0) (by decide);have k0:wc.cell? ⟨w.heap.size+1,0,none⟩=some (.string ⟨#[]⟩):=hres.cell (i:=0) (by decide);have z0:=hres.frozen 0;have hzl:=hzz.lt;have hrl:=hres.lt;have hF0z:F xi.length=0:=by
   rw [(HNIL.out (Or.inl rfl):xi=[])];exact hF0'
  clear hFs hF0';go_wp2_with fail
  exact yN rfl (zb 0) rfl ((hres.set 0 (.string ⟨#[]⟩)).congr fun i hi=>by
   have e:i=0:=by omega
   subst e;rw [yI];rfl) rfl ⟨by rw [HFE.out,hF0z],hbl.setCell (by simp <;> omega) _⟩
 ·have hF0:F 0=1:=hF0';have HFN:Hid (∀ m (hm:m<xi.length) j,xi.getD m 0=((j:Nat):Int)→F (m+1)=F m*Q.getD j 0):=za fun m hm j hj=>by
   rw [hFs m hm];have e:xi[m]=(j:Int):=by rw [← hj,List.getD_eq_getElem?_getD,List.getElem?_eq_getElem hm];rfl
   rw [e];unfold Rg.in1;rw [if_pos (Or.inl rfl)];rfl
  have q4:WxAt w (w.heap.size+1) wc.heap.size 54 1 #[.string ⟨#[]⟩] #[.string (zb 1)] (wc.alloc (.cells #[.string (zb 1)] 54)):=⟨hres.alloc _,zU wc _ _ _ _ rfl rfl,Nat.ne_of_lt hres.lt,hbl.size,hbl.alloc hbl.size _⟩;have l5:wc.cell? ⟨b,5,none⟩=some (.string (zb 1)):=zy hbl h5 hbs;have hbw:=Nat.lt_of_lt_of_le hbs hbl.size;have zz:wc.cell? ⟨w.heap.size+1+1+1,0,none⟩=some (.string ⟨#[]⟩):=hzz.cell (i:=0) (by decide);have xx:wc.cell? ⟨w.heap.size+1+1,2,none⟩=some (.slice A' xi.length c'):=hxx.cell (i:=2) (by decide);have hzl:=hzz.lt;have hxl:=hxx.lt;clear hFs hF0' hres hxx hzz;go_wp2_with fail
  go_loopw [92] (fun t wr=>∃ m:Nat,m≤xi.length∧t = .int .i64 (m:Int)∧WxAt w (w.heap.size+1) (wc.heap.size) 54 1 #[.string ⟨#[]⟩] #[.string (zb (F m))] wr) (fun t _=>xi.length-(intOf t).toNat)
  case atStart=>exact ⟨0,Nat.zero_le _,rfl,by rw [hF0];exact q4⟩
  case round =>
   clear q4;obtain ⟨m,hm,rfl,q⟩:=hrel;by_cases hlt:m<xi.length
   ·obtain ⟨h6,h7,h10⟩:=HCE.out _ q.bl;obtain ⟨bI,oI,rfl,hbI,hcI⟩:=hri (by omega);have cI:=(q.bl.cell (p:=⟨bI,oI+m,none⟩) hbI).trans (hcI m hlt);clear hcI;obtain ⟨j,hj,hji⟩:=HIN.out m hlt;have hj2:zJ xi m = .int .i64 (j:Int):=by unfold zJ;rw [hj]
    rw [hj2] at cI;have hbw:b<wr.heap.size:=Nat.lt_of_lt_of_le hbs q.bl.size;have hbLw:bL<wr.heap.size:=Nat.lt_of_lt_of_le hbL q.bl.size;have hbOw:bO<wr.heap.size:=Nat.lt_of_lt_of_le hbO q.bl.size;have hyw:=q.acc.lt;have i1:(0:Int)≤(m:Int):=by omega
    have i2:(m:Int)<(xi.length:Int):=by omega
    have i3:(j:Int)<(N.l.length:Int):=by omega
    have i4:(0:Int)≤(j:Int):=by omega
    have i5:(i:Int)<(N.l.length:Int):=by omega
    have i6:(0:Int)≤(i:Int):=by omega
    have lx:wr.cell? ⟨bL,oL+j,none⟩=some (.string (zb (L.getD j 0))):=(q.bl.cell (p:=⟨bL,oL+j,none⟩) hbL).trans (HCLL.out j (by omega));have lp:wr.cell? ⟨wc.heap.size,0,none⟩=some (.string (zb (F m))):=q.acc.cell (i:=0) (by decide);have hx8:=HAT.out j;have hp8:=HPT.out m;have hFn:=HFN.out m hlt j hj;have hPj:=HPL.out j hji;rw [← hPj] at hFn;generalize L.getD j 0=x at *
    obtain ⟨p,hp⟩:∃ p,F m=p:=⟨_,rfl⟩;rw [hp] at hFn lp hp8;obtain ⟨r,hr⟩:∃ r,p*x=r:=⟨_,rfl⟩;replace hFn:F (m+1)=r:=hFn.trans hr;have hmul:∀ W,Calls Tryz.prog 48 #[zD p,zD x] W fun e w'=>e = .returned (zD r)∧Below W.heap.size W w':=fun W=>by rw [← hr];exact zcp W p x (by omega) (by omega)
    have HMU:=za hmul;have HNX:=za hFn;clear hmul hp hr hp8 hx8 hFn hPj hj hji hj2;have s1:=h7;have s2:=lp;have s3:=h10;have s4:=lx;clear h6 h7 h10 lp lx;go_wp2_with fail
    have HS:Hid (∀ W,Below wr.heap.size wr W→W.cell? ⟨b,7,none⟩=some (.func (.func 48) #[] #[])∧W.cell? ⟨wc.heap.size,0,none⟩=some (.string (zb p))∧W.cell? ⟨b,10,none⟩=some (.slice (some ⟨bL,oL,none⟩) N.l.length cL)∧W.cell? ⟨bL,oL+j,none⟩=some (.string (zb x))):=za fun W hb=>⟨zy hb s1 hbw,zy hb s2 hyw,zy hb s3 hbw,zy hb s4 hbLw⟩;refine yc (n:=_) (PX:=[zc (.pointer (some ⟨b,5,none⟩)),
       zc (.pointer (some ⟨b,5,none⟩)),
       zc (.pointer (some ⟨b,7,none⟩)),
       zc (.func (.func 48) #[] #[]),
       zc (.agg #[.string (zb p)]),
       zc (.pointer (some ⟨b,5,none⟩)),
       zc (.pointer (some ⟨b,5,none⟩)),
       zc (.pointer (some ⟨b,10,none⟩)),
       zc (.slice (some ⟨bL,oL,none⟩) N.l.length cL),
       zc (.int .i64 (j:Int)),
       zc (.pointer (some ⟨bL,oL+j,none⟩)),
       zc (.agg #[.string (zb x)]),
       zc (.agg #[.string (zb r)])])
      (AL:=[]) (DP:=[[],[0],[1],[2],[],[],[5],[6],[7],[],[8,9],[10],[3,4,11]]) (L1:=[0,1,2,3,4,5,6,7,8,9,10,11,12]) (ex:=[]) (by kernel_rfl) rfl (by kernel_rfl) ?_ ?_ (yf ?_)
    ·repeat' first|exact zO|refine ze ?_ ?_|exact fun _ _ _ _ h _=>h
    ·refine ze (zg rfl [] ?_) (ze (zg rfl [(0,some 96)] ?_) (ze (zg rfl [(1,some 97)] ?_) (ze (zg rfl [(2,some 98)] ?_) (ze (zg rfl [] ?_) (ze (zg rfl [] ?_) (ze (zg rfl [(5,some 101)] ?_) (ze (zg rfl [(6,some 102)] ?_) (ze (zg rfl [(7,some 103)] ?_) (ze (zg rfl [] ?_) (ze (zg rfl [(8,some 104),(9,some 105)] ?_) (ze (zg rfl [(10,some 106)] ?_) (ze ?_ zO))))))))))));all_goals try (intro vs W hW hd K hK;(try simp only [zR,zc,and_true,List.getD_cons_succ,List.getD_cons_zero] at hd);(first | simp only [hd,zo,Act.put,zx,zw,zv,zm,zl,zk] at hK ⊢ | simp only [zo,Act.put,zx,zw,zv,zm,zl,zk] at hK ⊢ | skip);obtain ⟨m1,m2,m3,m4⟩:=HS.out W hW;go_simp;exact hK.out _ _ rfl (zA _ _) (qS rfl))
     ·refine qo rfl [(3,some 99),(4,some 100),(11,some 107)] ?_;intro vs W hW hd K hK;have d3:vs 3 = .func (.func 48) #[] #[]:=hd 3 (by decide);have d4:vs 4 = .agg #[.string (zb p)]:=hd 4 (by decide);have d11:vs 11 = .agg #[.string (zb x)]:=hd 11 (by decide);clear hd;try simp only [d3,d4,d11,zo,Act.put,zx,zw,zv,zm,zl,zk] at hK ⊢
      go_simp;go_at_call 48;(with_reducible first | refine (HMU.out _).mono ?_);rintro e w9 ⟨rfl,hb9⟩;exact hK.out _ _ (rfl) hb9 (fun h=>absurd h (by decide))
    refine qT [(0,some 96),(1,some 97),(2,some 98),(3,some 99),(4,some 100),(5,some 101),(6,some 102),(7,some 103),(8,some 104),(9,some 105),(10,some 106),(11,some 107),(12,some 108)] #[true,true,true,true,true,true,true,true,true,true,true,true,true,false] 1 ?_;intro vs Wf hW hd hbk hdis kf;simp only [zR,zc,and_true,List.getD_cons_succ,List.getD_cons_zero] at hd;obtain ⟨d0,d1,d2,d3,d4,d5,d6,d7,d8,d9,d10,d11,d12⟩:=hd;clear hbk hdis;try simp only [d0,d1,d2,d3,d4,d5,d6,d7,d8,d9,d10,d11,d12,zo,Act.put,zx,zw,zv,zm,zl,zk]
    clear d0 d1 d2 d3 d4 d5 d6 d7 d8 d9 d10 d11 d12 vs;clear HS;have qf:=q.below hW;have c0:=qf.acc.cell (i:=0) (by decide);have z0:=qf.acc.frozen 0;refine qt 13 (by kernel_rfl) rfl (fun K hK=>?_);go_simp;refine hK.out _ _ ?_;clear hK K;try simp only [zo,Act.put,zx,zw,zv,zm,zl,zk]
    refine qV (by kernel_rfl) ?_ _;all_goals
     try go_wp2
     go_roundw
     case rel=>exact ⟨m+1,by omega,by go_num,by rw [HNX.out];exact qf.put1 _⟩
     case measure=>simp [intOf];omega
   ·obtain rfl:m=xi.length:=by omega
    obtain ⟨Y,hY⟩:∃ Y,F xi.length=Y:=⟨_,rfl⟩;rw [hY] at q;have HEQ:=za (HFE.out.trans hY);clear hY;have r0:=q.res;have hbl2:=q.bl;have k0:wr.cell? ⟨w.heap.size+1,0,none⟩=some (.string ⟨#[]⟩):=r0.cell (i:=0) (by decide);have z0:=r0.frozen 0;have c0:wr.cell? ⟨wc.heap.size,0,none⟩=some (.string (zb Y)):=q.acc.cell (i:=0) (by decide);clear q;go_wp2_with fail
    exact yN rfl _ rfl ((r0.set 0 (.string (zb Y))).congr fun i hi=>by
     have e:i=0:=by omega
     subst e;rfl) rfl ⟨by rw [HEQ.out],hbl2.setCell (by simp <;> omega) _⟩
 ·have hlk:=HLK.out rfl;have hlk:=And.intro hlk (HNIL.out (Or.inr (Or.inr rfl)):xi=[]);have hbl0:=hbl;clear hFs;have hrr:=hres;by_cases hneg:xq<0
  ·obtain ⟨bl,ol,rfl,hbbl,hcl⟩:=hlo (by omega);obtain ⟨v,hv⟩:∃ v:Nat,-xq=(v:Int):=⟨(-xq).toNat,by omega⟩;have hv1:v=xq.natAbs:=by omega
   have hlv:F xi.length=lo.getD v 0:=by
    rw [(hlk.2:xi=[])];show F 0=_;rw [hF0'];show (RL n lo hi).lit xq=_;show qZ n lo hi xq=_;unfold qZ;rw [if_pos hlk.1,if_pos (by omega),hv1]
   have lx:wc.cell? ⟨bl,ol+v,none⟩=some (.string (zb (lo.getD v 0))):=(hbl0.cell (p:=⟨bl,ol+v,none⟩) hbbl).trans (hcl v (by omega));obtain ⟨x,hx⟩:∃ x,lo.getD v 0=x:=⟨_,rfl⟩;rw [hx] at lx hlv;have lh:wc.cell? ⟨b,8,none⟩=some (.slice (some ⟨bl,ol,none⟩) (n+1) cl):=zy hbl0 h8 hbs;have hbw:=Nat.lt_of_lt_of_le hbs hbl0.size;have hxw:=hxx.lt;have hlw:bl<wc.heap.size:=Nat.lt_of_lt_of_le hbbl hbl0.size;have HY:=za (HFE.out.trans hlv);obtain rfl:xq = -(v:Int):=by omega
   have jw1:IntKind.i64.wrap (v:Int)=(v:Int):=by rw [IntKind.wrap_i64];omega
   have jw2:IntKind.i64.wrap (-(-(v:Int)))=(v:Int):=by rw [IntKind.wrap_i64];omega
   have jp:0<v:=by omega
   clear hv hv1 hlv hlk hneg hx hF0';have j1:(0:Int)≤(v:Int):=by omega
   have j2:(v:Int)<(n:Int)+1:=by omega
   have xx:wc.cell? ⟨w.heap.size+1+1,1,none⟩=some (.int .i64 (-(v:Int))):=hxx.cell (i:=1) (by decide);go_wp2_with fail
   have s1:=lh;have s2:=xx;have s3:=lx;clear lh xx lx;have HS:Hid (∀ W,Below wc.heap.size wc W→W.cell? ⟨b,8,none⟩=some (.slice (some ⟨bl,ol,none⟩) (n+1) cl)∧W.cell? ⟨w.heap.size+1+1,1,none⟩=some (.int .i64 (-(v:Int)))∧W.cell? ⟨bl,ol+v,none⟩=some (.string (zb x))):=za fun W hb=>⟨zy hb s1 hbw,zy hb s2 hxw,zy hb s3 hlw⟩;refine yc (n:=_) (PX:=[zc (.pointer (some ⟨b,5,none⟩)),
      zc (.pointer (some ⟨b,5,none⟩)),
      zc (.pointer (some ⟨b,8,none⟩)),
      zc (.slice (some ⟨bl,ol,none⟩) (n+1) cl),
      zc (.pointer (some ⟨w.heap.size+1+1,1,none⟩)),
      zc (.int .i64 (-(v:Int))),
      zc (.int .i64 (v:Int)),
      zc (.pointer (some ⟨bl,ol+v,none⟩)),
      zc (.agg #[.string (zb x)])])
     (AL:=[]) (DP:=[[],[0],[1],[2],[],[4],[5],[3,6],[7]]) (L1:=[0,1,2,3,4,5,6,7,8]) (ex:=[]) (by kernel_rfl) rfl (by kernel_rfl) ?_ ?_ (yf ?_)
   ·repeat' first|exact zO|refine ze ?_ ?_|exact fun _ _ _ _ h _=>h
   ·refine ze (zg rfl [] ?_) (ze (zg rfl [(0,some 32)] ?_) (ze (zg rfl [(1,some 33)] ?_) (ze (zg rfl [(2,some 34)] ?_) (ze (zg rfl [] ?_) (ze (zg rfl [(4,some 36)] ?_) (ze (zg rfl [(5,some 37)] ?_) (ze (zg rfl [(3,some 35),(6,some 38)] ?_) (ze (zg rfl [(7,some 39)] ?_) zO))))))));all_goals (intro vs W hW hd K hK;(try simp only [zR,zc,and_true,List.getD_cons_succ,List.getD_cons_zero] at hd);(first | simp only [hd,zo,Act.put,zx,zw,zv,zm,zl,zk] at hK ⊢ | simp only [zo,Act.put,zx,zw,zv,zm,zl,zk] at hK ⊢ | skip);obtain ⟨m1,m2,m3⟩:=HS.out W hW;go_simp;exact hK.out _ _ rfl (zA _ _) (qS rfl))
   refine qT [(0,some 32),(1,some 33),(2,some 34),(3,some 35),(4,some 36),(5,some 37),(6,some 38),(7,some 39),(8,some 40)] #[true,true,true,true,true,true,true,true,true,false] 1 ?_;intro vs Wf hW hd hbk hdis kf;simp only [zR,zc,and_true,List.getD_cons_succ,List.getD_cons_zero] at hd;obtain ⟨d0,d1,d2,d3,d4,d5,d6,d7,d8⟩:=hd;clear hbk hdis;try simp only [d0,d1,d2,d3,d4,d5,d6,d7,d8,zo,Act.put,zx,zw,zv,zm,zl,zk]
   clear d0 d1 d2 d3 d4 d5 d6 d7 d8 vs;clear HS;have rf:=zh hrr hW;have c0:Wf.cell? ⟨w.heap.size+1,0,none⟩=some (.string ⟨#[]⟩):=rf.cell (i:=0) (by decide);have z0:=rf.frozen 0;refine qt 9 (by kernel_rfl) rfl (fun K hK=>?_);go_simp;refine hK.out _ _ ?_;clear hK K;try simp only [zo,Act.put,zx,zw,zv,zm,zl,zk]
   refine qV (by kernel_rfl) ?_ _;all_goals
    have hbf:=zu hbl0 hW hbl0.size;try go_wp2
    exact yN rfl _ rfl ((rf.set 0 (.string (zb x))).congr fun i hi=>by
     have e:i=0:=by omega
     subst e;rfl) rfl ⟨by rw [HY.out],hbf.setCell (by simp <;> omega) _⟩
  ·obtain ⟨bh,oh,rfl,hbbh,hch⟩:=hhi (by omega);obtain ⟨v,hv⟩:∃ v:Nat,xq=(v:Int):=⟨(xq).toNat,by omega⟩;have hv1:v=xq.natAbs:=by omega
   have hlv:F xi.length=hi.getD v 0:=by
    rw [(hlk.2:xi=[])];show F 0=_;rw [hF0'];show (RL n lo hi).lit xq=_;show qZ n lo hi xq=_;unfold qZ;rw [if_pos hlk.1,if_neg (by omega),hv1]
   have lx:wc.cell? ⟨bh,oh+v,none⟩=some (.string (zb (hi.getD v 0))):=(hbl0.cell (p:=⟨bh,oh+v,none⟩) hbbh).trans (hch v (by omega));obtain ⟨x,hx⟩:∃ x,hi.getD v 0=x:=⟨_,rfl⟩;rw [hx] at lx hlv;have lh:wc.cell? ⟨b,9,none⟩=some (.slice (some ⟨bh,oh,none⟩) (n+1) ch):=zy hbl0 h9 hbs;have hbw:=Nat.lt_of_lt_of_le hbs hbl0.size;have hxw:=hxx.lt;have hlw:bh<wc.heap.size:=Nat.lt_of_lt_of_le hbbh hbl0.size;have HY:=za (HFE.out.trans hlv);obtain rfl:xq=(v:Int):=by omega
   clear hv hv1 hlv hlk hneg hx hF0';have j1:(0:Int)≤(v:Int):=by omega
   have j2:(v:Int)<(n:Int)+1:=by omega
   have xx:wc.cell? ⟨w.heap.size+1+1,1,none⟩=some (.int .i64 (v:Int)):=hxx.cell (i:=1) (by decide);go_wp2_with fail
   have s1:=lh;have s2:=xx;have s3:=lx;clear lh xx lx;have HS:Hid (∀ W,Below wc.heap.size wc W→W.cell? ⟨b,9,none⟩=some (.slice (some ⟨bh,oh,none⟩) (n+1) ch)∧W.cell? ⟨w.heap.size+1+1,1,none⟩=some (.int .i64 (v:Int))∧W.cell? ⟨bh,oh+v,none⟩=some (.string (zb x))):=za fun W hb=>⟨zy hb s1 hbw,zy hb s2 hxw,zy hb s3 hlw⟩;refine yc (n:=_) (PX:=[zc (.pointer (some ⟨b,5,none⟩)),
      zc (.pointer (some ⟨b,5,none⟩)),
      zc (.pointer (some ⟨b,9,none⟩)),
      zc (.slice (some ⟨bh,oh,none⟩) (n+1) ch),
      zc (.pointer (some ⟨w.heap.size+1+1,1,none⟩)),
      zc (.int .i64 (v:Int)),
      zc (.pointer (some ⟨bh,oh+v,none⟩)),
      zc (.agg #[.string (zb x)])])
     (AL:=[]) (DP:=[[],[0],[1],[2],[],[4],[3,5],[6]]) (L1:=[0,1,2,3,4,5,6,7]) (ex:=[]) (by kernel_rfl) rfl (by kernel_rfl) ?_ ?_ (yf ?_)
   ·repeat' first|exact zO|refine ze ?_ ?_|exact fun _ _ _ _ h _=>h
   ·refine ze (zg rfl [] ?_) (ze (zg rfl [(0,some 41)] ?_) (ze (zg rfl [(1,some 42)] ?_) (ze (zg rfl [(2,some 43)] ?_) (ze (zg rfl [] ?_) (ze (zg rfl [(4,some 45)] ?_) (ze (zg rfl [(3,some 44),(5,some 46)] ?_) (ze (zg rfl [(6,some 47)] ?_) zO)))))));all_goals (intro vs W hW hd K hK;(try simp only [zR,zc,and_true,List.getD_cons_succ,List.getD_cons_zero] at hd);(first | simp only [hd,zo,Act.put,zx,zw,zv,zm,zl,zk] at hK ⊢ | simp only [zo,Act.put,zx,zw,zv,zm,zl,zk] at hK ⊢ | skip);obtain ⟨m1,m2,m3⟩:=HS.out W hW;go_simp;exact hK.out _ _ rfl (zA _ _) (qS rfl))
   refine qT [(0,some 41),(1,some 42),(2,some 43),(3,some 44),(4,some 45),(5,some 46),(6,some 47),(7,some 48)] #[true,true,true,true,true,true,true,true,false] 1 ?_;intro vs Wf hW hd hbk hdis kf;simp only [zR,zc,and_true,List.getD_cons_succ,List.getD_cons_zero] at hd;obtain ⟨d0,d1,d2,d3,d4,d5,d6,d7⟩:=hd;clear hbk hdis;try simp only [d0,d1,d2,d3,d4,d5,d6,d7,zo,Act.put,zx,zw,zv,zm,zl,zk]
   clear d0 d1 d2 d3 d4 d5 d6 d7 vs;clear HS;have rf:=zh hrr hW;have c0:Wf.cell? ⟨w.heap.size+1,0,none⟩=some (.string ⟨#[]⟩):=rf.cell (i:=0) (by decide);have z0:=rf.frozen 0;refine qt 8 (by kernel_rfl) rfl (fun K hK=>?_);go_simp;refine hK.out _ _ ?_;clear hK K;try simp only [zo,Act.put,zx,zw,zv,zm,zl,zk]
   refine qV (by kernel_rfl) ?_ _;all_goals
    have hbf:=zu hbl0 hW hbl0.size;try go_wp2
    exact yN rfl _ rfl ((rf.set 0 (.string (zb x))).congr fun i hi=>by
     have e:i=0:=by omega
     subst e;rfl) rfl ⟨by rw [HY.out],hbf.setCell (by simp <;> omega) _⟩
 ·have hF0:F 0=1:=hF0';have HFN:Hid (∀ m (hm:m<xi.length) j,xi.getD m 0=((j:Nat):Int)→F (m+1)=F m*Q.getD j 0):=za fun m hm j hj=>by
   rw [hFs m hm];have e:xi[m]=(j:Int):=by rw [← hj,List.getD_eq_getElem?_getD,List.getElem?_eq_getElem hm];rfl
   rw [e];unfold Rg.in1;rw [if_pos (Or.inr rfl)];rfl
  have q4:WxAt w (w.heap.size+1) wc.heap.size 54 1 #[.string ⟨#[]⟩] #[.string (zb 1)] (wc.alloc (.cells #[.string (zb 1)] 54)):=⟨hres.alloc _,zU wc _ _ _ _ rfl rfl,Nat.ne_of_lt hres.lt,hbl.size,hbl.alloc hbl.size _⟩;have l5:wc.cell? ⟨b,5,none⟩=some (.string (zb 1)):=zy hbl h5 hbs;have hbw:=Nat.lt_of_lt_of_le hbs hbl.size;have zz:wc.cell? ⟨w.heap.size+1+1+1,0,none⟩=some (.string ⟨#[]⟩):=hzz.cell (i:=0) (by decide);have xx:wc.cell? ⟨w.heap.size+1+1,2,none⟩=some (.slice A' xi.length c'):=hxx.cell (i:=2) (by decide);have hzl:=hzz.lt;have hxl:=hxx.lt;clear hFs hF0' hres hxx hzz;go_wp2_with fail
  go_loopw [92] (fun t wr=>∃ m:Nat,m≤xi.length∧t = .int .i64 (m:Int)∧WxAt w (w.heap.size+1) (wc.heap.size) 54 1 #[.string ⟨#[]⟩] #[.string (zb (F m))] wr) (fun t _=>xi.length-(intOf t).toNat)
  case atStart=>exact ⟨0,Nat.zero_le _,rfl,by rw [hF0];exact q4⟩
  case round =>
   clear q4;obtain ⟨m,hm,rfl,q⟩:=hrel;by_cases hlt:m<xi.length
   ·obtain ⟨h6,h7,h10⟩:=HCE.out _ q.bl;obtain ⟨bI,oI,rfl,hbI,hcI⟩:=hri (by omega);have cI:=(q.bl.cell (p:=⟨bI,oI+m,none⟩) hbI).trans (hcI m hlt);clear hcI;obtain ⟨j,hj,hji⟩:=HIN.out m hlt;have hj2:zJ xi m = .int .i64 (j:Int):=by unfold zJ;rw [hj]
    rw [hj2] at cI;have hbw:b<wr.heap.size:=Nat.lt_of_lt_of_le hbs q.bl.size;have hbLw:bL<wr.heap.size:=Nat.lt_of_lt_of_le hbL q.bl.size;have hbOw:bO<wr.heap.size:=Nat.lt_of_lt_of_le hbO q.bl.size;have hyw:=q.acc.lt;have i1:(0:Int)≤(m:Int):=by omega
    have i2:(m:Int)<(xi.length:Int):=by omega
    have i3:(j:Int)<(N.l.length:Int):=by omega
    have i4:(0:Int)≤(j:Int):=by omega
    have i5:(i:Int)<(N.l.length:Int):=by omega
    have i6:(0:Int)≤(i:Int):=by omega
    have lx:wr.cell? ⟨bL,oL+j,none⟩=some (.string (zb (L.getD j 0))):=(q.bl.cell (p:=⟨bL,oL+j,none⟩) hbL).trans (HCLL.out j (by omega));have lp:wr.cell? ⟨wc.heap.size,0,none⟩=some (.string (zb (F m))):=q.acc.cell (i:=0) (by decide);have hx8:=HAT.out j;have hp8:=HPT.out m;have hFn:=HFN.out m hlt j hj;have hPj:=HPL.out j hji;rw [← hPj] at hFn;generalize L.getD j 0=x at *
    obtain ⟨p,hp⟩:∃ p,F m=p:=⟨_,rfl⟩;rw [hp] at hFn lp hp8;obtain ⟨r,hr⟩:∃ r,p*x=r:=⟨_,rfl⟩;replace hFn:F (m+1)=r:=hFn.trans hr;have hmul:∀ W,Calls Tryz.prog 48 #[zD p,zD x] W fun e w'=>e = .returned (zD r)∧Below W.heap.size W w':=fun W=>by rw [← hr];exact zcp W p x (by omega) (by omega)
    have HMU:=za hmul;have HNX:=za hFn;clear hmul hp hr hp8 hx8 hFn hPj hj hji hj2;have s1:=h7;have s2:=lp;have s3:=h10;have s4:=lx;clear h6 h7 h10 lp lx;go_wp2_with fail
    have HS:Hid (∀ W,Below wr.heap.size wr W→W.cell? ⟨b,7,none⟩=some (.func (.func 48) #[] #[])∧W.cell? ⟨wc.heap.size,0,none⟩=some (.string (zb p))∧W.cell? ⟨b,10,none⟩=some (.slice (some ⟨bL,oL,none⟩) N.l.length cL)∧W.cell? ⟨bL,oL+j,none⟩=some (.string (zb x))):=za fun W hb=>⟨zy hb s1 hbw,zy hb s2 hyw,zy hb s3 hbw,zy hb s4 hbLw⟩;refine yc (n:=_) (PX:=[zc (.pointer (some ⟨b,5,none⟩)),
       zc (.pointer (some ⟨b,5,none⟩)),
       zc (.pointer (some ⟨b,7,none⟩)),
       zc (.func (.func 48) #[] #[]),
       zc (.agg #[.string (zb p)]),
       zc (.pointer (some ⟨b,5,none⟩)),
       zc (.pointer (some ⟨b,5,none⟩)),
       zc (.pointer (some ⟨b,10,none⟩)),
       zc (.slice (some ⟨bL,oL,none⟩) N.l.length cL),
       zc (.int .i64 (j:Int)),
       zc (.pointer (some ⟨bL,oL+j,none⟩)),
       zc (.agg #[.string (zb x)]),
       zc (.agg #[.string (zb r)])])
      (AL:=[]) (DP:=[[],[0],[1],[2],[],[],[5],[6],[7],[],[8,9],[10],[3,4,11]]) (L1:=[0,1,2,3,4,5,6,7,8,9,10,11,12]) (ex:=[]) (by kernel_rfl) rfl (by kernel_rfl) ?_ ?_ (yf ?_)
    ·repeat' first|exact zO|refine ze ?_ ?_|exact fun _ _ _ _ h _=>h
    ·refine ze (zg rfl [] ?_) (ze (zg rfl [(0,some 96)] ?_) (ze (zg rfl [(1,some 97)] ?_) (ze (zg rfl [(2,some 98)] ?_) (ze (zg rfl [] ?_) (ze (zg rfl [] ?_) (ze (zg rfl [(5,some 101)] ?_) (ze (zg rfl [(6,some 102)] ?_) (ze (zg rfl [(7,some 103)] ?_) (ze (zg rfl [] ?_) (ze (zg rfl [(8,some 104),(9,some 105)] ?_) (ze (zg rfl [(10,some 106)] ?_) (ze ?_ zO))))))))))));all_goals try (intro vs W hW hd K hK;(try simp only [zR,zc,and_true,List.getD_cons_succ,List.getD_cons_zero] at hd);(first | simp only [hd,zo,Act.put,zx,zw,zv,zm,zl,zk] at hK ⊢ | simp only [zo,Act.put,zx,zw,zv,zm,zl,zk] at hK ⊢ | skip);obtain ⟨m1,m2,m3,m4⟩:=HS.out W hW;go_simp;exact hK.out _ _ rfl (zA _ _) (qS rfl))
     ·refine qo rfl [(3,some 99),(4,some 100),(11,some 107)] ?_;intro vs W hW hd K hK;have d3:vs 3 = .func (.func 48) #[] #[]:=hd 3 (by decide);have d4:vs 4 = .agg #[.string (zb p)]:=hd 4 (by decide);have d11:vs 11 = .agg #[.string (zb x)]:=hd 11 (by decide);clear hd;try simp only [d3,d4,d11,zo,Act.put,zx,zw,zv,zm,zl,zk] at hK ⊢
      go_simp;go_at_call 48;(with_reducible first | refine (HMU.out _).mono ?_);rintro e w9 ⟨rfl,hb9⟩;exact hK.out _ _ (rfl) hb9 (fun h=>absurd h (by decide))
    refine qT [(0,some 96),(1,some 97),(2,some 98),(3,some 99),(4,some 100),(5,some 101),(6,some 102),(7,some 103),(8,some 104),(9,some 105),(10,some 106),(11,some 107),(12,some 108)] #[true,true,true,true,true,true,true,true,true,true,true,true,true,false] 1 ?_;intro vs Wf hW hd hbk hdis kf;simp only [zR,zc,and_true,List.getD_cons_succ,List.getD_cons_zero] at hd;obtain ⟨d0,d1,d2,d3,d4,d5,d6,d7,d8,d9,d10,d11,d12⟩:=hd;clear hbk hdis;try simp only [d0,d1,d2,d3,d4,d5,d6,d7,d8,d9,d10,d11,d12,zo,Act.put,zx,zw,zv,zm,zl,zk]
    clear d0 d1 d2 d3 d4 d5 d6 d7 d8 d9 d10 d11 d12 vs;clear HS;have qf:=q.below hW;have c0:=qf.acc.cell (i:=0) (by decide);have z0:=qf.acc.frozen 0;refine qt 13 (by kernel_rfl) rfl (fun K hK=>?_);go_simp;refine hK.out _ _ ?_;clear hK K;try simp only [zo,Act.put,zx,zw,zv,zm,zl,zk]
    refine qV (by kernel_rfl) ?_ _;all_goals
     try go_wp2
     go_roundw
     case rel=>exact ⟨m+1,by omega,by go_num,by rw [HNX.out];exact qf.put1 _⟩
     case measure=>simp [intOf];omega
   ·obtain rfl:m=xi.length:=by omega
    obtain ⟨Y,hY⟩:∃ Y,F xi.length=Y:=⟨_,rfl⟩;rw [hY] at q;have HEQ:=za (HFE.out.trans hY);clear hY;have r0:=q.res;have hbl2:=q.bl;have k0:wr.cell? ⟨w.heap.size+1,0,none⟩=some (.string ⟨#[]⟩):=r0.cell (i:=0) (by decide);have z0:=r0.frozen 0;have c0:wr.cell? ⟨wc.heap.size,0,none⟩=some (.string (zb Y)):=q.acc.cell (i:=0) (by decide);clear q;go_wp2_with fail
    exact yN rfl _ rfl ((r0.set 0 (.string (zb Y))).congr fun i hi=>by
     have e:i=0:=by omega
     subst e;rfl) rfl ⟨by rw [HEQ.out],hbl2.setCell (by simp <;> omega) _⟩
 ·have hF0:F 0=0:=hF0';have HFN:Hid (∀ m (hm:m<xi.length) j,xi.getD m 0=((j:Nat):Int)→F (m+1)=F m+(RL n lo hi).wide (Q.getD j 0) (vl (zI (O.getD i 0) (O.getD j 0)))):=za fun m hm j hj=>by
   rw [hFs m hm];have e:xi[m]=(j:Int):=by rw [← hj,List.getD_eq_getElem?_getD,List.getElem?_eq_getElem hm];rfl
   rw [e];unfold Rg.in1;rw [if_neg (show ¬ ((4:Int)=1∨(4:Int)=3) by decide),hQ];rfl
  have q4:WxAt w (w.heap.size+1) wc.heap.size 54 1 #[.string ⟨#[]⟩] #[.string (zb 0)] (wc.alloc (.cells #[.string ⟨#[]⟩] 54)):=⟨hres.alloc _,by rw [yI];exact zU wc _ _ _ _ rfl rfl,Nat.ne_of_lt hres.lt,hbl.size,hbl.alloc hbl.size _⟩;have zz:wc.cell? ⟨w.heap.size+1+1+1,0,none⟩=some (.string ⟨#[]⟩):=hzz.cell (i:=0) (by decide);have xx:wc.cell? ⟨w.heap.size+1+1,2,none⟩=some (.slice A' xi.length c'):=hxx.cell (i:=2) (by decide);have hzl:=hzz.lt;have hxl:=hxx.lt;clear hFs hF0' hres hxx hzz;go_wp2_with fail
  go_loopw [55] (fun t wr=>∃ m:Nat,m≤xi.length∧t = .int .i64 (m:Int)∧WxAt w (w.heap.size+1) (wc.heap.size) 54 1 #[.string ⟨#[]⟩] #[.string (zb (F m))] wr) (fun t _=>xi.length-(intOf t).toNat)
  case atStart=>exact ⟨0,Nat.zero_le _,rfl,by rw [hF0];exact q4⟩
  case round =>
   clear q4;obtain ⟨m,hm,rfl,q⟩:=hrel;by_cases hlt:m<xi.length
   ·obtain ⟨h6,h7,h10⟩:=HCE.out _ q.bl;obtain ⟨bI,oI,rfl,hbI,hcI⟩:=hri (by omega);have cI:=(q.bl.cell (p:=⟨bI,oI+m,none⟩) hbI).trans (hcI m hlt);clear hcI;obtain ⟨j,hj,hji⟩:=HIN.out m hlt;have hj2:zJ xi m = .int .i64 (j:Int):=by unfold zJ;rw [hj]
    rw [hj2] at cI;have hbw:b<wr.heap.size:=Nat.lt_of_lt_of_le hbs q.bl.size;have hbLw:bL<wr.heap.size:=Nat.lt_of_lt_of_le hbL q.bl.size;have hbOw:bO<wr.heap.size:=Nat.lt_of_lt_of_le hbO q.bl.size;have hyw:=q.acc.lt;have i1:(0:Int)≤(m:Int):=by omega
    have i2:(m:Int)<(xi.length:Int):=by omega
    have i3:(j:Int)<(N.l.length:Int):=by omega
    have i4:(0:Int)≤(j:Int):=by omega
    have i5:(i:Int)<(N.l.length:Int):=by omega
    have i6:(0:Int)≤(i:Int):=by omega
    have lx:wr.cell? ⟨bL,oL+j,none⟩=some (.string (zb (L.getD j 0))):=(q.bl.cell (p:=⟨bL,oL+j,none⟩) hbL).trans (HCLL.out j (by omega));have lp:wr.cell? ⟨wc.heap.size,0,none⟩=some (.string (zb (F m))):=q.acc.cell (i:=0) (by decide);have o1:wr.cell? ⟨bO,oO+i*2,none⟩=some (.int .u64 (Cs.lo (O.getD i 0):Int)):=(q.bl.cell (p:=⟨bO,oO+i*2,none⟩) hbO).trans ((HCO.out (i*2) (by omega)).trans (by rw [zfv]));have o2:wr.cell? ⟨bO,oO+i*2+1,none⟩=some (.int .u64 (Cs.hi (O.getD i 0):Int)):=(q.bl.cell (p:=⟨bO,oO+i*2+1,none⟩) hbO).trans ((HCO.out (i*2+1) (by omega)).trans (by rw [zfu]));have o3:wr.cell? ⟨bO,oO+j*2,none⟩=some (.int .u64 (Cs.lo (O.getD j 0):Int)):=(q.bl.cell (p:=⟨bO,oO+j*2,none⟩) hbO).trans ((HCO.out (j*2) (by omega)).trans (by rw [zfv]));have o4:wr.cell? ⟨bO,oO+j*2+1,none⟩=some (.int .u64 (Cs.hi (O.getD j 0):Int)):=(q.bl.cell (p:=⟨bO,oO+j*2+1,none⟩) hbO).trans ((HCO.out (j*2+1) (by omega)).trans (by rw [zfu]));have hx8:=HAT.out j;have hp8:=HPT.out m;have hFn:=HFN.out m hlt j hj;have hPj:=HPL.out j hji;rw [← hPj] at hFn;have hwd:=HWD.out j hji (by rw [← hj];exact zeF hlt);have hwi:=fun W (hb:Below w.heap.size w W)=>HWC.out W hb (L.getD j 0) (zI (O.getD i 0) (O.getD j 0)) (HSB.out j) hwd;obtain ⟨g,hg⟩:∃ g,(RL n lo hi).wide (L.getD j 0) (vl (zI (O.getD i 0) (O.getD j 0)))=g:=⟨_,rfl⟩;have hg8:=hwd 128;rw [List.take_of_length_le (zbe _),hg] at hg8;rw [hg] at hFn;have hwi:∀ W,Below w.heap.size w W→Calls Tryz.prog 110 #[.pointer (some ⟨b,5,none⟩),zD (L.getD j 0),zY (zI (O.getD i 0) (O.getD j 0))] W fun e w'=>e = .returned (zD g)∧Below W.heap.size W w':=fun W hb=>by
     have:=hwi W hb;rw [hg] at this;exact this
    generalize L.getD j 0=x at *
    generalize O.getD i 0=si at *
    generalize O.getD j 0=sj at *
    obtain ⟨p,hp⟩:∃ p,F m=p:=⟨_,rfl⟩;rw [hp] at hFn lp hp8;obtain ⟨r,hr⟩:∃ r,p+g=r:=⟨_,rfl⟩;replace hFn:F (m+1)=r:=hFn.trans hr;have hadd:∀ W,Calls Tryz.prog 36 #[zD p,zD g] W fun e w'=>e = .returned (zD r)∧Below W.heap.size W w':=fun W=>by rw [← hr];exact zhH W p g (by omega) (by omega)
    have HAD:=za hadd;have HWI:=za hwi;have HNX:=za hFn;clear hadd hwi hg hp hr hwd hg8 hp8 hx8 hFn hPj hj hji hj2;have s1:=h6;have s2:=lp;have s3:=h10;have s4:=lx;have s5:=o1;have s6:=o2;have s7:=o3;have s8:=o4;clear h6 h7 h10 lp lx;clear o1 o2 o3 o4;go_wp2_with fail
    have HS:Hid (∀ W,Below wr.heap.size wr W→W.cell? ⟨b,6,none⟩=some (.func (.func 36) #[] #[])∧W.cell? ⟨wc.heap.size,0,none⟩=some (.string (zb p))∧W.cell? ⟨b,10,none⟩=some (.slice (some ⟨bL,oL,none⟩) N.l.length cL)∧W.cell? ⟨bL,oL+j,none⟩=some (.string (zb x))∧W.cell? ⟨bO,oO+i*2,none⟩=some (.int .u64 (Cs.lo si:Int))∧W.cell? ⟨bO,oO+i*2+1,none⟩=some (.int .u64 (Cs.hi si:Int))∧W.cell? ⟨bO,oO+j*2,none⟩=some (.int .u64 (Cs.lo sj:Int))∧W.cell? ⟨bO,oO+j*2+1,none⟩=some (.int .u64 (Cs.hi sj:Int))):=za fun W hb=>⟨zy hb s1 hbw,zy hb s2 hyw,zy hb s3 hbw,zy hb s4 hbLw,zy hb s5 hbOw,zy hb s6 hbOw,zy hb s7 hbOw,zy hb s8 hbOw⟩;refine yc (n:=_) (PX:=[zc (.pointer (some ⟨b,5,none⟩)),
       zc (.pointer (some ⟨b,5,none⟩)),
       zc (.pointer (some ⟨b,6,none⟩)),
       zc (.func (.func 36) #[] #[]),
       zc (.agg #[.string (zb p)]),
       zc (.pointer (some ⟨b,5,none⟩)),
       zc (.pointer (some ⟨b,5,none⟩)),
       zc (.pointer (some ⟨b,5,none⟩)),
       zc (.pointer (some ⟨b,10,none⟩)),
       zc (.slice (some ⟨bL,oL,none⟩) N.l.length cL),
       zc (.int .i64 (j:Int)),
       zc (.pointer (some ⟨bL,oL+j,none⟩)),
       zc (.agg #[.string (zb x)]),
       zc (.slice (some ⟨bO,oO,none⟩) N.l.length cO),
       zc (.int .i64 (i:Int)),
       zc (.pointer (some ⟨bO,oO+i*2,none⟩)),
       zc (zY si),
       zc (.slice (some ⟨bO,oO,none⟩) N.l.length cO),
       zc (.int .i64 (j:Int)),
       zc (.pointer (some ⟨bO,oO+j*2,none⟩)),
       zc (zY sj),
       zc (zY (zI si sj)),
       zc (.agg #[.string (zb g)]),
       zc (.agg #[.string (zb r)])])
      (AL:=[]) (DP:=[[],[0],[1],[2],[],[],[],[6],[7],[8],[],[9,10],[11],[],[],[13,14],[15],[],[],[17,18],[19],[16,20],[5,12,21],[3,4,22]]) (L1:=[0,1,2,3,4,5,6,7,8,9,10,11,12,13,14,15,16,17,18,19,20,21,22,23]) (ex:=[]) (by kernel_rfl) rfl (by kernel_rfl) ?_ ?_ (yf ?_)
    ·repeat' first|exact zO|refine ze ?_ ?_|exact fun _ _ _ _ h _=>h
    ·refine ze (zg rfl [] ?_) (ze (zg rfl [(0,some 59)] ?_) (ze (zg rfl [(1,some 60)] ?_) (ze (zg rfl [(2,some 61)] ?_) (ze (zg rfl [] ?_) (ze (zg rfl [] ?_) (ze (zg rfl [] ?_) (ze (zg rfl [(6,some 65)] ?_) (ze (zg rfl [(7,some 66)] ?_) (ze (zg rfl [(8,some 67)] ?_) (ze (zg rfl [] ?_) (ze (zg rfl [(9,some 68),(10,some 69)] ?_) (ze (zg rfl [(11,some 70)] ?_) (ze (zg rfl [] ?_) (ze (zg rfl [] ?_) (ze (zg rfl [(13,some 72),(14,some 73)] ?_) (ze (zg rfl [(15,some 74)] ?_) (ze (zg rfl [] ?_) (ze (zg rfl [] ?_) (ze (zg rfl [(17,some 76),(18,some 77)] ?_) (ze (zg rfl [(19,some 78)] ?_) (ze ?_ (ze ?_ (ze ?_ zO)))))))))))))))))))))));all_goals try (intro vs W hW hd K hK;(try simp only [zR,zc,and_true,List.getD_cons_succ,List.getD_cons_zero] at hd);(first | simp only [hd,zo,Act.put,zx,zw,zv,zm,zl,zk] at hK ⊢ | simp only [zo,Act.put,zx,zw,zv,zm,zl,zk] at hK ⊢ | skip);obtain ⟨m1,m2,m3,m4,m5,m6,m7,m8⟩:=HS.out W hW;go_simp;exact hK.out _ _ rfl (zA _ _) (qS rfl))
     ·refine qo rfl [(16,some 75),(20,some 79)] ?_;intro vs W hW hd K hK;have d16:vs 16=zY si:=hd 16 (by decide);have d20:vs 20=zY sj:=hd 20 (by decide);clear hd;try simp only [d16,d20,zo,Act.put,zx,zw,zv,zm,zl,zk] at hK ⊢
      go_simp;go_at_call 111;(with_reducible first | refine (zdg _ _ _).mono ?_);rintro e w9 ⟨rfl,hb9⟩;exact hK.out _ _ (rfl) hb9 (fun h=>absurd h (by decide))
     ·refine qo rfl [(5,some 64),(12,some 71),(21,some 80)] ?_;intro vs W hW hd K hK;have d5:vs 5 = .pointer (some ⟨b,5,none⟩):=hd 5 (by decide);have d12:vs 12 = .agg #[.string (zb x)]:=hd 12 (by decide);have d21:vs 21=zY (zI si sj):=hd 21 (by decide);clear hd;try simp only [d5,d12,d21,zo,Act.put,zx,zw,zv,zm,zl,zk] at hK ⊢
      go_simp;go_at_call 110;(with_reducible first | refine (HWI.out _ (zu q.bl hW q.bl.size)).mono ?_);rintro e w9 ⟨rfl,hb9⟩;exact hK.out _ _ (rfl) hb9 (fun h=>absurd h (by decide))
     ·refine qo rfl [(3,some 62),(4,some 63),(22,some 81)] ?_;intro vs W hW hd K hK;have d3:vs 3 = .func (.func 36) #[] #[]:=hd 3 (by decide);have d4:vs 4 = .agg #[.string (zb p)]:=hd 4 (by decide);have d22:vs 22 = .agg #[.string (zb g)]:=hd 22 (by decide);clear hd;try simp only [d3,d4,d22,zo,Act.put,zx,zw,zv,zm,zl,zk] at hK ⊢
      go_simp;go_at_call 36;(with_reducible first | refine (HAD.out _).mono ?_);rintro e w9 ⟨rfl,hb9⟩;exact hK.out _ _ (rfl) hb9 (fun h=>absurd h (by decide))
    refine qT [(0,some 59),(1,some 60),(2,some 61),(3,some 62),(4,some 63),(5,some 64),(6,some 65),(7,some 66),(8,some 67),(9,some 68),(10,some 69),(11,some 70),(12,some 71),(13,some 72),(14,some 73),(15,some 74),(16,some 75),(17,some 76),(18,some 77),(19,some 78),(20,some 79),(21,some 80),(22,some 81),(23,some 82)] #[true,true,true,true,true,true,true,true,true,true,true,true,true,true,true,true,true,true,true,true,true,true,true,true,false] 1 ?_;intro vs Wf hW hd hbk hdis kf;simp only [zR,zc,and_true,List.getD_cons_succ,List.getD_cons_zero] at hd;obtain ⟨d0,d1,d2,d3,d4,d5,d6,d7,d8,d9,d10,d11,d12,d13,d14,d15,d16,d17,d18,d19,d20,d21,d22,d23⟩:=hd;clear hbk hdis;try simp only [d0,d1,d2,d3,d4,d5,d6,d7,d8,d9,d10,d11,d12,d13,d14,d15,d16,d17,d18,d19,d20,d21,d22,d23,zo,Act.put,zx,zw,zv,zm,zl,zk]
    clear d0 d1 d2 d3 d4 d5 d6 d7 d8 d9 d10 d11 d12 d13 d14 d15 d16 d17 d18 d19 d20 d21 d22 d23 vs;clear HS;have qf:=q.below hW;have c0:=qf.acc.cell (i:=0) (by decide);have z0:=qf.acc.frozen 0;refine qt 24 (by kernel_rfl) rfl (fun K hK=>?_);go_simp;refine hK.out _ _ ?_;clear hK K;try simp only [zo,Act.put,zx,zw,zv,zm,zl,zk]
    refine qV (by kernel_rfl) ?_ _;all_goals
     try go_wp2
     go_roundw
     case rel=>exact ⟨m+1,by omega,by go_num,by rw [HNX.out];exact qf.put1 _⟩
     case measure=>simp [intOf];omega
   ·obtain rfl:m=xi.length:=by omega
    obtain ⟨Y,hY⟩:∃ Y,F xi.length=Y:=⟨_,rfl⟩;rw [hY] at q;have HEQ:=za (HFE.out.trans hY);clear hY;have r0:=q.res;have hbl2:=q.bl;have k0:wr.cell? ⟨w.heap.size+1,0,none⟩=some (.string ⟨#[]⟩):=r0.cell (i:=0) (by decide);have z0:=r0.frozen 0;have c0:wr.cell? ⟨wc.heap.size,0,none⟩=some (.string (zb Y)):=q.acc.cell (i:=0) (by decide);clear q;go_wp2_with fail
    exact yN rfl _ rfl ((r0.set 0 (.string (zb Y))).congr fun i hi=>by
     have e:i=0:=by omega
     subst e;rfl) rfl ⟨by rw [HEQ.out],hbl2.setCell (by simp <;> omega) _⟩
end Go.Proofs.YtoljkoifgnmbgaaGreatDoor
