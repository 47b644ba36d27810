import Derived.Test.YtmhllppjcilllaaGreatDoorTo
import Derived.Test.YtmhllppjcilllaaGreatDoorHp
import Derived.Test.YtmhllppjcilllaaGreatDoorTn
import Derived.Test.YtmhllppjcilllaaGreatDoorDv
import Derived.Test.YtmhllppjcilllaaGreatDoorDy
set_option linter.unusedSimpArgs false
set_option linter.unusedVariables false
set_option maxRecDepth 100000
set_option maxHeartbeats 8000000
open Go Go.RowKit Cs
namespace Go.Proofs.YtmhllppjcilllaaGreatDoor
theorem zet {w:World} {g:Nat} {t:TypeId} (h:w.rowIs g t 2 (zy #[.string ⟨#[]⟩,.string ⟨#[]⟩])):w.rowIs g t 2 (qI 0 0):=h.congr fun i hi=>by
 have e:i=0∨i=1:=by omega
 rcases e with rfl | rfl
 ·show _=_;unfold qI;rw [pP];rfl
 ·unfold qI;rw [pP];rfl
theorem zhe (w:World) (N:Nt) (A:Option Addr) (c cl ch ct n:Nat) (lo hi:List Pr) (t:List Int) (Al Ah At:Option Addr) (hN:NtAt w w.heap.size A N.l) (hv:zG N=true) (hn:N.n=(n:Int)) (hT:Tab w)
  (hin:∀ k (hk:k<N.l.length),N.l[k].ins.length≤1000000) (hW:WtIn n lo hi)
  (hlo:Rd w w.heap.size Al ((n+1)*2) (zD lo)) (hhi:Rd w w.heap.size Ah ((n+1)*2) (zD hi)) (hc1:n+1≤cl) (hc2:n+1≤ch)
  (ht:Rd w w.heap.size At t.length (zO t)) (htl:t.length≤1000000) (hr:∀ x∈t,-9223372036854775808≤x∧x≤9223372036854775807) :
  Calls Tryz.prog 23 #[qg N A c,yJ Al Ah (n+1) (n+1) cl ch,.slice At t.length ct] w fun e w'=>e = .returned (.tuple #[zI (yE N n lo hi t).1.1 (yE N n lo hi t).1.2,.int .i64 (yE N n lo hi t).2])∧Below w.heap.size w w':=by
 have hn128:=zhT hv hn;have hck:=fun W (hb:Below w.heap.size w W)=>zcU W N A c cl ch n lo hi Al Ah ((hN.below hb).more hb.size) hv hn (hT.below hb) ((hlo.below hb).more hb.size) ((hhi.below hb).more hb.size) hW.sl hW.sh hc1 hc2 (yc N n lo hi) rfl;have htm:=fun W (hb:Below w.heap.size w W)=>zit W At ct t N.n n hn hn128 htl hr ((ht.below hb).more hb.size);have hE1:yc N n lo hi≠1:=by
  unfold yc;have hc:qu N≠1:=by
   unfold qu;rw [hv];simp;split
   ·split <;> decide
   ·decide
  split
  ·split <;> decide
  ·exact hc
 have HCK:=zb hck;have HTM:=zb htm;have q0:=((((Bag.zero w).new #[.int .i64 N.n,.slice A N.l.length c] 24 w.heap.size 2 rfl rfl).new #[.slice Al (n+1) cl,.slice Ah (n+1) ch] 39 (w.heap.size+1) 2 (by simp) rfl).new #[.string ⟨#[]⟩,.string ⟨#[]⟩] 33 (w.heap.size+1+1) 2 (by simp) rfl);by_cases hb:yj N.n t=true
 ·by_cases hE:yc N n lo hi=0
  ·obtain ⟨hd,hs,hbits⟩:=zeA hv hE;have hok:WtOk n lo hi:=hW.ok hbits;have hto:=zjQ hb hn hn128;have hokt:=WtIn.okT hW hbits t;obtain ⟨ez1,ez2⟩:=pW hW.ll hW.lh t.length t rfl (fun l hl=>by have:=hto l hl;omega);have hsr:yE N n lo hi t=if ((RP n lo hi).sum N).1=0 then ((0,0),3) else (pq (qp ((RP n (z6 n lo t) (z8 n hi t)).sum N) / qp ((RP n lo hi).sum N)),0):=by
    unfold yE;rw [if_pos hb,if_pos hE]
   rw [hsr];have hna:=fun W (hb:Below w.heap.size w W)=>zcM W N A c ((hN.below hb).more hb.size) hv;have hsu:=fun W ga go hA (hb:Below w.heap.size w W)=>zd0 W N A c ga go n cl ch lo hi Al Ah hA hv hd hs hn hin hok ((hlo.below hb).more hb.size) ((hhi.below hb).more hb.size) (hT.below hb);have hsz:∀ W ga go Al' Ah' cl' ch',AdAt W 155 96 W.heap.size ga go N A c→Below w.heap.size w W→n+1≤cl'→n+1≤ch'→Rd W W.heap.size Al' ((n+1)*2) (zD (oL t lo))→Rd W W.heap.size Ah' ((n+1)*2) (zD (oO t hi)) →
     Calls Tryz.prog 53 #[.pointer (some ⟨ga,0,none⟩),yJ Al' Ah' (n+1) (n+1) cl' ch'] W fun e w'=>e = .returned (zI ((RP n (z6 n lo t) (z8 n hi t)).sum N).1 ((RP n (z6 n lo t) (z8 n hi t)).sum N).2)∧Below W.heap.size W w':=fun W ga go Al' Ah' cl' ch' hA hb _ _ h1 h2=>by
    rw [ez1] at h1;rw [ez2] at h2;exact zd0 W N A c ga go n cl' ch' _ _ Al' Ah' hA hv hd hs hn hin hokt h1 h2 (hT.below hb)
   have hgv:=fun W ga go (hA:AdAt W 155 96 W.heap.size ga go N A c) (hb:Below w.heap.size w W)=>zh8 W cl ch n ct lo hi t Al Ah At ga ((RP n (z6 n lo t) (z8 n hi t)).sum N) hn128 ((hlo.below hb).more hb.size) ((hhi.below hb).more hb.size) ((ht.below hb).more hb.size) htl hto hW.ll hW.lh
    (fun V Al' Ah' cl' ch' hbV a b h1 h2=>hsz V ga go Al' Ah' cl' ch' ((hA.below hbV).more hbV.size) (zw hb hbV hb.size) a b h1 h2)
   have hSs:Sp ((RP n lo hi).sum N):=zeG hok hv hd hs hn;have hXs:Sp ((RP n (z6 n lo t) (z8 n hi t)).sum N):=zeG hokt hv hd hs hn;obtain ⟨X,hX⟩:∃ X,(RP n (z6 n lo t) (z8 n hi t)).sum N=X:=⟨_,rfl⟩;obtain ⟨Q,hQ⟩:∃ Q,(RP n lo hi).sum N=Q:=⟨_,rfl⟩;simp only [hX] at hgv;simp only [hQ] at hsu;rw [hX] at hXs ⊢;rw [hQ] at hSs ⊢;obtain ⟨xn,xd⟩:=X;obtain ⟨sn,sd⟩:=Q;obtain ⟨rn,rd,rb,hdv,hres⟩:∃ (rn rd:Nat) (rb:Bool),(∀ W,Calls Tryz.prog 36 #[zI xn xd,zI sn sd] W fun e w'=>e = .returned (.tuple #[zI rn rd,.bool rb])∧Below W.heap.size W w') ∧
     (if sn=0 then (((0,0),3):Pr×Int) else (pq (qp (xn,xd) / qp (sn,sd)),0))=if rb=true then ((rn,rd),0) else ((0,0),3):=by
    by_cases h0:sn=0
    ·subst h0;exact ⟨0,0,false,fun W=>xQ W xn xd sd hXs.1 hXs.2 hSs.2,by rw [if_pos rfl,if_neg (by decide)]⟩
    ·exact ⟨_,_,true,fun W=>qdiv_any W xn xd sn sd hXs.1 hXs.2 hSs.1 hSs.2 (by omega),by rw [if_neg h0,if_pos rfl];rfl⟩
   rw [show (if (sn,sd).1=0 then (((0,0),3):Pr×Int) else (pq (qp (xn,xd) / qp (sn,sd)),0))=_ from hres];have HNA:=zb hna;have HSUM:=zb hsu;have HGIV:=zb hgv;have HDV:=zb hdv;rw [hE] at HCK;rw [hb] at HTM;obtain ⟨m,hm⟩:∃ m,t.length=m:=⟨_,rfl⟩;clear hck htm hna hsu hsz hgv hdv hSs hXs hX hQ hres hokt hok ez1 ez2 hsr hto hbits hd hs hE hb hE1 hn hN hT hlo hhi ht hr hin hW hv hc1 hc2 htl hm;go_enter Tryz.func23, Tryz.ntmps23;go_upto_region 10 with (first
    | (go_at_call 35;(with_reducible refine (HCK.out _ q0.bl).mono ?_);rintro e w1 ⟨rfl,hb1⟩;have q1:=q0.below hb1;clear hb1 q0
       have na1:=q1.is w.heap.size 2 24 #[.int .i64 N.n,.slice A N.l.length c] (by simp) 0 (by decide) (.int .i64 N.n) rfl;have nb1:=q1.is w.heap.size 2 24 #[.int .i64 N.n,.slice A N.l.length c] (by simp) 1 (by decide) (.slice A N.l.length c) rfl;have wa1:=q1.is (w.heap.size+1) 2 39 #[.slice Al (n+1) cl,.slice Ah (n+1) ch] (by simp) 0 (by decide) (.slice Al (n+1) cl) rfl;have wb1:=q1.is (w.heap.size+1) 2 39 #[.slice Al (n+1) cl,.slice Ah (n+1) ch] (by simp) 1 (by decide) (.slice Ah (n+1) ch) rfl;have ra1:=q1.is (w.heap.size+1+1) 2 33 #[.string ⟨#[]⟩,.string ⟨#[]⟩] (by simp) 0 (by decide) (.string ⟨#[]⟩) rfl;have rb1:=q1.is (w.heap.size+1+1) 2 33 #[.string ⟨#[]⟩,.string ⟨#[]⟩] (by simp) 1 (by decide) (.string ⟨#[]⟩) rfl)
    | (go_at_call 62;(with_reducible refine (HTM.out _ q1.bl).mono ?_);rintro e w2 ⟨v2,rfl,hb2⟩;have q2:=q1.below hb2;clear hb2 q1 na1 nb1 wa1 wb1 ra1 rb1
       have na2:=q2.is w.heap.size 2 24 #[.int .i64 N.n,.slice A N.l.length c] (by simp) 0 (by decide) (.int .i64 N.n) rfl;have nb2:=q2.is w.heap.size 2 24 #[.int .i64 N.n,.slice A N.l.length c] (by simp) 1 (by decide) (.slice A N.l.length c) rfl;have wa2:=q2.is (w.heap.size+1) 2 39 #[.slice Al (n+1) cl,.slice Ah (n+1) ch] (by simp) 0 (by decide) (.slice Al (n+1) cl) rfl;have wb2:=q2.is (w.heap.size+1) 2 39 #[.slice Al (n+1) cl,.slice Ah (n+1) ch] (by simp) 1 (by decide) (.slice Ah (n+1) ch) rfl;have ra2:=q2.is (w.heap.size+1+1) 2 33 #[.string ⟨#[]⟩,.string ⟨#[]⟩] (by simp) 0 (by decide) (.string ⟨#[]⟩) rfl;have rb2:=q2.is (w.heap.size+1+1) 2 33 #[.string ⟨#[]⟩,.string ⟨#[]⟩] (by simp) 1 (by decide) (.string ⟨#[]⟩) rfl)
    | (go_at_call 52;(with_reducible refine (HNA.out _ q2.bl).mono ?_);rintro e w3 ⟨ga,go,rfl,hga,hA,hb3⟩;have q3:=q2.below hb3;have HA:=zb hA;clear hb3 hA q2 na2 nb2 wa2 wb2 ra2 rb2))
   have hgv2:∀ W,Below w3.heap.size w3 W→_:=fun W hb=>HGIV.out W ga go ((HA.out.below hb).more hb.size) (zw q3.bl hb q3.bl.size);have hsu2:∀ W,Below w3.heap.size w3 W→_:=fun W hb=>HSUM.out W ga go ((HA.out.below hb).more hb.size) (zw q3.bl hb q3.bl.size);have HGV:=zb hgv2;have HSU:=zb hsu2;clear hgv2 hsu2 HGIV HSUM HNA HTM HCK;have s1:=q3.is (w.heap.size+1) 2 39 #[.slice Al (n+1) cl,.slice Ah (n+1) ch] (by simp) 0 (by decide) (.slice Al (n+1) cl) rfl;have s2:=q3.is (w.heap.size+1) 2 39 #[.slice Al (n+1) cl,.slice Ah (n+1) ch] (by simp) 1 (by decide) (.slice Ah (n+1) ch) rfl;have hwl:=World.block_lt_of_cell? _ _ s1;have Q3:=zb q3;clear q3;go_wp2_with fail
   have HS:Hid (∀ W,Below w3.heap.size w3 W→W.cell? ⟨w.heap.size+1,0,none⟩=some (.slice Al (n+1) cl)∧W.cell? ⟨w.heap.size+1,1,none⟩=some (.slice Ah (n+1) ch)):=zb fun W hb=>⟨zC hb s1 hwl,zC hb s2 hwl⟩;refine zaN (n:=_) (PX:=[zl (.agg #[.slice Al (n+1) cl,.slice Ah (n+1) ch]),
      zl (.slice At t.length ct),
      zl (.func (.func 53) #[.pointer (some ⟨ga,0,none⟩)] #[]),
      zl (.agg #[.string (za xn),.string (za xd)]),
      zl (.func (.func 53) #[.pointer (some ⟨ga,0,none⟩)] #[]),
      zl (.agg #[.slice Al (n+1) cl,.slice Ah (n+1) ch]),
      zl (.agg #[.string (za sn),.string (za sd)]),
      zl (.tuple #[.agg #[.string (za rn),.string (za rd)],.bool rb]),
      zl (.tuple #[.agg #[.string (za rn),.string (za rd)],.bool rb]),
      zl (.agg #[.string (za rn),.string (za rd)]),
      zl (.bool rb),
      fun xl xv xw=>∃ X,xv = .pointer (some ⟨X,0,none⟩)∧w3.heap.size≤X∧World.rowIs xw X 33 2 (zy #[.string ⟨#[]⟩,.string ⟨#[]⟩])])
     (AL:=[11]) (DP:=[[],[],[],[0,1,2],[],[],[4,5],[3,6],[7],[8],[8],[]]) (L1:=[0,1,2,3,4,5,6,7,8,9,11]) (ex:=[10]) (by kernel_rfl) rfl (by kernel_rfl) (by kernel_rfl) (fun _ _ _ _ _ h=>h) ?_ ?_ ?_ ?_
   ·repeat' first|exact zW|refine zk ?_ ?_|exact fun _ _ _ _ h _=>h|fail
    ·exact fun l v w w2 h hb=>by obtain ⟨X,h1,h2,h3⟩:=h;exact ⟨X,h1,h2,zo h3 hb⟩
   ·refine zk (zv rfl [] ?_) (zk (zv rfl [] ?_) (zk (zv rfl [] ?_) (zk ?_ (zk (zv rfl [] ?_) (zk (zv rfl [] ?_) (zk ?_ (zk ?_ (zk (zv rfl [(7,some 46)] ?_) (zk (zv rfl [(8,some 38)] ?_) (zk ?_ zW))))))))));all_goals try (intro vs W hW hd K hK;(try simp only [qa,zl,and_true,List.getD_cons_succ,List.getD_cons_zero] at hd);(first | simp only [hd,zm,Act.put,zj,zi,zh,zg,zf,ze] at hK ⊢ | simp only [zm,Act.put,zj,zi,zh,zg,zf,ze] at hK ⊢ | skip);obtain ⟨m1,m2⟩:=HS.out W hW;go_simp;exact hK.out _ _ rfl (zx _ _) (qU rfl))
    ·refine zJ rfl [(0,some 39),(1,some 40),(2,some 41)] ?_;intro vs W hW hd K hK;have d0:vs 0 = .agg #[.slice Al (n+1) cl,.slice Ah (n+1) ch]:=hd 0 (by decide);have d1:vs 1 = .slice At t.length ct:=hd 1 (by decide);have d2:vs 2 = .func (.func 53) #[.pointer (some ⟨ga,0,none⟩)] #[]:=hd 2 (by decide);clear hd;try simp only [d0,d1,d2,zm,Act.put,zj,zi,zh,zg,zf,ze] at hK ⊢
     go_simp;go_at_call 59;(with_reducible first | refine (HGV.out _ hW).mono ?_);rintro e w9 ⟨rfl,hb9⟩;exact hK.out _ _ (rfl) hb9 (fun h=>absurd h (by decide))
    ·refine zJ rfl [(4,some 43),(5,some 44)] ?_;intro vs W hW hd K hK;have d4:vs 4 = .func (.func 53) #[.pointer (some ⟨ga,0,none⟩)] #[]:=hd 4 (by decide);have d5:vs 5 = .agg #[.slice Al (n+1) cl,.slice Ah (n+1) ch]:=hd 5 (by decide);clear hd;try simp only [d4,d5,zm,Act.put,zj,zi,zh,zg,zf,ze] at hK ⊢
     go_simp;go_at_call 53;(with_reducible first | refine (HSU.out _ hW).mono ?_);rintro e w9 ⟨rfl,hb9⟩;exact hK.out _ _ (rfl) hb9 (fun h=>absurd h (by decide))
    ·refine zJ rfl [(3,some 42),(6,some 45)] ?_;intro vs W hW hd K hK;have d3:vs 3 = .agg #[.string (za xn),.string (za xd)]:=hd 3 (by decide);have d6:vs 6 = .agg #[.string (za sn),.string (za sd)]:=hd 6 (by decide);clear hd;try simp only [d3,d6,zm,Act.put,zj,zi,zh,zg,zf,ze] at hK ⊢
     go_simp;go_at_call 36;(with_reducible first | refine (HDV.out _).mono ?_);rintro e w9 ⟨rfl,hb9⟩;exact hK.out _ _ (rfl) hb9 (fun h=>absurd h (by decide))
    ·refine zJ rfl [] ?_;intro vs W hW hd K hK;clear hd;try simp only [zm,Act.put,zj,zi,zh,zg,zf,ze] at hK ⊢
     go_simp;exact hK.out _ _ ⟨W.heap.size,rfl,hW.size,zF _ _ _ _ _ rfl rfl⟩ ((zx _ _).alloc (zu _) _) (fun _ b hb=>by simp [z7] at hb;subst hb;exact ⟨zu _,by simp⟩)
   ·refine zk ?_ zW
    ·refine YieldOk.intro rfl [(8,some 38)] (by kernel_rfl) (fun _=>.bool rb) rfl ?_;intro vs W hd;have d8:vs 8 = .tuple #[.agg #[.string (za rn),.string (za rd)],.bool rb]:=hd 8 (by decide);clear hd;refine ⟨rfl,fun w2=>?_⟩;try simp only [d8,zm,Act.put,zj,zi,zh,zg,zf,ze]
     go_simp
   refine qQ [(0,some 39),(1,some 40),(2,some 41),(3,some 42),(4,some 43),(5,some 44),(6,some 45),(7,some 46),(8,some 38),(9,some 47),(11,some 12),(10,some 48)] #[true,true,true,true,true,true,true,true,true,true,true,true,false,false] 2 ?_;intro vs Wf hW hd hbk hdis kf;simp only [qa,zl,and_true,List.getD_cons_succ,List.getD_cons_zero] at hd;obtain ⟨d0,d1,d2,d3,d4,d5,d6,d7,d8,d9,⟨X12,d11,b12,r12⟩,d10⟩:=hd;clear hbk hdis;try simp only [d0,d1,d2,d3,d4,d5,d6,d7,d8,d9,d11,d10,zm,Act.put,zj,zi,zh,zg,zf,ze]
   clear d0 d1 d2 d3 d4 d5 d6 d7 d8 d9 d11 d10 vs;clear HS;have l12:=r12.lt;have y12_0:=r12.frozen 0;have k12_0:=r12.cell (i:=0) (by decide);have y12_1:=r12.frozen 1;have k12_1:=r12.cell (i:=1) (by decide);refine zE 12 (by kernel_rfl) rfl (fun K hK=>?_);go_simp;refine hK.out _ _ ?_;clear hK K;try simp only [zm,Act.put,zj,zi,zh,zg,zf,ze]
   refine zE 13 (by kernel_rfl) rfl (fun K hK=>?_);go_simp;refine hK.out _ _ ?_;clear hK K;try simp only [zm,Act.put,zj,zi,zh,zg,zf,ze]
   refine qc (by kernel_rfl) ?_ _;all_goals
    have q4:=Q3.out.below hW;have hr:=q4.rows (w.heap.size+1+1, 33,2,#[.string ⟨#[]⟩,.string ⟨#[]⟩]) (by simp);have hgl:=(Q3.out.rows (w.heap.size+1+1, 33,2,#[.string ⟨#[]⟩,.string ⟨#[]⟩]) (by simp)).lt;have hgX:w.heap.size+1+1≠X12:=by simp only at hgl;omega
    have hgX2:X12≠w.heap.size+1+1:=Ne.symm hgX;have y1:=hr.frozen 0;have y2:=hr.frozen 1;have z1:=q4.is (w.heap.size+1+1) 2 33 #[.string ⟨#[]⟩,.string ⟨#[]⟩] (by simp) 0 (by decide) (Value.string ⟨#[]⟩) rfl;have z2:=q4.is (w.heap.size+1+1) 2 33 #[.string ⟨#[]⟩,.string ⟨#[]⟩] (by simp) 1 (by decide) (Value.string ⟨#[]⟩) rfl;have hX9:w.heap.size≤X12:=by simp only at hgl;omega
    cases rb
    ·go_wp2;exact ju rfl 0 0 rfl rfl (zet (qx ((hr.setOther hgX _).setOther hgX _) _ _)) rfl ⟨rfl,(((q4.bl.setCell (p:=⟨X12,0,none⟩) hX9 _).setCell (p:=⟨X12,1,none⟩) hX9 _).setCell (p:=⟨w.heap.size+1+1,0,none⟩) (by simp only;omega) _).setCell (p:=⟨w.heap.size+1+1,1,none⟩) (by simp only;omega) _⟩
    ·go_wp2;exact ju rfl rn rd rfl rfl ((qx ((hr.setOther hgX _).setOther hgX _) (.string (za rn)) (.string (za rd))).congr (zbK rn rd)) rfl ⟨rfl,(((q4.bl.setCell (p:=⟨X12,0,none⟩) hX9 _).setCell (p:=⟨X12,1,none⟩) hX9 _).setCell (p:=⟨w.heap.size+1+1,0,none⟩) (by simp only;omega) _).setCell (p:=⟨w.heap.size+1+1,1,none⟩) (by simp only;omega) _⟩
  ·have hsr:yE N n lo hi t=((0,0),yc N n lo hi):=by
    unfold yE;rw [if_pos hb,if_neg hE]
   rw [hsr];obtain ⟨E,hEE⟩:∃ E,yc N n lo hi=E:=⟨_,rfl⟩;rw [hEE] at HCK hE hE1 ⊢;rw [hb] at HTM;have e1:(E==1)=false:=by simpa using hE1
   have e2:(E != 0)=true:=bne_iff_ne.2 hE;have e3:(E==0)=false:=by simpa using hE
   obtain ⟨m,hm⟩:∃ m,t.length=m:=⟨_,rfl⟩;rw [hm] at HTM ⊢;clear hck htm hsr hb hEE hn hN hT hlo hhi ht hr hin hW hv hc1 hc2 htl hm;go_enter Tryz.func23, Tryz.ntmps23;go_wp2_with (first
    | (go_at_call 35;(with_reducible refine (HCK.out _ q0.bl).mono ?_);rintro e w1 ⟨rfl,hb1⟩;have q1:=q0.below hb1;clear hb1 q0
       have na1:=q1.is w.heap.size 2 24 #[.int .i64 N.n,.slice A N.l.length c] (by simp) 0 (by decide) (.int .i64 N.n) rfl;have nb1:=q1.is w.heap.size 2 24 #[.int .i64 N.n,.slice A N.l.length c] (by simp) 1 (by decide) (.slice A N.l.length c) rfl;have wa1:=q1.is (w.heap.size+1) 2 39 #[.slice Al (n+1) cl,.slice Ah (n+1) ch] (by simp) 0 (by decide) (.slice Al (n+1) cl) rfl;have wb1:=q1.is (w.heap.size+1) 2 39 #[.slice Al (n+1) cl,.slice Ah (n+1) ch] (by simp) 1 (by decide) (.slice Ah (n+1) ch) rfl;have ra1:=q1.is (w.heap.size+1+1) 2 33 #[.string ⟨#[]⟩,.string ⟨#[]⟩] (by simp) 0 (by decide) (.string ⟨#[]⟩) rfl;have rb1:=q1.is (w.heap.size+1+1) 2 33 #[.string ⟨#[]⟩,.string ⟨#[]⟩] (by simp) 1 (by decide) (.string ⟨#[]⟩) rfl)
    | (go_at_call 62;(with_reducible refine (HTM.out _ q1.bl).mono ?_);rintro e w2 ⟨v2,rfl,hb2⟩;have q2:=q1.below hb2;clear hb2 q1 na1 nb1 wa1 wb1 ra1 rb1
       have na2:=q2.is w.heap.size 2 24 #[.int .i64 N.n,.slice A N.l.length c] (by simp) 0 (by decide) (.int .i64 N.n) rfl;have nb2:=q2.is w.heap.size 2 24 #[.int .i64 N.n,.slice A N.l.length c] (by simp) 1 (by decide) (.slice A N.l.length c) rfl;have wa2:=q2.is (w.heap.size+1) 2 39 #[.slice Al (n+1) cl,.slice Ah (n+1) ch] (by simp) 0 (by decide) (.slice Al (n+1) cl) rfl;have wb2:=q2.is (w.heap.size+1) 2 39 #[.slice Al (n+1) cl,.slice Ah (n+1) ch] (by simp) 1 (by decide) (.slice Ah (n+1) ch) rfl;have ra2:=q2.is (w.heap.size+1+1) 2 33 #[.string ⟨#[]⟩,.string ⟨#[]⟩] (by simp) 0 (by decide) (.string ⟨#[]⟩) rfl;have rb2:=q2.is (w.heap.size+1+1) 2 33 #[.string ⟨#[]⟩,.string ⟨#[]⟩] (by simp) 1 (by decide) (.string ⟨#[]⟩) rfl;have hr:=q2.rows (w.heap.size+1+1, 33,2,#[.string ⟨#[]⟩,.string ⟨#[]⟩]) (by simp);have y1:=hr.frozen 0;have y2:=hr.frozen 1))
   all_goals
    exact ju rfl 0 0 rfl rfl (zet (qx hr _ _)) rfl ⟨rfl,(q2.bl.setCell (p:=⟨w.heap.size+1+1,0,none⟩) (by simp only;omega) _).setCell (p:=⟨w.heap.size+1+1,1,none⟩) (by simp only;omega) _⟩
 ·have hsr:yE N n lo hi t=((0,0),1):=by
   unfold yE;rw [if_neg hb]
  have hb':yj N.n t=false:=by simpa using hb
  rw [hsr];obtain ⟨E,hEE⟩:∃ E,yc N n lo hi=E:=⟨_,rfl⟩;rw [hEE] at HCK hE1;rw [hb'] at HTM;have e1:(E==1)=false:=by simpa using hE1
  obtain ⟨m,hm⟩:∃ m,t.length=m:=⟨_,rfl⟩;rw [hm] at HTM ⊢;clear hck htm hsr hb hb' hEE hn hN hT hlo hhi ht hr hin hW hv hc1 hc2 htl hm;go_enter Tryz.func23, Tryz.ntmps23;go_wp2_with (first
   | (go_at_call 35;(with_reducible refine (HCK.out _ q0.bl).mono ?_);rintro e w1 ⟨rfl,hb1⟩;have q1:=q0.below hb1;clear hb1 q0
      have na1:=q1.is w.heap.size 2 24 #[.int .i64 N.n,.slice A N.l.length c] (by simp) 0 (by decide) (.int .i64 N.n) rfl;have nb1:=q1.is w.heap.size 2 24 #[.int .i64 N.n,.slice A N.l.length c] (by simp) 1 (by decide) (.slice A N.l.length c) rfl;have wa1:=q1.is (w.heap.size+1) 2 39 #[.slice Al (n+1) cl,.slice Ah (n+1) ch] (by simp) 0 (by decide) (.slice Al (n+1) cl) rfl;have wb1:=q1.is (w.heap.size+1) 2 39 #[.slice Al (n+1) cl,.slice Ah (n+1) ch] (by simp) 1 (by decide) (.slice Ah (n+1) ch) rfl;have ra1:=q1.is (w.heap.size+1+1) 2 33 #[.string ⟨#[]⟩,.string ⟨#[]⟩] (by simp) 0 (by decide) (.string ⟨#[]⟩) rfl;have rb1:=q1.is (w.heap.size+1+1) 2 33 #[.string ⟨#[]⟩,.string ⟨#[]⟩] (by simp) 1 (by decide) (.string ⟨#[]⟩) rfl)
   | (go_at_call 62;(with_reducible refine (HTM.out _ q1.bl).mono ?_);rintro e w2 ⟨v2,rfl,hb2⟩;have q2:=q1.below hb2;clear hb2 q1 na1 nb1 wa1 wb1 ra1 rb1
      have na2:=q2.is w.heap.size 2 24 #[.int .i64 N.n,.slice A N.l.length c] (by simp) 0 (by decide) (.int .i64 N.n) rfl;have nb2:=q2.is w.heap.size 2 24 #[.int .i64 N.n,.slice A N.l.length c] (by simp) 1 (by decide) (.slice A N.l.length c) rfl;have wa2:=q2.is (w.heap.size+1) 2 39 #[.slice Al (n+1) cl,.slice Ah (n+1) ch] (by simp) 0 (by decide) (.slice Al (n+1) cl) rfl;have wb2:=q2.is (w.heap.size+1) 2 39 #[.slice Al (n+1) cl,.slice Ah (n+1) ch] (by simp) 1 (by decide) (.slice Ah (n+1) ch) rfl;have ra2:=q2.is (w.heap.size+1+1) 2 33 #[.string ⟨#[]⟩,.string ⟨#[]⟩] (by simp) 0 (by decide) (.string ⟨#[]⟩) rfl;have rb2:=q2.is (w.heap.size+1+1) 2 33 #[.string ⟨#[]⟩,.string ⟨#[]⟩] (by simp) 1 (by decide) (.string ⟨#[]⟩) rfl;have hr:=q2.rows (w.heap.size+1+1, 33,2,#[.string ⟨#[]⟩,.string ⟨#[]⟩]) (by simp);have y1:=hr.frozen 0;have y2:=hr.frozen 1))
  all_goals
   exact ju rfl 0 0 rfl rfl (zet (qx hr _ _)) rfl ⟨rfl,(q2.bl.setCell (p:=⟨w.heap.size+1+1,0,none⟩) (by simp only;omega) _).setCell (p:=⟨w.heap.size+1+1,1,none⟩) (by simp only;omega) _⟩
end Go.Proofs.YtmhllppjcilllaaGreatDoor
