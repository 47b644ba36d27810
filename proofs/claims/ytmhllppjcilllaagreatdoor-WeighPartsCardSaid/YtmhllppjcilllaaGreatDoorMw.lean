import Derived.Test.YtmhllppjcilllaaGreatDoorMg
import Derived.Test.YtmhllppjcilllaaGreatDoorLt
import Derived.Test.YtmhllppjcilllaaGreatDoorDp
set_option linter.unusedSimpArgs false
set_option linter.unusedVariables false
set_option maxRecDepth 100000
set_option maxHeartbeats 4000000
open Go Go.RowKit Cs
namespace Cs
def z6 (L H:List Pr) (a:Nat):Nat→Pr
 | 0=>(1,1)
 | k+1=>pq (qp (z6 L H a k)*qp (if a.testBit k then H.getD (k+1) (0,0) else L.getD (k+1) (0,0)))
theorem ziF (L H:List Pr) (a k:Nat):z6 L H a (k+1)=pq (qp (z6 L H a k)*qp (if a.testBit k then H.getD (k+1) (0,0) else L.getD (k+1) (0,0))):=rfl
theorem j2 (x k:Nat) (hx:x<18446744073709551616):(bits BinOp.and IntKind.u64 ((x:Int) / 2^k) 1==1)=x.testBit k:=by
 have e:((x:Int) / 2^k)=((x / 2^k:Nat):Int):=by rw [Int.natCast_ediv,Int.natCast_pow];rfl
 have hd:x / 2^k<18446744073709551616:=Nat.lt_of_le_of_lt (Nat.div_le_self ..) hx;have h:=u64_and_nat (x / 2^k) 1 hd (by decide);rw [Nat.and_one_is_mod] at h;simp only [Int.cast_ofNat_Int] at h;rw [e,h,Nat.testBit_eq_decide_div_mod_eq];rcases Nat.mod_two_eq_zero_or_one (x / 2^k) with h | h <;> rw [h] <;> rfl
theorem zeZ {N:Nt} {m:Nat} (h:jn N m=true):∀ k (hk:k<N.l.length),N.l[k].ins.length≤40:=fun k hk=>by
 unfold jn yl at h;rw [Bool.and_eq_true,List.all_eq_true] at h;have:=h.1 N.l[k] (List.getElem_mem hk);simpa using this
end Cs
namespace Go.Proofs.YtmhllppjcilllaaGreatDoor
theorem gD {w W:World} {g m:Nat} {L:List Pr} {l:List (Nat×TypeId×Nat×(Nat→Value))} (h:Rd w w.heap.size (some ⟨g,0,none⟩) (m*2) (zB L)) (hq:Kp w l W) {k:Nat} (hk:k<m):W.cell? ⟨g,k*2,none⟩=some (.string (zb (L.getD k (0,0)).1))∧W.cell? ⟨g,k*2+1,none⟩=some (.string (zb (L.getD k (0,0)).2)):=by
 obtain ⟨b,o,e,hb,hc⟩:=h (by omega);cases e;have c0:=zF hq.bl hb (hc (k*2) (by omega));have c1:=zF hq.bl hb (hc (k*2+1) (by omega));rw [Nat.zero_add] at c0 c1
 have e0:zB L (k*2) = .string (zb (L.getD k (0,0)).1):=by
  unfold zB;rw [if_pos (by omega),show k*2 / 2=k by omega]
 have e1:zB L (k*2+1) = .string (zb (L.getD k (0,0)).2):=by
  unfold zB;rw [if_neg (by omega),show (k*2+1) / 2=k by omega]
 exact ⟨by rw [c0,e0],by rw [c1,e1]⟩
theorem Kp_rat {w W:World} {g:Nat} {p:Pr} {l:List (Nat×TypeId×Nat×(Nat→Value))} (h:Kp w (qT g p::l) W) (q:Pr) (hg:w.heap.size≤g) (hne:∀ r∈l,r.1≠g):Kp w (qT g q::l) ((W.setCell ⟨g,0,none⟩ (.string (zb q.1))).setCell ⟨g,1,none⟩ (.string (zb q.2))) :=
 ⟨oZ h.bl hg _ _,fun r hr=>by
   rcases List.mem_cons.1 hr with rfl | hr
   ·exact (qx (h.row 0 rfl) _ _).congr fun i hi=>by
     show zC _ i=qo q.1 q.2 i;have:i=0∨i=1:=by omega
     rcases this with rfl | rfl <;> rfl
   ·exact ((h.rows r (List.mem_cons_of_mem _ hr)).setOther (hne r hr) _).setOther (hne r hr) _⟩
theorem zjS (w:World) (L H:List Pr) (M c1 c2 g1 g2 n a:Nat) (hL:Rd w w.heap.size (some ⟨g1,0,none⟩) (M*2) (zB L)) (hH:Rd w w.heap.size (some ⟨g2,0,none⟩) (M*2) (zB H)) (hM:n<M) (hn:n≤60) (ha:a<18446744073709551616)
  (hSL:∀ k,Sp (L.getD k (0,0))) (hSH:∀ k,Sp (H.getD k (0,0))) (hSW:∀ k,k≤n→Sp (z6 L H a k)) :
  Calls Tryz.prog 50 #[yw (some ⟨g1,0,none⟩) (some ⟨g2,0,none⟩) M M c1 c2,.int .i64 (n:Int),.int .u64 (a:Int)] w fun e w'=>e = .returned (zD (z6 L H a n).1 (z6 L H a n).2)∧Below w.heap.size w w':=by
 have q0:=((Kp.nil w).new #[.slice (some ⟨g1,0,none⟩) M c1,.slice (some ⟨g2,0,none⟩) M c2] 39 w.heap.size 2 rfl rfl).new #[.string ⟨#[]⟩,.string ⟨#[]⟩] 33 (w.heap.size+1) 2 (by simp) rfl;obtain ⟨⟨ra,rd⟩,hr⟩:∃ p,z6 L H a n=p:=⟨_,rfl⟩;rw [hr];have Q0:=zc q0;have HRR:=zc hr;have HL:=zc hL;have HH:=zc hH;have HSL:=zc hSL;have HSH:=zc hSH;have HSW:=zc hSW;have HM:=zc hM;have HN:=zc hn;have HA:=zc ha;clear q0 hL hH hSL hSH hSW hM hn ha hr;go_enter Tryz.func50, Tryz.ntmps50;go_wp2_with (go_at_call 29;(with_reducible refine (zjm _).mono ?_);rintro e w1 ⟨rfl,hb1⟩;have Q1:=zc (Q0.out.below hb1))
 obtain ⟨g7,hg7⟩:∃ b,w1.heap.size=b:=⟨_,rfl⟩;have hs1:=Q1.out.bl.size;have r0:=(Q1.out.row 0 rfl).lt;have r1:=(Q1.out.row 1 rfl).lt;have qs:=zgL (Q1.out.new #[.string (zb 1),.string (zb 1)] 33 g7 2 hg7 rfl) (ye 1 1);have HNE:Hid (w.heap.size≤g7∧w.heap.size+1≠g7∧w.heap.size≠g7):=zc ⟨by omega,by omega,by omega⟩;have QS:=zc qs;rw [hg7];clear qs Q0 Q1 hs1 r0 r1 hg7;go_loopw [8] (fun t wr=>∃ k:Nat,k≤n∧t = .int .i64 ((k:Int)+1)∧Kp w [qT g7 (z6 L H a k),(w.heap.size+1, 33,2,zC #[.string ⟨#[]⟩,.string ⟨#[]⟩]),(w.heap.size, 39,2,zC #[.slice (some ⟨g1,0,none⟩) M c1,.slice (some ⟨g2,0,none⟩) M c2])] wr) (fun t _=>n+1-(intOf t).toNat)
 case atStart=>exact ⟨0,Nat.zero_le _,rfl,QS.out⟩
 case round =>
  clear QS;obtain ⟨k,hk,rfl,q0⟩:=hrel;by_cases hlt:k<n
  ·have hc:decide ((k:Int)+1≤(n:Int))=true:=decide_eq_true (by omega);have hc2:decide (k+1≤n)=true:=decide_eq_true (by omega);have hlt1:k+1<M:=by have:=HM.out;omega
   have hj:IntKind.i64.wrap ((k:Int)+1-1)=(k:Int):=by have:=HN.out;rw [IntKind.wrap_i64];omega
   have hj2:IntKind.u64.wrap (k:Int)=(k:Int):=by have:=HN.out;rw [IntKind.wrap_u64];omega
   have hmin:min k 64=k:=by have:=HN.out;omega
   have hnx:IntKind.i64.wrap ((k:Int)+1+1)=(k:Int)+1+1:=by have:=HN.out;rw [IntKind.wrap_i64];omega
   have hbit:=j2 a k HA.out;cases hb:a.testBit k with
   | true =>
     rw [hb] at hbit;have htm:z6 L H a (k+1)=pq (qp (z6 L H a k)*qp (H.getD (k+1) (0,0))):=(ziF L H a k).trans (by rw [hb];rfl);obtain ⟨⟨ya,yd⟩,hy⟩:∃ p,H.getD (k+1) (0,0)=p:=⟨_,rfl⟩;obtain ⟨s4,s5⟩:=gD HH q0 hlt1;rw [hy] at s4 s5 htm;have hys:Sp (ya,yd):=by have:=HSH.out (k+1);rwa [hy] at this
     obtain ⟨⟨xa,xd⟩,hxx⟩:∃ p,z6 L H a k=p:=⟨_,rfl⟩;have hxs:=HSW.out k (Nat.le_of_lt hlt);rw [hxx] at q0 htm hxs;obtain ⟨⟨za,zd⟩,hz⟩:∃ p,z6 L H a (k+1)=p:=⟨_,rfl⟩;rw [hz] at htm;have hmu:∀ W,_:=fun W=>zev W xa xd ya yd hxs.1 hxs.2 hys.1 hys.2;have hza:qn (qq xa xd*qq ya yd)=za:=(congrArg Prod.fst htm).symm;have hzd:(qq xa xd*qq ya yd).den=zd:=(congrArg Prod.snd htm).symm;simp only [hza,hzd] at hmu;obtain ⟨s1,s2⟩:=zN (q0.row 0 rfl);have s3:wr.cell? ⟨w.heap.size,1,none⟩=some (.slice (some ⟨g2,0,none⟩) M c2):=(q0.row 2 rfl).cell (i:=1) (by decide);have l7:=(q0.row 0 rfl).lt;have lb:=(q0.row 2 rfl).lt;have lg:g2<wr.heap.size:=World.block_lt_of_cell? _ _ s4;have hiM:((k:Int)+1)<(M:Int):=by omega
     have hi0:(0:Int)≤(k:Int)+1:=by omega
     have hof:((k:Int)+1).toNat=k+1:=by omega
     have HMU:=zc hmu;have QQ:=zc q0;have HZ:=zc hz;have HLT:=zc hlt;clear hmu q0 hz hxx hxs hys hy htm hza hzd hlt hlt1;go_upto_region 6 with (fail)
     have HS:Hid (∀ W,Below wr.heap.size wr W→W.cell? ⟨g7,0,none⟩=some (.string (zb xa))∧W.cell? ⟨g7,1,none⟩=some (.string (zb xd))∧W.cell? ⟨w.heap.size,1,none⟩=some (.slice (some ⟨g2,0,none⟩) M c2)∧W.cell? ⟨g2,(k+1)*2,none⟩=some (.string (zb ya))∧W.cell? ⟨g2,(k+1)*2+1,none⟩=some (.string (zb yd))):=zc fun W hb=>⟨zG hb s1 l7,zG hb s2 l7,zG hb s3 lb,zG hb s4 lg,zG hb s5 lg⟩;refine yT (n:=_) (PX:=[zm (.agg #[.string (zb xa),.string (zb xd)]),
        zm (.pointer (some ⟨w.heap.size,1,none⟩)),
        zm (.slice (some ⟨g2,0,none⟩) M c2),
        zm (.int .i64 ((k:Int)+1)),
        zm (.pointer (some ⟨g2,(k+1)*2,none⟩)),
        zm (.agg #[.string (zb ya),.string (zb yd)]),
        zm (.agg #[.string (zb za),.string (zb zd)])])
       (AL:=[]) (DP:=[[],[],[1],[],[2,3],[4],[0,5]]) (L1:=[0,1,2,3,4,5,6]) (ex:=[]) (by kernel_rfl) rfl (by kernel_rfl) ?_ ?_ (ji ?_)
     ·repeat' first|exact qi|refine zo ?_ ?_|exact fun _ _ _ _ h _=>h
     ·refine zo (zw rfl [] ?_) (zo (zw rfl [] ?_) (zo (zw rfl [(1,some 23)] ?_) (zo (zw rfl [] ?_) (zo (zw rfl [(2,some 24),(3,some 25)] ?_) (zo (zw rfl [(4,some 26)] ?_) (zo ?_ qi))))));all_goals try (intro vs W hW hd K hK;(try simp only [qh,zm,and_true,List.getD_cons_succ,List.getD_cons_zero] at hd);(first | simp only [hd,zu,Act.put,zk,zj,zi,zg,zf,ze] at hK ⊢ | simp only [zu,Act.put,zk,zj,zi,zg,zf,ze] at hK ⊢ | skip);obtain ⟨m1,m2,m3,m4,m5⟩:=HS.out W hW;go_simp;exact hK.out _ _ rfl (zy _ _) (yM rfl))
      ·refine zZ rfl [(0,some 22),(5,some 27)] ?_;intro vs W hW hd K hK;have d0:vs 0 = .agg #[.string (zb xa),.string (zb xd)]:=hd 0 (by decide);have d5:vs 5 = .agg #[.string (zb ya),.string (zb yd)]:=hd 5 (by decide);clear hd;try simp only [d0,d5,zu,Act.put,zk,zj,zi,zg,zf,ze] at hK ⊢
       go_simp;go_at_call 30;(with_reducible first | refine (HMU.out _).mono ?_);rintro e w9 ⟨rfl,hb9⟩;exact hK.out _ _ (rfl) hb9 (fun h=>absurd h (by decide))
     refine yp [(0,some 22),(1,some 23),(2,some 24),(3,some 25),(4,some 26),(5,some 27),(6,some 28)] #[true,true,true,true,true,true,true,false] 1 ?_;intro vs Wf hW hd hbk hdis kf;simp only [qh,zm,and_true,List.getD_cons_succ,List.getD_cons_zero] at hd;obtain ⟨d0,d1,d2,d3,d4,d5,d6⟩:=hd;clear hbk hdis;try simp only [d0,d1,d2,d3,d4,d5,d6,zu,Act.put,zk,zj,zi,zg,zf,ze]
     clear d0 d1 d2 d3 d4 d5 d6 vs;clear HS;have qf:=QQ.out.below hW;obtain ⟨m0,m1⟩:=zN (qf.row 0 rfl);have f0:=(qf.row 0 rfl).frozen 0;have f1:=(qf.row 0 rfl).frozen 1;have HQF:=zc qf;clear qf;refine zL 7 (by kernel_rfl) rfl (fun K hK=>?_);go_simp;refine hK.out _ _ ?_;clear hK K;try simp only [zu,Act.put,zk,zj,zi,zg,zf,ze]
     refine z8 (by kernel_rfl) ?_ _;all_goals
      go_wp2;go_roundw
     case rel=>exact ⟨k+1,Nat.succ_le_of_lt HLT.out,by go_num,by rw [HZ.out];exact Kp_rat HQF.out ⟨za,zd⟩ HNE.out.1 (by intro r hr;rcases List.mem_cons.1 hr with rfl | hr;(· exact HNE.out.2.1);rcases List.mem_cons.1 hr with rfl | hr;(· exact HNE.out.2.2);cases hr)⟩
     case measure=>have:=HLT.out;simp [intOf];omega
   | false =>
     rw [hb] at hbit;have htm:z6 L H a (k+1)=pq (qp (z6 L H a k)*qp (L.getD (k+1) (0,0))):=(ziF L H a k).trans (by rw [hb];rfl);obtain ⟨⟨ya,yd⟩,hy⟩:∃ p,L.getD (k+1) (0,0)=p:=⟨_,rfl⟩;obtain ⟨s4,s5⟩:=gD HL q0 hlt1;rw [hy] at s4 s5 htm;have hys:Sp (ya,yd):=by have:=HSL.out (k+1);rwa [hy] at this
     obtain ⟨⟨xa,xd⟩,hxx⟩:∃ p,z6 L H a k=p:=⟨_,rfl⟩;have hxs:=HSW.out k (Nat.le_of_lt hlt);rw [hxx] at q0 htm hxs;obtain ⟨⟨za,zd⟩,hz⟩:∃ p,z6 L H a (k+1)=p:=⟨_,rfl⟩;rw [hz] at htm;have hmu:∀ W,_:=fun W=>zev W xa xd ya yd hxs.1 hxs.2 hys.1 hys.2;have hza:qn (qq xa xd*qq ya yd)=za:=(congrArg Prod.fst htm).symm;have hzd:(qq xa xd*qq ya yd).den=zd:=(congrArg Prod.snd htm).symm;simp only [hza,hzd] at hmu;obtain ⟨s1,s2⟩:=zN (q0.row 0 rfl);have s3:wr.cell? ⟨w.heap.size,0,none⟩=some (.slice (some ⟨g1,0,none⟩) M c1):=(q0.row 2 rfl).cell (i:=0) (by decide);have l7:=(q0.row 0 rfl).lt;have lb:=(q0.row 2 rfl).lt;have lg:g1<wr.heap.size:=World.block_lt_of_cell? _ _ s4;have hiM:((k:Int)+1)<(M:Int):=by omega
     have hi0:(0:Int)≤(k:Int)+1:=by omega
     have hof:((k:Int)+1).toNat=k+1:=by omega
     have HMU:=zc hmu;have QQ:=zc q0;have HZ:=zc hz;have HLT:=zc hlt;clear hmu q0 hz hxx hxs hys hy htm hza hzd hlt hlt1;go_upto_region 7 with (fail)
     have HS:Hid (∀ W,Below wr.heap.size wr W→W.cell? ⟨g7,0,none⟩=some (.string (zb xa))∧W.cell? ⟨g7,1,none⟩=some (.string (zb xd))∧W.cell? ⟨w.heap.size,0,none⟩=some (.slice (some ⟨g1,0,none⟩) M c1)∧W.cell? ⟨g1,(k+1)*2,none⟩=some (.string (zb ya))∧W.cell? ⟨g1,(k+1)*2+1,none⟩=some (.string (zb yd))):=zc fun W hb=>⟨zG hb s1 l7,zG hb s2 l7,zG hb s3 lb,zG hb s4 lg,zG hb s5 lg⟩;refine yT (n:=_) (PX:=[zm (.agg #[.string (zb xa),.string (zb xd)]),
        zm (.pointer (some ⟨w.heap.size,0,none⟩)),
        zm (.slice (some ⟨g1,0,none⟩) M c1),
        zm (.int .i64 ((k:Int)+1)),
        zm (.pointer (some ⟨g1,(k+1)*2,none⟩)),
        zm (.agg #[.string (zb ya),.string (zb yd)]),
        zm (.agg #[.string (zb za),.string (zb zd)])])
       (AL:=[]) (DP:=[[],[],[1],[],[2,3],[4],[0,5]]) (L1:=[0,1,2,3,4,5,6]) (ex:=[]) (by kernel_rfl) rfl (by kernel_rfl) ?_ ?_ (ji ?_)
     ·repeat' first|exact qi|refine zo ?_ ?_|exact fun _ _ _ _ h _=>h
     ·refine zo (zw rfl [] ?_) (zo (zw rfl [] ?_) (zo (zw rfl [(1,some 30)] ?_) (zo (zw rfl [] ?_) (zo (zw rfl [(2,some 31),(3,some 32)] ?_) (zo (zw rfl [(4,some 33)] ?_) (zo ?_ qi))))));all_goals try (intro vs W hW hd K hK;(try simp only [qh,zm,and_true,List.getD_cons_succ,List.getD_cons_zero] at hd);(first | simp only [hd,zu,Act.put,zk,zj,zi,zg,zf,ze] at hK ⊢ | simp only [zu,Act.put,zk,zj,zi,zg,zf,ze] at hK ⊢ | skip);obtain ⟨m1,m2,m3,m4,m5⟩:=HS.out W hW;go_simp;exact hK.out _ _ rfl (zy _ _) (yM rfl))
      ·refine zZ rfl [(0,some 29),(5,some 34)] ?_;intro vs W hW hd K hK;have d0:vs 0 = .agg #[.string (zb xa),.string (zb xd)]:=hd 0 (by decide);have d5:vs 5 = .agg #[.string (zb ya),.string (zb yd)]:=hd 5 (by decide);clear hd;try simp only [d0,d5,zu,Act.put,zk,zj,zi,zg,zf,ze] at hK ⊢
       go_simp;go_at_call 30;(with_reducible first | refine (HMU.out _).mono ?_);rintro e w9 ⟨rfl,hb9⟩;exact hK.out _ _ (rfl) hb9 (fun h=>absurd h (by decide))
     refine yp [(0,some 29),(1,some 30),(2,some 31),(3,some 32),(4,some 33),(5,some 34),(6,some 35)] #[true,true,true,true,true,true,true,false] 1 ?_;intro vs Wf hW hd hbk hdis kf;simp only [qh,zm,and_true,List.getD_cons_succ,List.getD_cons_zero] at hd;obtain ⟨d0,d1,d2,d3,d4,d5,d6⟩:=hd;clear hbk hdis;try simp only [d0,d1,d2,d3,d4,d5,d6,zu,Act.put,zk,zj,zi,zg,zf,ze]
     clear d0 d1 d2 d3 d4 d5 d6 vs;clear HS;have qf:=QQ.out.below hW;obtain ⟨m0,m1⟩:=zN (qf.row 0 rfl);have f0:=(qf.row 0 rfl).frozen 0;have f1:=(qf.row 0 rfl).frozen 1;have HQF:=zc qf;clear qf;refine zL 7 (by kernel_rfl) rfl (fun K hK=>?_);go_simp;refine hK.out _ _ ?_;clear hK K;try simp only [zu,Act.put,zk,zj,zi,zg,zf,ze]
     refine z8 (by kernel_rfl) ?_ _;all_goals
      go_wp2;go_roundw
     case rel=>exact ⟨k+1,Nat.succ_le_of_lt HLT.out,by go_num,by rw [HZ.out];exact Kp_rat HQF.out ⟨za,zd⟩ HNE.out.1 (by intro r hr;rcases List.mem_cons.1 hr with rfl | hr;(· exact HNE.out.2.1);rcases List.mem_cons.1 hr with rfl | hr;(· exact HNE.out.2.2);cases hr)⟩
     case measure=>have:=HLT.out;simp [intOf];omega
  ·obtain rfl:k=n:=by omega
   have hc:decide ((k:Int)+1≤(k:Int))=false:=decide_eq_false (by omega);have hc2:decide (k+1≤k)=false:=decide_eq_false (by omega);rw [HRR.out] at q0;obtain ⟨s1,s2⟩:=zN (q0.row 0 rfl);have y1:=(q0.row 1 rfl).frozen 0;have y2:=(q0.row 1 rfl).frozen 1;have z1:wr.cell? ⟨w.heap.size+1,0,none⟩=some (.string ⟨#[]⟩):=(q0.row 1 rfl).cell (i:=0) (by decide);have z2:wr.cell? ⟨w.heap.size+1,1,none⟩=some (.string ⟨#[]⟩):=(q0.row 1 rfl).cell (i:=1) (by decide);have hs:=(qx (q0.row 1 rfl) (.string (zb ra)) (.string (zb rd))).congr (ye ra rd);have hb:=oZ q0.bl (g:=w.heap.size+1) (by omega) (.string (zb ra)) (.string (zb rd));clear q0 hlt;go_wp2_with fail
   exact zcz rfl ra rd rfl hs rfl ⟨rfl,hb⟩
theorem light60 (w:World) (N:Nt) (A:Option Addr) (c:Nat) (hlen:N.l.length≤140737488355328) (hN:NtAt w w.heap.size A N.l) :
  Calls Tryz.prog 43 #[qB N A c,.int .i64 60] w fun e w'=>e = .returned (.bool (jn N 60))∧Below w.heap.size w w':=zh7 w N A c 60 hlen hN (by decide)
theorem ze3 (w:World) (hT:Tab w) (hP:Pat w) (N:Nt) (A:Option Addr) (c:Nat) (Aw:Option Addr) (lw cw:Nat) (At:Option Addr) (lt ct:Nat) (hlen:N.l.length≤140737488355328) (hN:NtAt w w.heap.size A N.l) :
  Calls Tryz.prog 48 #[yE N A c Aw lw cw At lt ct] w fun e w'=>∃ r,e = .returned (.bool r)∧(r=true→jn N 60=true∧N.n≤8∧(zE N&&qc N)=true∧∀ s,qQ N s=true)∧Below w.heap.size w w':=by
 have q0:Kp w [yR w.heap.size N A c Aw lw cw At lt ct] (w.alloc (.cells #[.int .i64 N.n,.slice A N.l.length c,.slice Aw lw cw,.slice At lt ct] 28)):=(Kp.nil w).new _ _ w.heap.size 4 rfl rfl;have hli:∀ W,Below w.heap.size w W→_:=fun W h=>light60 W N A c hlen ((hN.below h).more h.size);have hdc:∀ W,Below w.heap.size w W→_:=fun W h=>dcmp_any W N A c hlen ((hN.below h).more h.size);obtain ⟨s1,s2,s3,s4⟩:=jv (q0.row 0 rfl);have HLI:=zc hli;have HDC:=zc hdc;have Q0:=zc q0;have HT:=zc hT;have HP:=zc hP;have HN:=zc hN;clear hli hdc q0 hT hP hN hlen;obtain ⟨a,ha⟩:∃ a,jn N 60=a:=⟨_,rfl⟩;rw [ha] at HLI ⊢;cases a with
 | false =>
   clear ha;go_enter Tryz.func48, Tryz.ntmps48;go_wp2_with (go_at_call 43;(with_reducible refine (HLI.out _ Q0.out.bl).mono ?_);rintro e w1 ⟨rfl,hb1⟩;have Q1:=zc (Q0.out.below hb1);clear hb1 s1 s2 s3 s4)
   all_goals
    go_ret;exact ⟨false,rfl,fun h=>(by cases h),Q1.out.bl⟩
 | true =>
   have HA:=zc ha;clear ha;by_cases h8:N.n≤8
   case neg =>
    have hd8:decide (8<N.n)=true:=decide_eq_true (by omega);clear h8;go_enter Tryz.func48, Tryz.ntmps48;go_wp2_with (go_at_call 43;(with_reducible refine (HLI.out _ Q0.out.bl).mono ?_);rintro e w1 ⟨rfl,hb1⟩;have Q1:=zc (Q0.out.below hb1);clear hb1 s1 s2 s3 s4;obtain ⟨s1,s2,s3,s4⟩:=jv (Q1.out.row 0 rfl))
    all_goals
     go_ret;exact ⟨false,rfl,fun h=>(by cases h),Q1.out.bl⟩
   have hd8:decide (8<N.n)=false:=decide_eq_false (by omega);have H8:=zc h8;clear h8;obtain ⟨b,hb⟩:∃ b,(zE N&&qc N)=b:=⟨_,rfl⟩;rw [hb] at HDC ⊢;cases b with
   | false =>
     clear hb;go_enter Tryz.func48, Tryz.ntmps48;go_wp2_with (first
      | (go_at_call 43;(with_reducible refine (HLI.out _ Q0.out.bl).mono ?_);rintro e w1 ⟨rfl,hb1⟩;have Q1:=zc (Q0.out.below hb1);clear hb1 s1 s2 s3 s4;obtain ⟨s1,s2,s3,s4⟩:=jv (Q1.out.row 0 rfl))
      | (go_at_call 25;(with_reducible refine (HDC.out _ Q1.out.bl).mono ?_);rintro e w2 ⟨rfl,hb2⟩;have Q2:=zc (Q1.out.below hb2);clear hb2 s1 s2 s3 s4))
     all_goals
      go_ret;exact ⟨false,rfl,fun h=>(by cases h),Q2.out.bl⟩
   | true =>
     rw [Bool.and_eq_true] at hb;have hin:=zeZ HA.out;have hdt:∀ W,Below w.heap.size w W→_:=fun W h=>det_any W (HT.out.below h) (HP.out.below h) N A c ((HN.out.below h).more h.size) hb.1 (fun k hk=>Nat.le_trans (hin k hk) (by decide)) H8.out;have HDT:=zc hdt;clear hdt hb hin;go_enter Tryz.func48, Tryz.ntmps48;go_wp2_with (first
      | (go_at_call 43;(with_reducible refine (HLI.out _ Q0.out.bl).mono ?_);rintro e w1 ⟨rfl,hb1⟩;have Q1:=zc (Q0.out.below hb1);clear hb1 s1 s2 s3 s4;obtain ⟨s1,s2,s3,s4⟩:=jv (Q1.out.row 0 rfl))
      | (go_at_call 25;(with_reducible refine (HDC.out _ Q1.out.bl).mono ?_);rintro e w2 ⟨rfl,hb2⟩;have Q2:=zc (Q1.out.below hb2);clear hb2 s1 s2 s3 s4;obtain ⟨s1,s2,s3,s4⟩:=jv (Q2.out.row 0 rfl))
      | (go_at_call 92;(with_reducible refine (HDT.out _ Q2.out.bl).mono ?_);rintro e w3 ⟨r,rfl,hr,hb3⟩;have HR:=zc hr;have Q3:=zc (Q2.out.below hb3);clear hb3 hr s1 s2 s3 s4))
     all_goals
      go_ret;first | exact ⟨_,rfl,fun h=>⟨trivial,H8.out,trivial,HR.out (by first | assumption | exact h)⟩,Q3.out.bl⟩ | exact ⟨_,rfl,fun h=>(by cases h),Q3.out.bl⟩
end Go.Proofs.YtmhllppjcilllaaGreatDoor
