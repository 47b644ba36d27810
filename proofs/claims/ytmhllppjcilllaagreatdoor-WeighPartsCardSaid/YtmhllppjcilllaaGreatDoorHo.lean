import Derived.Test.YtmhllppjcilllaaGreatDoorSm
import Derived.Test.YtmhllppjcilllaaGreatDoorZa
import Derived.Test.YtmhllppjcilllaaGreatDoorTw
import Derived.Test.YtmhllppjcilllaaGreatDoorBq
import Derived.Test.YtmhllppjcilllaaGreatDoorB1
import Derived.Laws.AppendOwn
set_option linter.unusedSimpArgs false
set_option linter.unusedVariables false
section
set_option maxRecDepth 100000
set_option maxHeartbeats 4000000
open Go Go.RowKit Cs
namespace Go.Proofs.YtmhllppjcilllaaGreatDoor
theorem zh4 (q:Rat) (p:Pr) (h0:0≤q) (h:pq q=p):Lp p:=h▸Lp.pq h0
theorem zef (V m:Nat) (h:V<256) (hm:1≤m):n8 V≤m:=Nat.le_trans (zhy V 8 1 h (by decide)) hm
theorem few_in {n:Nat} {lo hi:List Pr} (h1:lo.length=n+1) (h2:hi.length=n+1) (h3:∀ p∈lo,Lp p∧p.1<256∧p.2<256) (h4:∀ p∈hi,Lp p∧p.1<256∧p.2<256):WtIn n lo hi:=by
 have key:∀ (L:List Pr),(∀ p∈L,Lp p∧p.1<256∧p.2<256)→∀ k,Lp (L.getD k (0,0))∧(L.getD k (0,0)).1<256∧(L.getD k (0,0)).2<256:=fun L h k=>by
  rw [List.getD_eq_getElem?_getD];by_cases hk:k<L.length
  ·rw [List.getElem?_eq_getElem hk];exact h _ (List.getElem_mem hk)
  ·rw [List.getElem?_eq_none (by omega)];exact ⟨Lp.zero,by decide,by decide⟩
 exact ⟨h1,h2,fun k=>(key lo h3 k).1,fun k=>(key hi h4 k).1,⟨zef _ _ (key lo h3 0).2.1 (by decide),zef _ _ (key lo h3 0).2.2 (by decide)⟩,⟨zef _ _ (key hi h4 0).2.1 (by decide),zef _ _ (key hi h4 0).2.2 (by decide)⟩,
  fun k=>⟨zef _ _ (key lo h3 k).2.1 (by decide),zef _ _ (key lo h3 k).2.2 (by decide)⟩,fun k=>⟨zef _ _ (key hi h4 k).2.1 (by decide),zef _ _ (key hi h4 k).2.2 (by decide)⟩⟩
theorem jy:WtIn 3 oT oS:=few_in rfl rfl
 (fun p hp=>by
   simp [oT] at hp;rcases hp with rfl | rfl | rfl | rfl
   ·exact ⟨zh4 0 _ (by decide +kernel) (by decide +kernel),by decide,by decide⟩
   ·exact ⟨zh4 (1 / 3) _ (by decide +kernel) (by decide +kernel),by decide,by decide⟩
   ·exact ⟨zh4 (1 / 2) _ (by decide +kernel) (by decide +kernel),by decide,by decide⟩
   ·exact ⟨zh4 1 _ (by decide +kernel) (by decide +kernel),by decide,by decide⟩)
 (fun p hp=>by
   simp [oS] at hp;rcases hp with rfl | rfl | rfl | rfl
   ·exact ⟨zh4 0 _ (by decide +kernel) (by decide +kernel),by decide,by decide⟩
   ·exact ⟨zh4 (2 / 3) _ (by decide +kernel) (by decide +kernel),by decide,by decide⟩
   ·exact ⟨zh4 (1 / 2) _ (by decide +kernel) (by decide +kernel),by decide,by decide⟩
   ·exact ⟨zh4 3 _ (by decide +kernel) (by decide +kernel),by decide,by decide⟩)
theorem smp_fit:yv smpN 3 oT oS=0:=by decide +kernel
theorem smp_sum:(RP 3 oT oS).sum smpN=(8,3):=by decide +kernel
theorem smp_low:yN smpN 3 oT oS 3=[(0,0),(2,3),(1,1),(1,6)]:=by decide +kernel
theorem smp_high:yG smpN 3 oT oS 3=[(0,0),(2,1),(5,3),(5,2)]:=by decide +kernel
theorem zif:∀ k (hk:k<smpN.l.length),smpN.l[k].ins.length≤1000000:=by decide +kernel
structure Smw (w:World) (b1 b2 gn Al Ah:Nat) (W:World):Prop where
 r1:W.rowIs b1 24 2 (zC #[.int .i64 3,.slice (some ⟨gn,0,none⟩) 7 7])
 r2:W.rowIs b2 39 2 (zC #[.slice (some ⟨Al,0,none⟩) 4 4,.slice (some ⟨Ah,0,none⟩) 4 4])
 nt:NtAt W W.heap.size (some ⟨gn,0,none⟩) smpN.l
 rl:Rd W W.heap.size (some ⟨Al,0,none⟩) ((3+1)*2) (zB oT)
 rh:Rd W W.heap.size (some ⟨Ah,0,none⟩) ((3+1)*2) (zB oS)
 bl:Below w.heap.size w W
section
variable {w W W':World} {b1 b2 gn Al Ah:Nat}
theorem Smw.below (h:Smw w b1 b2 gn Al Ah W) (hb:Below W.heap.size W W'):Smw w b1 b2 gn Al Ah W' :=
 ⟨zh h.r1 hb,zh h.r2 hb,(h.nt.below hb).more hb.size,(h.rl.below hb).more hb.size,(h.rh.below hb).more hb.size,zx h.bl hb h.bl.size⟩
theorem Smw.total (h:Smw w b1 b2 gn Al Ah W) (hT:Tab w):Calls Tryz.prog 16 #[.agg #[.int .i64 3,.slice (some ⟨gn,0,none⟩) 7 7],.agg #[.slice (some ⟨Al,0,none⟩) 4 4,.slice (some ⟨Ah,0,none⟩) 4 4]] W fun e w'=>e = .returned (.tuple #[zD 8 3,.int .i64 0])∧Below W.heap.size W w' :=
 zgZ W smpN (some ⟨gn,0,none⟩) 7 4 4 3 oT oS _ _ h.nt (by decide +kernel) rfl (hT.below h.bl) zif jy h.rl h.rh (by decide) (by decide) (8,3) 0 smp_fit.symm smp_sum.symm
theorem Smw.bylit (h:Smw w b1 b2 gn Al Ah W) (hT:Tab w):Calls Tryz.prog 21 #[.agg #[.int .i64 3,.slice (some ⟨gn,0,none⟩) 7 7],.agg #[.slice (some ⟨Al,0,none⟩) 4 4,.slice (some ⟨Ah,0,none⟩) 4 4]] W fun e w'=>∃ gl gh,e = .returned (.tuple #[.slice (some ⟨gl,0,none⟩) 4 4,.slice (some ⟨gh,0,none⟩) 4 4,.int .i64 0]) ∧
  w'.rowIs gl 33 ((3+1)*2) (zB [(0,0),(2,3),(1,1),(1,6)])∧w'.rowIs gh 33 ((3+1)*2) (zB [(0,0),(2,1),(5,3),(5,2)])∧Below W.heap.size W w':=by
 have:=zhO W smpN (some ⟨gn,0,none⟩) 7 4 4 3 oT oS _ _ h.nt (by decide +kernel) rfl (hT.below h.bl) zif jy h.rl h.rh (by decide) (by decide) smp_fit;rw [smp_low,smp_high] at this;refine this.mono ?_;rintro e w' ⟨gl,gh,h1,_,_,h2,h3,h4⟩;exact ⟨gl,gh,h1,h2,h3,h4⟩
theorem Smw.share (h:Smw w b1 b2 gn Al Ah W) (hT:Tab w) (t:List Int) (At:Option Addr) (ct:Nat) (ht:Rd W W.heap.size At t.length (zV t)) (htl:t.length≤1000000) (hr:∀ x∈t,-9223372036854775808≤x∧x≤9223372036854775807) (p:Pr) (E:Int) (he:jU smpN 3 oT oS t=(p,E)) :
  Calls Tryz.prog 23 #[.agg #[.int .i64 3,.slice (some ⟨gn,0,none⟩) 7 7],.agg #[.slice (some ⟨Al,0,none⟩) 4 4,.slice (some ⟨Ah,0,none⟩) 4 4],.slice At t.length ct] W fun e w'=>e = .returned (.tuple #[zD p.1 p.2,.int .i64 E])∧Below W.heap.size W w':=by
 have:=zhf W smpN (some ⟨gn,0,none⟩) 7 4 4 ct 3 oT oS t _ _ At h.nt (by decide +kernel) rfl (hT.below h.bl) zif jy h.rl h.rh (by decide) (by decide) ht htl hr;rw [he] at this;exact this
theorem Smw.loads (h:Smw w b1 b2 gn Al Ah W):W.cell? ⟨b1,0,none⟩=some (.int .i64 3)∧W.cell? ⟨b1,1,none⟩=some (.slice (some ⟨gn,0,none⟩) 7 7)∧W.cell? ⟨b2,0,none⟩=some (.slice (some ⟨Al,0,none⟩) 4 4)∧W.cell? ⟨b2,1,none⟩=some (.slice (some ⟨Ah,0,none⟩) 4 4) :=
 ⟨h.r1.cell (i:=0) (by decide),h.r1.cell (i:=1) (by decide),h.r2.cell (i:=0) (by decide),h.r2.cell (i:=1) (by decide)⟩
end
theorem int2 {w:World} {g:Nat} {t:TypeId} {a b:Int} (h:w.rowIs g t 2 (zC #[.int .i64 a,.int .i64 b])):w.rowIs g t 2 (zV [a,b]):=h.congr fun i hi=>by
 match i,hi with
 | 0,_=>rfl
 | 1,_=>rfl
theorem zbV (w:World) (hT:Tab w):Calls Tryz.prog 15 #[] w fun e w'=>e = .returned (.bool true)∧Below w.heap.size w w':=by
 have HSA:=zc (zkh w);have HT:Hid (Tab w):=zc hT;clear hT;go_enter Tryz.func15, Tryz.ntmps15;go_upto_region 1 with (fail)
 go_cut [1,2] from 10 to 13 (fun p q wx=>∃ gn b1 b2 Al Ah,p = .pointer (some ⟨b1,0,none⟩)∧q = .pointer (some ⟨b2,0,none⟩)∧Smw w b1 b2 gn Al Ah wx)
 case first =>
  go_wp2_with (go_at_call 41;(with_reducible refine HSA.out.mono ?_);rintro e w1 ⟨gn,Al,Ah,rfl,hnt,hrl,hrh,hb1⟩)
  all_goals
   go_meet;have ra:=zI w1 #[.int .i64 3,.slice (some ⟨gn,0,none⟩) 7 7] 24 w1.heap.size 2 rfl rfl;have rb:=zI (w1.alloc (.cells #[.int .i64 3,.slice (some ⟨gn,0,none⟩) 7 7] 24)) #[.slice (some ⟨Al,0,none⟩) 4 4,.slice (some ⟨Ah,0,none⟩) 4 4] 39 (w1.heap.size+1) 2 (by simp) rfl;have hb2:=((Below.refl w1.heap.size w1).alloc (zv _) (.cells #[.int .i64 3,.slice (some ⟨gn,0,none⟩) 7 7] 24)).alloc (by simp) (.cells #[.slice (some ⟨Al,0,none⟩) 4 4,.slice (some ⟨Ah,0,none⟩) 4 4] 39);exact ⟨gn,w1.heap.size,w1.heap.size+1,Al,Ah,rfl,rfl,ra.alloc _,rb,(hnt.below hb2).more hb2.size,(hrl.below hb2).more hb2.size,(hrh.below hb2).more hb2.size,zx hb1 hb2 hb1.size⟩
 case rest =>
 obtain ⟨gn,b1,b2,Al,Ah,rfl,rfl,hs⟩:=hcut;have A1:=zc hs;obtain ⟨s1,s2,s3,s4⟩:=hs.loads;clear hs;go_upto_region 2 with (fail)
 go_cut [3,4] from 14 to 19 (fun p q wx=>∃ b3,p = .pointer (some ⟨b3,0,none⟩)∧q = .int .i64 0∧wx.rowIs b3 33 2 (qo 8 3)∧Smw w b1 b2 gn Al Ah wx)
 case first =>
  go_wp2_with (go_at_call 16;(with_reducible refine (A1.out.total HT.out).mono ?_);rintro e w2 ⟨rfl,hb2⟩)
  all_goals
   go_meet;exact ⟨w2.heap.size,rfl,rfl,(zI w2 _ _ _ _ rfl rfl).congr (ye 8 3),(A1.out.below hb2).below ((zy _ _).alloc (zv _) _)⟩
 case rest =>
 obtain ⟨b3,rfl,rfl,r3,hs⟩:=hcut;have A2:=zc hs;have R3:=zc r3;obtain ⟨s1,s2,s3,s4⟩:=hs.loads;clear hs A1 r3;go_upto_region 3 with (fail)
 go_cut [5,6,7] from 20 to 26 (fun p q r wx=>∃ gl gh,p = .slice (some ⟨gl,0,none⟩) 4 4∧q = .slice (some ⟨gh,0,none⟩) 4 4∧r = .int .i64 0∧wx.rowIs b3 33 2 (qo 8 3)∧wx.rowIs gl 33 ((3+1)*2) (zB [(0,0),(2,3),(1,1),(1,6)])∧wx.rowIs gh 33 ((3+1)*2) (zB [(0,0),(2,1),(5,3),(5,2)])∧Smw w b1 b2 gn Al Ah wx)
 case first =>
  go_wp2_with (go_at_call 21;(with_reducible refine (A2.out.bylit HT.out).mono ?_);rintro e w3 ⟨gl,gh,rfl,rl,rh,hb3⟩)
  all_goals
   go_meet;exact ⟨gl,gh,rfl,rfl,rfl,zh R3.out hb3,rl,rh,A2.out.below hb3⟩
 case rest =>
 obtain ⟨gl,gh,rfl,rfl,rfl,r3,rl,rh,hs⟩:=hcut;have ra:=zI wc #[.int .i64 1,.int .i64 (-2)] 3 wc.heap.size 2 rfl rfl;have A3:=zc (hs.below ((zy _ _).alloc (zv _) (.cells #[.int .i64 1,.int .i64 (-2)] 3)));have hsh:Calls Tryz.prog 23 #[.agg #[.int .i64 3,.slice (some ⟨gn,0,none⟩) 7 7],.agg #[.slice (some ⟨Al,0,none⟩) 4 4,.slice (some ⟨Ah,0,none⟩) 4 4],.slice (some ⟨wc.heap.size,0,none⟩) 2 2] (wc.alloc (.cells #[.int .i64 1,.int .i64 (-2)] 3)) fun e w'=>e = .returned (.tuple #[zD 3 8,.int .i64 0])∧Below (wc.alloc (.cells #[.int .i64 1,.int .i64 (-2)] 3)).heap.size (wc.alloc (.cells #[.int .i64 1,.int .i64 (-2)] 3)) w':=A3.out.share HT.out [1,-2] (some ⟨wc.heap.size,0,none⟩) 2 (Rd.of_row (int2 ra) (zv _) ra.lt) (by decide) (by decide) (3,8) 0 (by decide +kernel);have HSH:=zc hsh;have B3:=zc ((Below.refl wc.heap.size wc).alloc (zv _) (.cells #[.int .i64 1,.int .i64 (-2)] 3));have A3b:=zc hs.bl;have R3:=zc r3;have RL:=zc rl;have RH:=zc rh;obtain ⟨s1,s2,s3,s4⟩:=hs.loads;clear hs A2 r3 rl rh ra hsh;go_upto_region 4 with (fail)
 go_cut [8,9] from 27 to 33 (fun p q wx=>∃ b8,p = .pointer (some ⟨b8,0,none⟩)∧q = .int .i64 0∧wx.rowIs b8 33 2 (qo 3 8)∧Below wc.heap.size wc wx)
 case first =>
  go_wp2_with (go_at_call 23;(with_reducible refine HSH.out.mono ?_);rintro e w4 ⟨rfl,hb4⟩)
  all_goals
   go_meet;exact ⟨w4.heap.size,rfl,rfl,(zI w4 _ _ _ _ rfl rfl).congr (ye 3 8),(zx B3.out hb4 B3.out.size).alloc (Nat.le_trans B3.out.size hb4.size) _⟩
 case rest =>
 obtain ⟨b8,rfl,rfl,r8,hb8⟩:=hcut;obtain ⟨x1,x2⟩:=zN (zh R3.out hb8);have rl:=zh RL.out hb8;have rh:=zh RH.out hb8;have HBL:=zc (zx A3b.out hb8 A3b.out.size);have R8:=zc r8;have RL:=zc rl;have RH:=zc rh;clear A3 B3 HSH s1 s2 s3 s4 rl rh r8 hb8 R3;have q1:=zc fun W=>zbZ W 8 3 (by decide +kernel) (by decide +kernel);have q2:=zc fun W=>zbZ W 2 3 (by decide +kernel) (by decide +kernel);have q3:=zc fun W=>zbZ W 5 3 (by decide +kernel) (by decide +kernel);have q4:=zc fun W=>zbZ W 5 2 (by decide +kernel) (by decide +kernel);have q5:=zc fun W=>zbZ W 3 8 (by decide +kernel) (by decide +kernel);rw [show ptext 8 3=⟨#[56,47,51]⟩ by decide +kernel] at q1;rw [show ptext 2 3=⟨#[50,47,51]⟩ by decide +kernel] at q2;rw [show ptext 5 3=⟨#[53,47,51]⟩ by decide +kernel] at q3;rw [show ptext 5 2=⟨#[53,47,50]⟩ by decide +kernel] at q4;rw [show ptext 3 8=⟨#[51,47,56]⟩ by decide +kernel] at q5;go_wp2_with (first
  | (go_at_call 28;(with_reducible refine (q1.out _).mono ?_);rintro e y1 ⟨rfl,hb1⟩
     have l1:y1.cell? ⟨gl,2,none⟩=some (.string (zb 2)):=(zh RL.out hb1).cell (i:=2) (by decide);have l2:y1.cell? ⟨gl,3,none⟩=some (.string (zb 3)):=(zh RL.out hb1).cell (i:=3) (by decide);have B1:=zc hb1;clear hb1 x1 x2)
  | (go_at_call 28;(with_reducible refine (q2.out _).mono ?_);rintro e y2 ⟨rfl,hb2⟩
     have B2:=zc (zx B1.out hb2 B1.out.size);have m1:y2.cell? ⟨gh,4,none⟩=some (.string (zb 5)):=(zh RH.out B2.out).cell (i:=4) (by decide);have m2:y2.cell? ⟨gh,5,none⟩=some (.string (zb 3)):=(zh RH.out B2.out).cell (i:=5) (by decide);clear hb2 l1 l2 B1)
  | (go_at_call 28;(with_reducible refine (q3.out _).mono ?_);rintro e y3 ⟨rfl,hb3⟩
     have B3:=zc (zx B2.out hb3 B2.out.size);have n1:y3.cell? ⟨gh,6,none⟩=some (.string (zb 5)):=(zh RH.out B3.out).cell (i:=6) (by decide);have n2:y3.cell? ⟨gh,7,none⟩=some (.string (zb 2)):=(zh RH.out B3.out).cell (i:=7) (by decide);clear hb3 m1 m2 B2)
  | (go_at_call 28;(with_reducible refine (q4.out _).mono ?_);rintro e y4 ⟨rfl,hb4⟩
     have B4:=zc (zx B3.out hb4 B3.out.size);obtain ⟨z1,z2⟩:=zN (zh R8.out B4.out);clear hb4 n1 n2 B3)
  | (go_at_call 28;(with_reducible refine (q5.out _).mono ?_);rintro e y5 ⟨rfl,hb5⟩
     have B5:=zc (zx B4.out hb5 B4.out.size);clear hb5 z1 z2 B4))
 all_goals
  go_ret;exact ⟨rfl,zx HBL.out B5.out HBL.out.size⟩
end Go.Proofs.YtmhllppjcilllaaGreatDoor
end
section
open Go Go.RowKit Cs
namespace Go
section
variable {P:Program} {ops:Array Oper} {Q:Exit→Act→World→Prop} {md:Region.Mode}
def StepO (P:Program) (ops:Array Oper) (Iv:World→Prop) (Rl:Nat→List Value→Value→World→World→Prop) (a:Act) (Px:Nat→List Value→Value→World→Prop) (dp:Nat→List Nat) (i:Nat):Prop :=
 ∀ o,ops[i]?=some o→∀ (vs:Nat→Value) (w:World),Iv w→(∀ j∈dp i,Px j ((dp j).map vs) (vs j) w) →
  ∀ K:Act→World→Prop,Shut (∀ v w',Px i ((dp i).map vs) v w'→Rl i ((dp i).map vs) v w w'→K (Act.put ⟨zK ops vs a.tmps (dp i),a.defers⟩ o.dst v) w') →
   if Region.wanted o (yielded ops (Act.mk (zK ops vs a.tmps (dp i)) a.defers).tmps)=true then Oper.wp P o ⟨zK ops vs a.tmps (dp i),a.defers⟩ w K (fun _ _ _=>False) else K (Act.put ⟨zK ops vs a.tmps (dp i),a.defers⟩ o.dst undef) w
theorem StepO.wpOp {Iv:World→Prop} {Rl:Nat→List Value→Value→World→World→Prop} {a0:Act} {Px:Nat→List Value→Value→World→Prop} {dp:Nat→List Nat} {i:Nat} {o:Oper} (h:StepO P ops Iv Rl a0 Px dp i) (ho:ops[i]?=some o) (hsel:∀ cs b,o.op≠.select cs b)
  {vs:Nat→Value} {w:World} {l:List Nat} (hb:Iv w) (hd:∀ j∈dp i,Px j ((dp j).map vs) (vs j) w)
  (hl:∀ s∈o.looksAt ops,(zK ops vs a0.tmps l)[s]?=(zK ops vs a0.tmps (dp i))[s]?) {K:Act→World→Prop}
  (hK:∀ v w',Px i ((dp i).map vs) v w'→Rl i ((dp i).map vs) v w w'→K (Act.put ⟨zK ops vs a0.tmps l,a0.defers⟩ o.dst v) w') :
  Go.wpOp P ops Q i K ⟨zK ops vs a0.tmps l,a0.defers⟩ w:=by
 obtain ⟨B,hB⟩:∃ B:Act,B=⟨zK ops vs a0.tmps (dp i),a0.defers⟩:=⟨_,rfl⟩;obtain ⟨C,hC⟩:∃ C:Act,C=⟨zK ops vs a0.tmps l,a0.defers⟩:=⟨_,rfl⟩;have hsz:C.tmps.size=B.tmps.size:=by rw [hB,hC];show (zK ..).size=(zK ..).size;rw [zbr,zbr]
 have hdf:C.defers=B.defers:=by rw [hB,hC]
 have hl':∀ s∈o.looksAt ops,C.tmps[s]?=B.tmps[s]?:=by rw [hB,hC];exact hl
 have hk:∀ u w' v,B.put o.dst u=B.put o.dst v→Px i ((dp i).map vs) v w'→Rl i ((dp i).map vs) v w w'→K (C.put o.dst u) w':=fun u w' v e h1 h2=>by
  rw [zgs hsz e,hC];exact hK v w' h1 h2
 have hstep:=h o ho vs w hb hd (fun a' w'=>∃ v,a'=B.put o.dst v∧Px i ((dp i).map vs) v w'∧Rl i ((dp i).map vs) v w w')
  (fun v w' h1 h2=>⟨v,by rw [hB],h1,h2⟩)
 rw [← hB] at hstep;rw [← hC];clear hK hl;unfold Go.wpOp;rw [ho];simp only [];rw [zch o C.tmps B.tmps hl'];split
 ·rename_i hw;rw [if_pos hw] at hstep;refine .inl ?_;unfold Oper.wp at *
  rw [zdc o hsel C B hl'];generalize (execOp B.eval o).run P w=r at *
  cases r with
  | ok n w' =>
    cases n <;> simp only [Oper.upon] at hstep ⊢
    case value u=>obtain ⟨v,e,h1,h2⟩:=hstep;exact hk u w' v e h1 h2
    case skip=>obtain ⟨v,e,h1,h2⟩:=hstep;exact hk _ w' v e h1 h2
    case defer d =>
     obtain ⟨v,e,_⟩:=hstep
     exfalso
     have:(Act.put { B with defers:=d::B.defers } o.dst undef).defers=(B.put o.dst v).defers:=by rw [e]
     have e1:∀ (x:Act) (d:Option Tmp) (v:Value),(x.put d v).defers=x.defers:=fun x d v=>by cases d <;> rfl
     rw [e1,e1] at this;exact absurd this (List.cons_ne_self _ _)
    case enter f args =>
     refine Calls.mono hstep fun e w'' he=>?_;cases e with
     | returned u=>obtain ⟨v,e,h1,h2⟩:=he;exact hk u w'' v e h1 h2
     | panicked c=>exact he.elim
     | outgrown=>obtain ⟨_,_,h⟩:=he;exact h.elim
    case row row args=>exact Rows.mono hstep fun u w'' he=>by obtain ⟨v,e,h1,h2⟩:=he;exact hk u w'' v e h1 h2
    all_goals exact hstep
  | halt x w' =>
    cases x <;> simp only [Oper.upon] at hstep
 ·rename_i hw;rw [if_neg hw] at hstep;obtain ⟨v,e,h1,h2⟩:=hstep;exact hk _ w v e h1 h2
theorem StepO.intro {Iv:World→Prop} {Rl:Nat→List Value→Value→World→World→Prop} {a:Act} {Px:Nat→List Value→Value→World→Prop} {dp:Nat→List Nat} {i:Nat} {o:Oper} (ho:ops[i]?=some o) (DS:List (Nat×Option Tmp)) (hds:(dp i).map (fun j=>(j,zX ops j))=DS)
  (h:∀ (vs:Nat→Value) (w:World),Iv w→(∀ j∈dp i,Px j ((dp j).map vs) (vs j) w) →
    ∀ K:Act→World→Prop,Shut (∀ v w',Px i ((dp i).map vs) v w'→Rl i ((dp i).map vs) v w w'→K (Act.put ⟨zu vs a.tmps DS,a.defers⟩ o.dst v) w') →
     if Region.wanted o (yielded ops (Act.mk (zu vs a.tmps DS) a.defers).tmps)=true then Oper.wp P o ⟨zu vs a.tmps DS,a.defers⟩ w K (fun _ _ _=>False) else K (Act.put ⟨zu vs a.tmps DS,a.defers⟩ o.dst undef) w):StepO P ops Iv Rl a Px dp i:=by
 intro o' ho' vs w hb hd K hK;rw [ho] at ho';cases ho';have:=h vs w hb hd K;rw [← hds,← zcE] at this;exact this hK
def RlO (al:Nat→Bool) (kl:Nat→Option Nat) (j:Nat) (dv:List Value) (v:Value) (w w':World):Prop :=
 (kl j=none→Below w.heap.size w w'∧(al j=true→∀ b,zW v=some b→w.heap.size≤b∧b<w'.heap.size)) ∧
 (kl j≠none→w.grownBy w' (zW (dv.headD undef))∧∀ b,zW v=some b→(w.heap.size≤b∨zW (dv.headD undef)=some b)∧b<w'.heap.size)
def pP (kl:Nat→Option Nat) (l:List Nat) (i:Nat):Prop:=∀ j∈l,kl j≠some i
structure KillOk (md:Region.Mode) (ops:Array Oper) (A:List Nat) (dp:Nat→List Nat) (al:Nat→Bool) (kl:Nat→Option Nat):Prop where
 head:∀ j∈A,∀ d,kl j=some d→(dp j).head?=some d∧al d=true∧al j=true
 dep:∀ j∈A,∀ d∈dp j,∀ k∈A,kl k=some d→k=j∨(Region.coverOf md ops k).getD j false=true
structure jM (V:World) (Px:Nat→List Value→Value→World→Prop) (al:Nat→Bool) (kl:Nat→Option Nat) (dp:Nat→List Nat) (l:List Nat) (vs:Nat→Value) (w:World):Prop where
 bl:Below V.heap.size V w
 px:∀ i∈l,pP kl l i→Px i ((dp i).map vs) (vs i) w
 bk:∀ i∈l,al i=true→pP kl l i→∀ b,zW (vs i)=some b→V.heap.size≤b∧b<w.heap.size
 dis:∀ i∈l,∀ j∈l,i≠j→al i=true→al j=true→pP kl l i→pP kl l j→∀ b,zW (vs i)=some b→zW (vs j)≠some b
theorem zdz {V:World} {Px:Nat→List Value→Value→World→Prop} {al:Nat→Bool} {kl:Nat→Option Nat} {dp:Nat→List Nat} {L1 ex:List Nat} {a0:Act}
  (hok:Region.PropsOk md ops L1 (L1++ex) dp a0.tmps.size)
  (hfin:∀ bs:List Bool,bs.length=ex.length→∀ (vs:Nat→Value) (w:World),jM V Px al kl dp (L1++zS ex bs) vs w →
    ∀ fuel,qy (zU ops.size (L1++zS ex bs)) ops.size≤fuel→wpAny P md ops Q fuel (zU ops.size (L1++zS ex bs)) ⟨zK ops vs a0.tmps (L1++zS ex bs),a0.defers⟩ w)
  {fuel:Nat} {listed:Array Bool} {l:List Nat} {vs:Nat→Value} {w:World} (hz:listed.size=ops.size) (hu:qy listed ops.size≤fuel) (hl:∀ i,i∈l↔listed.getD i false=true) (hA:∀ i∈l,i∈L1++ex)
  (hI:jM V Px al kl dp l vs w)
  (hall:∀ i∈L1,listed.getD i false=true):wpAny P md ops Q fuel listed ⟨zK ops vs a0.tmps l,a0.defers⟩ w:=by
 have hmem:∀ i,i∈L1++zS ex (ex.map fun i=>listed.getD i false)↔i∈l:=fun i=>by
  rw [zdA,List.mem_append,List.mem_filter,hl i];constructor
  ·rintro (h | h)
   ·exact hall i h
   ·exact h.2
  ·intro h;rcases List.mem_append.1 (hA i ((hl i).2 h)) with h' | h'
   ·exact .inl h'
   ·exact .inr ⟨h',h⟩
 have hli:zU ops.size (L1++zS ex (ex.map fun i=>listed.getD i false))=listed:=by
  refine Array.ext (by simp [zU,hz]) fun i h1 h2=>?_;have e1:(zU ops.size (L1++zS ex (ex.map fun i=>listed.getD i false)))[i]=(L1++zS ex (ex.map fun i=>listed.getD i false)).contains i:=by simp [zU]
  rw [e1];have e2:listed.getD i false=listed[i]:=by simp [h2]
  rw [← e2];cases hc:listed.getD i false with
  | true=>rw [List.contains_iff_mem];exact (hmem i).2 ((hl i).2 hc)
  | false =>
    refine Bool.eq_false_iff.2 fun h=>?_;rw [List.contains_iff_mem] at h;rw [(hl i).1 ((hmem i).1 h)] at hc;cases hc
 have hact:zK ops vs a0.tmps (L1++zS ex (ex.map fun i=>listed.getD i false))=zK ops vs a0.tmps l:=by
  refine Array.ext_getElem? fun s=>?_;by_cases hex:∃ j,j∈l∧zX ops j=some s
  ·obtain ⟨j,hj,hjs⟩:=hex;have hsz:=hok.dst j (hA j hj) s hjs;rw [yJ vs s j hjs l _ hj (fun m hm e=>hok.uniq m (hA m hm) j (hA j hj) s e hjs) hsz,yJ vs s j hjs _ _ ((hmem j).2 hj) (fun m hm e=>hok.uniq m (hA m ((hmem m).1 hm)) j (hA j hj) s e hjs) hsz]
  ·rw [yL vs s l _ fun j hj e=>hex ⟨j,hj,e⟩,yL vs s _ _ fun j hj e=>hex ⟨j,(hmem j).1 hj,e⟩]
 have hI2:jM V Px al kl dp (L1++zS ex (ex.map fun i=>listed.getD i false)) vs w:=by
  have ha:∀ i,pP kl (L1++zS ex (ex.map fun i=>listed.getD i false)) i→pP kl l i:=fun i h j hj=>h j ((hmem j).2 hj);exact ⟨hI.bl,fun i hi h=>hI.px i ((hmem i).1 hi) (ha i h),fun i hi h1 h=>hI.bk i ((hmem i).1 hi) h1 (ha i h),fun i hi j hj hne h1 h2 h3 h4=>hI.dis i ((hmem i).1 hi) j ((hmem j).1 hj) hne h1 h2 (ha i h3) (ha j h4)⟩
 have h:=hfin (ex.map fun i=>listed.getD i false) (by simp) vs w hI2 fuel (by rw [hli];exact hu);rw [hli,hact] at h;exact h
theorem o5 {V:World} {Px:Nat→List Value→Value→World→Prop} {al:Nat→Bool} {kl:Nat→Option Nat} {dp:Nat→List Nat} {L1 ex:List Nat} {a0:Act}
  (hok:Region.PropsOk md ops L1 (L1++ex) dp a0.tmps.size) (hkill:KillOk md ops (L1++ex) dp al kl)
  (hfree:∀ i,al i=false→∀ l v w w',Px i l v w→Px i l v w') (hloc:∀ i,al i=true→∀ l v (w w':World),Px i l v w→w.heap.size≤w'.heap.size→(∀ b,zW v=some b→w'.heap[b]?=w.heap[b]?)→Px i l v w')
  (hstep:∀ i∈L1++ex,StepO P ops (fun w=>Below V.heap.size V w) (RlO al kl) a0 Px dp i)
  (hfin:∀ bs:List Bool,bs.length=ex.length→∀ (vs:Nat→Value) (w:World),jM V Px al kl dp (L1++zS ex bs) vs w →
    ∀ fuel,qy (zU ops.size (L1++zS ex bs)) ops.size≤fuel→wpAny P md ops Q fuel (zU ops.size (L1++zS ex bs)) ⟨zK ops vs a0.tmps (L1++zS ex bs),a0.defers⟩ w) :
  ∀ (fuel:Nat) (listed:Array Bool) (l:List Nat) (vs:Nat→Value) (w:World),listed.size=ops.size→Region.shutL md ops listed→qy listed ops.size≤fuel→(∀ i,i∈l↔listed.getD i false=true)→(∀ i∈l,i∈L1++ex) →
   jM V Px al kl dp l vs w→wpAny P md ops Q fuel listed ⟨zK ops vs a0.tmps l,a0.defers⟩ w:=by
 intro fuel
 induction fuel with
 | zero =>
   intro listed l vs w hz hcl hu hl hA hI;exact zdz hok hfin hz hu hl hA hI fun i hi=>zeq _ (by omega) i (hok.lt i (List.mem_append_left _ hi))
 | succ fuel ih =>
   intro listed l vs w hz hcl hu hl hA hI;by_cases hall:∀ i∈L1,listed.getD i false=true
   ·exact zdz hok hfin hz hu hl hA hI hall
   ·have hall':∃ i,i∈L1∧listed.getD i false=false:=by
     refine Classical.byContradiction fun hne=>hall fun i hi=>?_;cases hc:listed.getD i false with
     | true=>rfl
     | false=>exact absurd ⟨i,hi,hc⟩ hne
    obtain ⟨k,hk,hkf⟩:=hall';have hkn:=hok.lt k (List.mem_append_left _ hk);refine ⟨fun hr=>absurd hr (zgn hz hok.back hkn hkf),fun i hi=>?_⟩;have hi':=hi;obtain ⟨hun,o,ho,hafter⟩:=mem_ready.1 hi;have hin:i<ops.size:=(Array.getElem?_eq_some_iff.1 ho).1;have hunf:listed.getD i false=false:=by
     have:i<listed.size:=by omega
     simp [this] at hun ⊢;exact hun
    have hiA:i∈L1++ex:=by
     refine Classical.byContradiction fun hne=>?_;have:=Region.coverOf_spec hcl hi (hok.last i hin hne k hk);rw [this] at hkf;cases hkf
    have hdl:∀ j∈dp i,j∈l:=fun j hj=>(hl j).2 (Region.coverOf_spec hcl hi (hok.dep i hiA j hj).1);have hil:i ∉ l:=fun h=>by rw [(hl i).1 h] at hunf;cases hunf
    have hali:∀ j∈dp i,pP kl l j:=fun j hj k hk he=>by
     rcases hkill.dep i hiA j hj k (hA k hk) he with e | e
     ·exact hil (e▸hk)
     ·exact hil ((hl i).2 (Region.coverOf_in hcl ((hl k).1 hk) e))
    refine (hstep i hiA).wpOp ho (Region.noSelect_spec hok.sel i o · · ho) hI.bl (fun j hj=>hI.px j (hdl j hj) (hali j hj)) (fun s hs=>?_) fun v w' h1 h2=>?_
    ·by_cases hex:∃ j,j∈l∧zX ops j=some s
     ·obtain ⟨j,hj,hjs⟩:=hex;have hjA:=hA j hj;have hjd:=hok.looks i hiA o ho s hs j hjA hjs;have hsz:=hok.dst j hjA s hjs;rw [yJ vs s j hjs l _ hj (fun m hm e=>hok.uniq m (hA m hm) j hjA s e hjs) hsz,yJ vs s j hjs (dp i) _ hjd (fun m hm e=>hok.uniq m (hok.dep i hiA m hm).2 j hjA s e hjs) hsz]
     ·rw [yL vs s l _ fun j hj e=>hex ⟨j,hj,e⟩,yL vs s (dp i) _ fun j hj e=>hex ⟨j,hdl j hj,e⟩]
    ·obtain ⟨vs',hvs⟩:∃ vs':Nat→Value,vs'=fun j=>if j=i then v else vs j:=⟨_,rfl⟩
     have hsame:∀ j,j∈l→vs' j=vs j:=fun j hj=>by rw [hvs];simp only [];rw [if_neg fun e=>hil (by rw [← e];exact hj)]
     have hnew:vs' i=v:=by rw [hvs];simp
     have hmap:∀ m,(∀ j∈dp m,j∈l)→(dp m).map vs'=(dp m).map vs:=fun m hm=>List.map_congr_left fun j hj=>hsame j (hm j hj);have hdm:∀ j∈l,∀ m∈dp j,m∈l:=fun j hj m hm=>(hl m).2 (Region.coverOf_in hcl ((hl j).1 hj) (hok.dep j (hA j hj) m hm).1);have hact:=zd8 (a0:=a0) ho hok.uniq hok.dst hA hiA hsame hnew;rw [hact];refine ih (listed.setIfInBounds i true) (l++[i]) vs' w' (by simp [hz]) (Region.shutL_set hcl hi') ?_ ?_ ?_ ?_
     ·have:=(zeB (listed:=listed) (i:=i) ops.size).2 hin (by omega) hunf;omega
     ·intro j;rw [List.mem_append,List.mem_singleton,hl j];by_cases e:i=j
      ·subst e;have hlt:i<listed.size:=by omega
       simp [hlt]
      ·rw [getD_set_ne false e];exact ⟨fun h=>h.resolve_right (fun e'=>e e'.symm),.inl⟩
     ·intro j hj;rcases List.mem_append.1 hj with hj | hj
      ·exact hA j hj
      ·simp at hj;subst hj;exact hiA
     ·have hold:∀ j,j∈l→pP kl (l++[i]) j→pP kl l j:=fun j _ h m hm=>h m (List.mem_append_left _ hm);have hnk:∀ j,pP kl (l++[i]) j→kl i≠some j:=fun j h=>h i (by simp);have hstay:∀ j∈l,pP kl (l++[i]) j→al j=true→∀ b,zW (vs j)=some b→w'.heap[b]?=w.heap[b]?∧(∀ b',zW v=some b'→al i=true→b≠b'):=by
       intro j hj hal haj b hb;have hbw:=hI.bk j hj haj (hold j hj hal) b hb;cases hk:kl i with
       | none =>
         obtain ⟨g,g2⟩:=h2.1 hk;exact ⟨g.block b hbw.2,fun b' hb' ha=>by have:=(g2 ha b' hb').1;omega⟩
       | some d =>
         obtain ⟨g,g2⟩:=h2.2 (by rw [hk];simp);obtain ⟨hd1,hd2,_⟩:=hkill.head i hiA d hk;have hdd:d∈dp i:=List.mem_of_mem_head? hd1;have hhead:((dp i).map vs).headD undef=vs d:=by
          cases hq:dp i with
          | nil=>rw [hq] at hd1;cases hd1
          | cons x xs=>rw [hq] at hd1;simp at hd1;subst hd1;rfl
         rw [hhead] at g g2;have hjd:j≠d:=fun e=>hnk j hal (by rw [hk,e]);have hne:=hI.dis j hj d (hdl d hdd) hjd haj hd2 (hold j hj hal) (hali d hdd) b hb;refine ⟨g.block b hbw.2 (fun e=>hne e.symm),fun b' hb' _ e=>?_⟩;subst e;rcases (g2 b hb').1 with h | h
         ·omega
         ·exact hne h
      have hsz:w.heap.size≤w'.heap.size:=by
       cases hk:kl i with
       | none=>exact (h2.1 hk).1.size
       | some d=>exact (h2.2 (by rw [hk];simp)).1.size
      have hnewb:al i=true→∀ b,zW v=some b→V.heap.size≤b∧b<w'.heap.size:=by
       intro ha b hb;cases hk:kl i with
       | none=>exact ⟨Nat.le_trans hI.bl.size ((h2.1 hk).2 ha b hb).1,((h2.1 hk).2 ha b hb).2⟩
       | some d =>
         obtain ⟨g,g2⟩:=h2.2 (by rw [hk];simp);obtain ⟨hd1,hd2,_⟩:=hkill.head i hiA d hk;have hdd:d∈dp i:=List.mem_of_mem_head? hd1;have hhead:((dp i).map vs).headD undef=vs d:=by
          cases hq:dp i with
          | nil=>rw [hq] at hd1;cases hd1
          | cons x xs=>rw [hq] at hd1;simp at hd1;subst hd1;rfl
         rw [hhead] at g2;refine ⟨?_,(g2 b hb).2⟩;rcases (g2 b hb).1 with h | h
         ·exact Nat.le_trans hI.bl.size h
         ·exact (hI.bk d (hdl d hdd) hd2 (hali d hdd) b h).1
      have hbl':Below V.heap.size V w':=by
       cases hk:kl i with
       | none=>exact hI.bl.trans ((h2.1 hk).1.mono hI.bl.size)
       | some d =>
         obtain ⟨g,g2⟩:=h2.2 (by rw [hk];simp);obtain ⟨hd1,hd2,_⟩:=hkill.head i hiA d hk;have hdd:d∈dp i:=List.mem_of_mem_head? hd1;have hhead:((dp i).map vs).headD undef=vs d:=by
          cases hq:dp i with
          | nil=>rw [hq] at hd1;cases hd1
          | cons x xs=>rw [hq] at hd1;simp at hd1;subst hd1;rfl
         rw [hhead] at g;exact hI.bl.grown g hI.bl.size fun b hb=>(hI.bk d (hdl d hdd) hd2 (hali d hdd) b hb).1
      refine ⟨hbl',?_,?_,?_⟩
      ·intro j hj hal;rcases List.mem_append.1 hj with hj | hj
       ·rw [hmap j (hdm j hj),hsame j hj];have hp:=hI.px j hj (hold j hj hal);cases haj:al j with
        | false=>exact hfree j haj _ _ w w' hp
        | true=>exact hloc j haj _ _ w w' hp hsz fun b hb=>(hstay j hj hal haj b hb).1
       ·simp at hj;subst hj;rw [hmap j hdl,hnew];exact h1
      ·intro j hj haj hal b hb;rcases List.mem_append.1 hj with hj | hj
       ·rw [hsame j hj] at hb;have:=hI.bk j hj haj (hold j hj hal) b hb;exact ⟨this.1,by omega⟩
       ·simp at hj;subst hj;rw [hnew] at hb;exact hnewb haj b hb
      ·intro j hj m hm hne haj ham hal1 hal2 b hb1 hb2;rcases List.mem_append.1 hj with hj' | hj' <;> rcases List.mem_append.1 hm with hm' | hm'
       ·rw [hsame j hj'] at hb1;rw [hsame m hm'] at hb2;exact hI.dis j hj' m hm' hne haj ham (hold j hj' hal1) (hold m hm' hal2) b hb1 hb2
       ·simp at hm';subst hm';rw [hsame j hj'] at hb1;rw [hnew] at hb2;exact (hstay j hj' hal1 haj b hb1).2 b hb2 ham rfl
       ·simp at hj';subst hj';rw [hsame m hm'] at hb2;rw [hnew] at hb1;exact (hstay m hm' hal2 ham b hb2).2 b hb1 haj rfl
       ·simp at hj' hm';subst hj' hm';exact absurd rfl hne
def killB (md:Region.Mode) (ops:Array Oper) (A:List Nat) (dp:Nat→List Nat) (AL:List Nat) (KL:List (Nat×Nat)):Bool :=
 (A.all fun j=>match KL.lookup j with | some d=>(dp j).head?==some d&&AL.contains d&&AL.contains j | none=>true) &&
 (A.all fun j=>(dp j).all fun d=>A.all fun k=>KL.lookup k != some d||k==j||(Region.coverOf md ops k).getD j false)
theorem zkt {A:List Nat} {dp:Nat→List Nat} {AL:List Nat} {KL:List (Nat×Nat)} (h:killB md ops A dp AL KL=true):KillOk md ops A dp (fun i=>AL.contains i) (fun j=>KL.lookup j):=by
 unfold killB at h;simp only [Bool.and_eq_true,List.all_eq_true] at h;obtain ⟨h1,h2⟩:=h;refine ⟨fun j hj d hd=>?_,fun j hj d hd k hk he=>?_⟩
 ·have:=h1 j hj;rw [show KL.lookup j=some d from hd] at this;simp only [Bool.and_eq_true,beq_iff_eq] at this;exact ⟨this.1.1,this.1.2,this.2⟩
 ·have:=h2 j hj d hd k hk;rw [show KL.lookup k=some d from he] at this;simpa using this
def FinO (P:Program) (ops:Array Oper) (Q:Exit→Act→World→Prop) (V:World) (a:Act) (Px:Nat→List Value→Value→World→Prop) (al:Nat→Bool) (kl:Nat→Option Nat) (dp:Nat→List Nat) (L:List Nat):Prop :=
 ∀ (vs:Nat→Value) (w:World),jM V Px al kl dp L vs w→∀ fuel,qy (zU ops.size L) ops.size≤fuel→wpAny P .any ops Q fuel (zU ops.size L) ⟨zK ops vs a.tmps L,a.defers⟩ w
theorem FinO.intro {V:World} {a:Act} {Px:Nat→List Value→Value→World→Prop} {al:Nat→Bool} {kl:Nat→Option Nat} {dp:Nat→List Nat} {L:List Nat} (DS:List (Nat×Option Tmp)) (ARR:Array Bool) (m:Nat)
  (hds:L.map (fun j=>(j,zX ops j))=DS) (harr:zU ops.size L=ARR) (hun:qy ARR ops.size=m)
  (h:∀ (vs:Nat→Value) (w:World),jM V Px al kl dp L vs w→∀ k,wpAny P .any ops Q (k+m) ARR ⟨zu vs a.tmps DS,a.defers⟩ w):FinO P ops Q V a Px al kl dp L:=by
 intro vs w h1 fuel hf;rw [harr,hun] at hf;have:=h vs w h1 (fuel-m);rw [show fuel-m+m=fuel by omega] at this;rw [harr,zcE,hds];exact this
theorem zga (PX:List (List Value→Value→World→Prop)) (AL:List Nat) (KL:List (Nat×Nat)) (DP:List (List Nat)) (L1 ex:List Nat) (n:Nat) {id:Nat} {a:Act} {w:World} (hm:P.follows .mixedOrders=true)
  (hn:a.tmps.size=n) (hok:Region.propsB .any ops L1 (L1++ex) (fun i=>DP.getD i []) n=true) (hk:killB .any ops (L1++ex) (fun i=>DP.getD i []) AL KL=true)
  (hfree:∀ i,AL.contains i=false→∀ l v w w',(PX.getD i fun _ _ _=>True) l v w→(PX.getD i fun _ _ _=>True) l v w')
  (hloc:∀ i,AL.contains i=true→∀ l v (w w':World),(PX.getD i fun _ _ _=>True) l v w→w.heap.size≤w'.heap.size→(∀ b,zW v=some b→w'.heap[b]?=w.heap[b]?)→(PX.getD i fun _ _ _=>True) l v w')
  (hstep:∀ i∈L1++ex,StepO P ops (fun u=>Below w.drew.heap.size w.drew u) (RlO (fun i=>AL.contains i) (fun j=>KL.lookup j)) a (fun i=>PX.getD i fun _ _ _=>True) (fun i=>DP.getD i []) i)
  (hfin:∀ bs:List Bool,bs.length=ex.length→FinO P ops Q w.drew a (fun i=>PX.getD i fun _ _ _=>True) (fun i=>AL.contains i) (fun j=>KL.lookup j) (fun i=>DP.getD i []) (L1++zS ex bs)):(Code.region id ops true).wp P Q a w:=by
 subst hn;refine wp_region_any hm ?_;have:=o5 (P:=P) (Q:=Q) (md:=.any) (Region.propsB_spec hok) (zkt hk) hfree hloc hstep hfin ops.size (Array.replicate ops.size false) [] (fun _=>undef) w.drew (by simp)
  (fun k o ho hk=>by simp [Array.getD_eq_getD_getElem?,Array.getElem?_replicate] at hk;split at hk <;> simp at hk) ?_ (fun i=>⟨fun h=>(by cases h),fun h=>by simp [Array.getD_eq_getD_getElem?,Array.getElem?_replicate] at h;split at h <;> simp at h⟩) (fun _ h=>by cases h) ⟨zy _ _,fun _ h=>(nomatch h),fun _ h=>(nomatch h),fun _ h=>(nomatch h)⟩
 ·exact this
 ·have:∀ (l:Array Bool) n,qy l n≤n:=fun l n=>by
   induction n with
   | zero=>exact zv _
   | succ n ih=>unfold qy;split <;> omega
  exact this _ _
end
end Go
end
