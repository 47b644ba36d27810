import Derived.Test.YtmhllppjcilllaaGreatDoorSm
import Derived.Test.YtmhllppjcilllaaGreatDoorZa
import Derived.Test.YtmhllppjcilllaaGreatDoorKp
import Derived.Test.YtmhllppjcilllaaGreatDoorEr
import Derived.Test.YtmhllppjcilllaaGreatDoorOw
set_option linter.unusedSimpArgs false
set_option linter.unusedVariables false
section
set_option maxRecDepth 100000
set_option maxHeartbeats 4000000
open Go Go.RowKit Cs
namespace Go.Proofs.YtmhllppjcilllaaGreatDoor
theorem zh2 (q:Rat) (p:Pr) (h0:0≤q) (h:pq q=p):Lp p:=h▸Lp.pq h0
theorem zeg (V m:Nat) (h:V<256) (hm:1≤m):n8 V≤m:=Nat.le_trans (zhx V 8 1 h (by decide)) hm
theorem few_in {n:Nat} {lo hi:List Pr} (h1:lo.length=n+1) (h2:hi.length=n+1) (h3:∀ p∈lo,Lp p∧p.1<256∧p.2<256) (h4:∀ p∈hi,Lp p∧p.1<256∧p.2<256):WtIn n lo hi:=by
 have key:∀ (L:List Pr),(∀ p∈L,Lp p∧p.1<256∧p.2<256)→∀ k,Lp (L.getD k (0,0))∧(L.getD k (0,0)).1<256∧(L.getD k (0,0)).2<256:=fun L h k=>by
  rw [List.getD_eq_getElem?_getD];by_cases hk:k<L.length
  ·rw [List.getElem?_eq_getElem hk];exact h _ (List.getElem_mem hk)
  ·rw [List.getElem?_eq_none (by omega)];exact ⟨Lp.zero,by decide,by decide⟩
 exact ⟨h1,h2,fun k=>(key lo h3 k).1,fun k=>(key hi h4 k).1,⟨zeg _ _ (key lo h3 0).2.1 (by decide),zeg _ _ (key lo h3 0).2.2 (by decide)⟩,⟨zeg _ _ (key hi h4 0).2.1 (by decide),zeg _ _ (key hi h4 0).2.2 (by decide)⟩,
  fun k=>⟨zeg _ _ (key lo h3 k).2.1 (by decide),zeg _ _ (key lo h3 k).2.2 (by decide)⟩,fun k=>⟨zeg _ _ (key hi h4 k).2.1 (by decide),zeg _ _ (key hi h4 k).2.2 (by decide)⟩⟩
theorem jz:WtIn 3 oN oM:=few_in rfl rfl
 (fun p hp=>by
   simp [oN] at hp;rcases hp with rfl | rfl | rfl | rfl
   ·exact ⟨zh2 0 _ (by decide +kernel) (by decide +kernel),by decide,by decide⟩
   ·exact ⟨zh2 (1 / 3) _ (by decide +kernel) (by decide +kernel),by decide,by decide⟩
   ·exact ⟨zh2 (1 / 2) _ (by decide +kernel) (by decide +kernel),by decide,by decide⟩
   ·exact ⟨zh2 1 _ (by decide +kernel) (by decide +kernel),by decide,by decide⟩)
 (fun p hp=>by
   simp [oM] at hp;rcases hp with rfl | rfl | rfl | rfl
   ·exact ⟨zh2 0 _ (by decide +kernel) (by decide +kernel),by decide,by decide⟩
   ·exact ⟨zh2 (2 / 3) _ (by decide +kernel) (by decide +kernel),by decide,by decide⟩
   ·exact ⟨zh2 (1 / 2) _ (by decide +kernel) (by decide +kernel),by decide,by decide⟩
   ·exact ⟨zh2 3 _ (by decide +kernel) (by decide +kernel),by decide,by decide⟩)
theorem smp_fit:yc smpN 3 oN oM=0:=by decide +kernel
theorem smp_sum:(RP 3 oN oM).sum smpN=(8,3):=by decide +kernel
theorem smp_low:yM smpN 3 oN oM 3=[(0,0),(2,3),(1,1),(1,6)]:=by decide +kernel
theorem smp_high:yw smpN 3 oN oM 3=[(0,0),(2,1),(5,3),(5,2)]:=by decide +kernel
theorem zhZ:∀ k (hk:k<smpN.l.length),smpN.l[k].ins.length≤1000000:=by decide +kernel
structure Smw (w:World) (b1 b2 gn Al Ah:Nat) (W:World):Prop where
 r1:W.rowIs b1 24 2 (zy #[.int .i64 3,.slice (some ⟨gn,0,none⟩) 7 7])
 r2:W.rowIs b2 39 2 (zy #[.slice (some ⟨Al,0,none⟩) 4 4,.slice (some ⟨Ah,0,none⟩) 4 4])
 nt:NtAt W W.heap.size (some ⟨gn,0,none⟩) smpN.l
 rl:Rd W W.heap.size (some ⟨Al,0,none⟩) ((3+1)*2) (zD oN)
 rh:Rd W W.heap.size (some ⟨Ah,0,none⟩) ((3+1)*2) (zD oM)
 bl:Below w.heap.size w W
section
variable {w W W':World} {b1 b2 gn Al Ah:Nat}
theorem Smw.below (h:Smw w b1 b2 gn Al Ah W) (hb:Below W.heap.size W W'):Smw w b1 b2 gn Al Ah W' :=
 ⟨zo h.r1 hb,zo h.r2 hb,(h.nt.below hb).more hb.size,(h.rl.below hb).more hb.size,(h.rh.below hb).more hb.size,zw h.bl hb h.bl.size⟩
theorem Smw.total (h:Smw w b1 b2 gn Al Ah W) (hT:Tab w):Calls Tryz.prog 16 #[.agg #[.int .i64 3,.slice (some ⟨gn,0,none⟩) 7 7],.agg #[.slice (some ⟨Al,0,none⟩) 4 4,.slice (some ⟨Ah,0,none⟩) 4 4]] W fun e w'=>e = .returned (.tuple #[zI 8 3,.int .i64 0])∧Below W.heap.size W w' :=
 xh W smpN (some ⟨gn,0,none⟩) 7 4 4 3 oN oM _ _ h.nt (by decide +kernel) rfl (hT.below h.bl) zhZ jz h.rl h.rh (by decide) (by decide) (8,3) 0 smp_fit.symm smp_sum.symm
theorem Smw.bylit (h:Smw w b1 b2 gn Al Ah W) (hT:Tab w):Calls Tryz.prog 21 #[.agg #[.int .i64 3,.slice (some ⟨gn,0,none⟩) 7 7],.agg #[.slice (some ⟨Al,0,none⟩) 4 4,.slice (some ⟨Ah,0,none⟩) 4 4]] W fun e w'=>∃ gl gh,e = .returned (.tuple #[.slice (some ⟨gl,0,none⟩) 4 4,.slice (some ⟨gh,0,none⟩) 4 4,.int .i64 0]) ∧
  w'.rowIs gl 33 ((3+1)*2) (zD [(0,0),(2,3),(1,1),(1,6)])∧w'.rowIs gh 33 ((3+1)*2) (zD [(0,0),(2,1),(5,3),(5,2)])∧Below W.heap.size W w':=by
 have:=zhF W smpN (some ⟨gn,0,none⟩) 7 4 4 3 oN oM _ _ h.nt (by decide +kernel) rfl (hT.below h.bl) zhZ jz h.rl h.rh (by decide) (by decide) smp_fit;rw [smp_low,smp_high] at this;refine this.mono ?_;rintro e w' ⟨gl,gh,h1,_,_,h2,h3,h4⟩;exact ⟨gl,gh,h1,h2,h3,h4⟩
theorem Smw.share (h:Smw w b1 b2 gn Al Ah W) (hT:Tab w) (t:List Int) (At:Option Addr) (ct:Nat) (ht:Rd W W.heap.size At t.length (zO t)) (htl:t.length≤1000000) (hr:∀ x∈t,-9223372036854775808≤x∧x≤9223372036854775807) (p:Pr) (E:Int) (he:yE smpN 3 oN oM t=(p,E)) :
  Calls Tryz.prog 23 #[.agg #[.int .i64 3,.slice (some ⟨gn,0,none⟩) 7 7],.agg #[.slice (some ⟨Al,0,none⟩) 4 4,.slice (some ⟨Ah,0,none⟩) 4 4],.slice At t.length ct] W fun e w'=>e = .returned (.tuple #[zI p.1 p.2,.int .i64 E])∧Below W.heap.size W w':=by
 have:=zhe W smpN (some ⟨gn,0,none⟩) 7 4 4 ct 3 oN oM t _ _ At h.nt (by decide +kernel) rfl (hT.below h.bl) zhZ jz h.rl h.rh (by decide) (by decide) ht htl hr;rw [he] at this;exact this
theorem Smw.loads (h:Smw w b1 b2 gn Al Ah W):W.cell? ⟨b1,0,none⟩=some (.int .i64 3)∧W.cell? ⟨b1,1,none⟩=some (.slice (some ⟨gn,0,none⟩) 7 7)∧W.cell? ⟨b2,0,none⟩=some (.slice (some ⟨Al,0,none⟩) 4 4)∧W.cell? ⟨b2,1,none⟩=some (.slice (some ⟨Ah,0,none⟩) 4 4) :=
 ⟨h.r1.cell (i:=0) (by decide),h.r1.cell (i:=1) (by decide),h.r2.cell (i:=0) (by decide),h.r2.cell (i:=1) (by decide)⟩
end
theorem int2 {w:World} {g:Nat} {t:TypeId} {a b:Int} (h:w.rowIs g t 2 (zy #[.int .i64 a,.int .i64 b])):w.rowIs g t 2 (zO [a,b]):=h.congr fun i hi=>by
 match i,hi with
 | 0,_=>rfl
 | 1,_=>rfl
theorem zd5 (w:World) (hT:Tab w):Calls Tryz.prog 15 #[] w fun e w'=>e = .returned (.bool true)∧Below w.heap.size w w':=by
 have HSA:=zb (zjZ w);have HT:Hid (Tab w):=zb hT;clear hT;go_enter Tryz.func15, Tryz.ntmps15;go_upto_region 1 with (fail)
 go_cut [1,2] from 10 to 13 (fun p q wx=>∃ gn b1 b2 Al Ah,p = .pointer (some ⟨b1,0,none⟩)∧q = .pointer (some ⟨b2,0,none⟩)∧Smw w b1 b2 gn Al Ah wx)
 case first =>
  go_wp2_with (go_at_call 41;(with_reducible refine HSA.out.mono ?_);rintro e w1 ⟨gn,Al,Ah,rfl,hnt,hrl,hrh,hb1⟩)
  all_goals
   go_meet;have ra:=zF w1 #[.int .i64 3,.slice (some ⟨gn,0,none⟩) 7 7] 24 w1.heap.size 2 rfl rfl;have rb:=zF (w1.alloc (.cells #[.int .i64 3,.slice (some ⟨gn,0,none⟩) 7 7] 24)) #[.slice (some ⟨Al,0,none⟩) 4 4,.slice (some ⟨Ah,0,none⟩) 4 4] 39 (w1.heap.size+1) 2 (by simp) rfl;have hb2:=((Below.refl w1.heap.size w1).alloc (zu _) (.cells #[.int .i64 3,.slice (some ⟨gn,0,none⟩) 7 7] 24)).alloc (by simp) (.cells #[.slice (some ⟨Al,0,none⟩) 4 4,.slice (some ⟨Ah,0,none⟩) 4 4] 39);exact ⟨gn,w1.heap.size,w1.heap.size+1,Al,Ah,rfl,rfl,ra.alloc _,rb,(hnt.below hb2).more hb2.size,(hrl.below hb2).more hb2.size,(hrh.below hb2).more hb2.size,zw hb1 hb2 hb1.size⟩
 case rest =>
 obtain ⟨gn,b1,b2,Al,Ah,rfl,rfl,hs⟩:=hcut;have A1:=zb hs;obtain ⟨s1,s2,s3,s4⟩:=hs.loads;clear hs;go_upto_region 2 with (fail)
 go_cut [3,4] from 14 to 19 (fun p q wx=>∃ b3,p = .pointer (some ⟨b3,0,none⟩)∧q = .int .i64 0∧wx.rowIs b3 33 2 (qI 8 3)∧Smw w b1 b2 gn Al Ah wx)
 case first =>
  go_wp2_with (go_at_call 16;(with_reducible refine (A1.out.total HT.out).mono ?_);rintro e w2 ⟨rfl,hb2⟩)
  all_goals
   go_meet;exact ⟨w2.heap.size,rfl,rfl,(zF w2 _ _ _ _ rfl rfl).congr (zbK 8 3),(A1.out.below hb2).below ((zx _ _).alloc (zu _) _)⟩
 case rest =>
 obtain ⟨b3,rfl,rfl,r3,hs⟩:=hcut;have A2:=zb hs;have R3:=zb r3;obtain ⟨s1,s2,s3,s4⟩:=hs.loads;clear hs A1 r3;go_upto_region 3 with (fail)
 go_cut [5,6,7] from 20 to 26 (fun p q r wx=>∃ gl gh,p = .slice (some ⟨gl,0,none⟩) 4 4∧q = .slice (some ⟨gh,0,none⟩) 4 4∧r = .int .i64 0∧wx.rowIs b3 33 2 (qI 8 3)∧wx.rowIs gl 33 ((3+1)*2) (zD [(0,0),(2,3),(1,1),(1,6)])∧wx.rowIs gh 33 ((3+1)*2) (zD [(0,0),(2,1),(5,3),(5,2)])∧Smw w b1 b2 gn Al Ah wx)
 case first =>
  go_wp2_with (go_at_call 21;(with_reducible refine (A2.out.bylit HT.out).mono ?_);rintro e w3 ⟨gl,gh,rfl,rl,rh,hb3⟩)
  all_goals
   go_meet;exact ⟨gl,gh,rfl,rfl,rfl,zo R3.out hb3,rl,rh,A2.out.below hb3⟩
 case rest =>
 obtain ⟨gl,gh,rfl,rfl,rfl,r3,rl,rh,hs⟩:=hcut;have ra:=zF wc #[.int .i64 1,.int .i64 (-2)] 3 wc.heap.size 2 rfl rfl;have A3:=zb (hs.below ((zx _ _).alloc (zu _) (.cells #[.int .i64 1,.int .i64 (-2)] 3)));have hsh:Calls Tryz.prog 23 #[.agg #[.int .i64 3,.slice (some ⟨gn,0,none⟩) 7 7],.agg #[.slice (some ⟨Al,0,none⟩) 4 4,.slice (some ⟨Ah,0,none⟩) 4 4],.slice (some ⟨wc.heap.size,0,none⟩) 2 2] (wc.alloc (.cells #[.int .i64 1,.int .i64 (-2)] 3)) fun e w'=>e = .returned (.tuple #[zI 3 8,.int .i64 0])∧Below (wc.alloc (.cells #[.int .i64 1,.int .i64 (-2)] 3)).heap.size (wc.alloc (.cells #[.int .i64 1,.int .i64 (-2)] 3)) w':=A3.out.share HT.out [1,-2] (some ⟨wc.heap.size,0,none⟩) 2 (Rd.of_row (int2 ra) (zu _) ra.lt) (by decide) (by decide) (3,8) 0 (by decide +kernel);have HSH:=zb hsh;have B3:=zb ((Below.refl wc.heap.size wc).alloc (zu _) (.cells #[.int .i64 1,.int .i64 (-2)] 3));have A3b:=zb hs.bl;have R3:=zb r3;have RL:=zb rl;have RH:=zb rh;obtain ⟨s1,s2,s3,s4⟩:=hs.loads;clear hs A2 r3 rl rh ra hsh;go_upto_region 4 with (fail)
 go_cut [8,9] from 27 to 33 (fun p q wx=>∃ b8,p = .pointer (some ⟨b8,0,none⟩)∧q = .int .i64 0∧wx.rowIs b8 33 2 (qI 3 8)∧Below wc.heap.size wc wx)
 case first =>
  go_wp2_with (go_at_call 23;(with_reducible refine HSH.out.mono ?_);rintro e w4 ⟨rfl,hb4⟩)
  all_goals
   go_meet;exact ⟨w4.heap.size,rfl,rfl,(zF w4 _ _ _ _ rfl rfl).congr (zbK 3 8),(zw B3.out hb4 B3.out.size).alloc (Nat.le_trans B3.out.size hb4.size) _⟩
 case rest =>
 obtain ⟨b8,rfl,rfl,r8,hb8⟩:=hcut;obtain ⟨x1,x2⟩:=qj (zo R3.out hb8);have rl:=zo RL.out hb8;have rh:=zo RH.out hb8;have HBL:=zb (zw A3b.out hb8 A3b.out.size);have R8:=zb r8;have RL:=zb rl;have RH:=zb rh;clear A3 B3 HSH s1 s2 s3 s4 rl rh r8 hb8 R3;have q1:=zb fun W=>zcw W 8 3 (by decide +kernel) (by decide +kernel);have q2:=zb fun W=>zcw W 2 3 (by decide +kernel) (by decide +kernel);have q3:=zb fun W=>zcw W 5 3 (by decide +kernel) (by decide +kernel);have q4:=zb fun W=>zcw W 5 2 (by decide +kernel) (by decide +kernel);have q5:=zb fun W=>zcw W 3 8 (by decide +kernel) (by decide +kernel);rw [show ptext 8 3=⟨#[56,47,51]⟩ by decide +kernel] at q1;rw [show ptext 2 3=⟨#[50,47,51]⟩ by decide +kernel] at q2;rw [show ptext 5 3=⟨#[53,47,51]⟩ by decide +kernel] at q3;rw [show ptext 5 2=⟨#[53,47,50]⟩ by decide +kernel] at q4;rw [show ptext 3 8=⟨#[51,47,56]⟩ by decide +kernel] at q5;go_wp2_with (first
  | (go_at_call 28;(with_reducible refine (q1.out _).mono ?_);rintro e y1 ⟨rfl,hb1⟩
     have l1:y1.cell? ⟨gl,2,none⟩=some (.string (za 2)):=(zo RL.out hb1).cell (i:=2) (by decide);have l2:y1.cell? ⟨gl,3,none⟩=some (.string (za 3)):=(zo RL.out hb1).cell (i:=3) (by decide);have B1:=zb hb1;clear hb1 x1 x2)
  | (go_at_call 28;(with_reducible refine (q2.out _).mono ?_);rintro e y2 ⟨rfl,hb2⟩
     have B2:=zb (zw B1.out hb2 B1.out.size);have m1:y2.cell? ⟨gh,4,none⟩=some (.string (za 5)):=(zo RH.out B2.out).cell (i:=4) (by decide);have m2:y2.cell? ⟨gh,5,none⟩=some (.string (za 3)):=(zo RH.out B2.out).cell (i:=5) (by decide);clear hb2 l1 l2 B1)
  | (go_at_call 28;(with_reducible refine (q3.out _).mono ?_);rintro e y3 ⟨rfl,hb3⟩
     have B3:=zb (zw B2.out hb3 B2.out.size);have n1:y3.cell? ⟨gh,6,none⟩=some (.string (za 5)):=(zo RH.out B3.out).cell (i:=6) (by decide);have n2:y3.cell? ⟨gh,7,none⟩=some (.string (za 2)):=(zo RH.out B3.out).cell (i:=7) (by decide);clear hb3 m1 m2 B2)
  | (go_at_call 28;(with_reducible refine (q4.out _).mono ?_);rintro e y4 ⟨rfl,hb4⟩
     have B4:=zb (zw B3.out hb4 B3.out.size);obtain ⟨z1,z2⟩:=qj (zo R8.out B4.out);clear hb4 n1 n2 B3)
  | (go_at_call 28;(with_reducible refine (q5.out _).mono ?_);rintro e y5 ⟨rfl,hb5⟩
     have B5:=zb (zw B4.out hb5 B4.out.size);clear hb5 z1 z2 B4))
 all_goals
  go_ret;exact ⟨rfl,zw HBL.out B5.out HBL.out.size⟩
end Go.Proofs.YtmhllppjcilllaaGreatDoor
end
section
open Go Go.RowKit Cs
namespace Go.Proofs.YtmhllppjcilllaaGreatDoor
theorem row_ne {W:World} {g g' n n':Nat} {t t':TypeId} {f f':Nat→Value} (h:W.rowIs g t n f) (h':W.rowIs g' t' n' f') (ht:t≠t'):g≠g':=fun e=>by
 subst e;have a:=jk h;rw [jk h'] at a;injection a with a;injection a with _ a;exact ht a.symm
structure WtV (B M:Nat) (L H:List Pr) (v:Value) (g1 c1 g2 c2:Nat) (F1 F2:Nat→Value) (W:World):Prop where
 v:v=yJ (some ⟨g1,0,none⟩) (some ⟨g2,0,none⟩) M M c1 c2
 ne:g1≠g2
 b1:B≤g1
 b2:B≤g2
 r1:W.rowIs g1 33 (c1*2) F1
 r2:W.rowIs g2 33 (c2*2) F2
 m1:M≤c1
 m2:M≤c2
 f1:∀ i,i<M*2→F1 i=zD L i
 f2:∀ i,i<M*2→F2 i=zD H i
 o1:W.ownsRow B 33 2 (.slice (some ⟨g1,0,none⟩) M c1) M ((List.range (M*2)).map (zD L))
 o2:W.ownsRow B 33 2 (.slice (some ⟨g2,0,none⟩) M c2) M ((List.range (M*2)).map (zD H))
theorem AwR.wt {w W:World} {M:Nat} {L H:List Pr} {s1 s2:Value} (h:AwR w M L H s1 s2 W) (hM:0<M):∃ g1 c1 g2 c2 F1 F2,WtV w.heap.size M L H (.agg #[s1,s2]) g1 c1 g2 c2 F1 F2 W:=by
 have o1:=h.o1;have o2:=h.o2;obtain ⟨g1,c1,rfl,b1,m1,F1,r1,f1⟩:=PrOwn.of_own h.o1 hM;obtain ⟨g2,c2,rfl,b2,m2,F2,r2,f2⟩:=PrOwn.of_own h.o2 hM;exact ⟨g1,c1,g2,c2,F1,F2,rfl,fun e=>h.dis g1 rfl (by rw [e];rfl),b1,b2,r1,r2,m1,m2,f1,f2,o1,o2⟩
abbrev jb (b:Nat) (N:Nt) (A:Option Addr) (c:Nat) (Aw:Option Addr) (lw cw:Nat) (At:Option Addr) (lt ct:Nat):Nat×TypeId×Nat×(Nat→Value):=(b, 28,4,zy #[.int .i64 N.n,.slice A N.l.length c,.slice Aw lw cw,.slice At lt ct])
theorem zjb {W:World} {g n m:Nat} {t:TypeId} {F f:Nat→Value} (h:W.rowIs g t n F) (hm:m≤n) (hf:∀ i,i<m→F i=f i):Rd W W.heap.size (some ⟨g,0,none⟩) m f:=fun _ =>
 ⟨g,0,rfl,h.lt,fun i hi=>by rw [Nat.zero_add,h.cell (i:=i) (by omega),hf i hi]⟩
theorem jv {B:Nat} {w W:World} (h:Below B w W) {g:Nat} (hg:B≤g) (x y:Value):Below B w ((W.setCell ⟨g,0,none⟩ x).setCell ⟨g,1,none⟩ y):=(h.setCell (p:=⟨g,0,none⟩) hg _).setCell (p:=⟨g,1,none⟩) hg _
end Go.Proofs.YtmhllppjcilllaaGreatDoor
end
