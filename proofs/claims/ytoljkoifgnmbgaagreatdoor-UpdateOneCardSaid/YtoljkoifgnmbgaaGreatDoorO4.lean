import Derived.Test.YtoljkoifgnmbgaaGreatDoorBL
import Derived.Test.YtoljkoifgnmbgaaGreatDoorWy
import Derived.Test.YtoljkoifgnmbgaaGreatDoorRE
import Derived.Test.YtoljkoifgnmbgaaGreatDoorO1
set_option linter.unusedSimpArgs false
set_option linter.unusedVariables false
section
set_option maxRecDepth 100000
set_option maxHeartbeats 8000000
open Go Go.RowKit Cs
namespace Go.Proofs.YtoljkoifgnmbgaaGreatDoor
section
variable {w W W':World} {N:Nt} {A:Option Addr} {c b0 n g1 g2 bw:Nat}
structure OneW (w:World) (N:Nt) (A:Option Addr) (c b0 n g1 g2 bw:Nat) (W:World):Prop where
 o:OneAt w N A c b0 W
 lo:Rd W W.heap.size (some ⟨g1,0,none⟩) ((n+1)*2) (prsF (onesP n))
 hi:Rd W W.heap.size (some ⟨g2,0,none⟩) ((n+1)*2) (prsF (onesP n))
 rw:W.rowIs bw 30 2 (arrF #[.slice (some ⟨g1,0,none⟩) (n+1) (n+1),.slice (some ⟨g2,0,none⟩) (n+1) (n+1)])
theorem oneW_new (h:OneAt w N A c b0 W) (r1:W.rowIs g1 60 ((n+1)*2) (prsF (List.replicate (n+1) (1,1)))) (r2:W.rowIs g2 60 ((n+1)*2) (prsF (List.replicate (n+1) (1,1)))) :
  OneW w N A c b0 n g1 g2 W.heap.size (W.alloc (.cells #[.slice (some ⟨g1,0,none⟩) (n+1) (n+1),.slice (some ⟨g2,0,none⟩) (n+1) (n+1)] 30)) :=
 have hb:=(Below.refl W.heap.size W).alloc (zqn _) (.cells #[.slice (some ⟨g1,0,none⟩) (n+1) (n+1),.slice (some ⟨g2,0,none⟩) (n+1) (n+1)] 30)
 ⟨h.below hb,Rd.of_row (rowBelow r1 hb) (zqn _) (rowBelow r1 hb).lt,Rd.of_row (rowBelow r2 hb) (zqn _) (rowBelow r2 hb).lt,arrNew W _ _ _ _ rfl rfl⟩
theorem OneW.cells (h:OneW w N A c b0 n g1 g2 bw W):W.cell? ⟨b0,0,none⟩=some (.int .i64 N.n)∧W.cell? ⟨b0,1,none⟩=some (.slice A N.l.length c)∧W.cell? ⟨bw,0,none⟩=some (.slice (some ⟨g1,0,none⟩) (n+1) (n+1))∧W.cell? ⟨bw,1,none⟩=some (.slice (some ⟨g2,0,none⟩) (n+1) (n+1)) :=
 ⟨h.o.cells.1,h.o.cells.2,h.rw.cell (i:=0) (by decide),h.rw.cell (i:=1) (by decide)⟩
end
section
variable {w W W':World} {E:Nat} {g:Sg} {N:Nt} {n:Nat} {tv:Value} {T:List Int} {k:Int} {B:List Bx}
theorem Ly.ofTwo {lo hi:List Pr} (h:Ly w E g N n lo hi tv T k B W) {gl gh m:Nat} {t:TypeId} {f1 f2:Nat→Value} (hb:Below W.heap.size W W') (h1:W.heap.size≤gl) (h2:W.heap.size≤gh) (r1:W'.rowIs gl t m f1) (r2:W'.rowIs gh t m f2):Ly w E g N n lo hi tv T k [(gl,t,m,f1),(gh,t,m,f2)] W' :=
 ⟨h.lv.below hb,fun b hm=>by
   rcases List.mem_cons.1 hm with rfl | hm
   ·exact ⟨r1,fun h2=>absurd (h.allLt _ h2) (by show ¬ gl<_;omega)⟩
   ·obtain rfl:=List.mem_singleton.1 hm
    exact ⟨r2,fun h2=>absurd (h.allLt _ h2) (by show ¬ gh<_;omega)⟩⟩
end
structure FvAt (w:World) (xa xb xc gl gh v Va Vb Vc:Nat) (W:World):Prop where
 bl:Below w.heap.size w W
 ca:W.cell? ⟨xa,0,none⟩=some (.string (natB Va))
 cb:W.cell? ⟨xb,0,none⟩=some (.string (natB Vb))
 cc:W.cell? ⟨xc,0,none⟩=some (.string (natB Vc))
 ch:W.cell? ⟨gh,v,none⟩=some (.string (natB Va))
 cl:W.cell? ⟨gl,v,none⟩=some (.string (natB Vb))
theorem FvAt.below {w W W':World} {xa xb xc gl gh v Va Vb Vc:Nat} (h:FvAt w xa xb xc gl gh v Va Vb Vc W) (hb:Below W.heap.size W W'):FvAt w xa xb xc gl gh v Va Vb Vc W' :=
 have k:∀ {p:Addr} {x:Value},W.cell? p=some x→W'.cell? p=some x:=fun h=>(hb.cell (World.block_lt_of_cell? W _ h)).trans h
 ⟨zqx h.bl hb h.bl.size,k h.ca,k h.cb,k h.cc,k h.ch,k h.cl⟩
theorem one_fv {w W:World} {E:Nat} {g:Sg} {N:Nt} {n:Nat} {lo hi:List Pr} {tv:Value} {T:List Int} {k:Int} {xa xb xc gl gh v Va Vb Vc m:Nat} {t:TypeId} {f1 f2:Nat→Value}
  (h:Ly w E g N n lo hi tv T k [(xb,t,1,arrF #[.string (natB Vb)]),(xa,t,1,arrF #[.string (natB Va)]),(xc,t,1,arrF #[.string (natB Vc)]),(gl,t,m,f1),(gh,t,m,f2)] W) (hv:v<m) (h1:f2 v = .string (natB Va)) (h2:f1 v = .string (natB Vb)) :
  FvAt w xa xb xc gl gh v Va Vb Vc W :=
 ⟨h.lv.bl,(h.row (xa,t,1,arrF #[.string (natB Va)]) (by simp)).cell (i:=0) Nat.zero_lt_one,(h.row (xb,t,1,arrF #[.string (natB Vb)]) (by simp)).cell (i:=0) Nat.zero_lt_one,(h.row (xc,t,1,arrF #[.string (natB Vc)]) (by simp)).cell (i:=0) Nat.zero_lt_one,
  ((h.row (gh,t,m,f2) (by simp)).cell (i:=v) hv).trans (by rw [← h1]),((h.row (gl,t,m,f1) (by simp)).cell (i:=v) hv).trans (by rw [← h2])⟩
theorem uone_ok (w:World) (N:Nt) (A:Option Addr) (c n v:Nat) (hlen:N.l.length≤140737488355328) (hn:N.n=(n:Int)) (hN:NtAt w w.heap.size A N.l) (hT:Tab w) (hf:fewU N 0=true) (hk:cchk N=0) (h1:1≤v) (h2:v≤n) :
  Calls Tryz.prog 10 #[ntV N A c,.int .i64 (v:Int)] w fun e w'=>e = .returned (.bool true)∧Below w.heap.size w w':=by
 obtain ⟨hv,hd,hs⟩:=cchk_zero3 hk;have hn128:=vn_le hv hn
 have hins:∀ k (hk:k<N.l.length),N.l[k].ins.length≤1000000:=fun k hk=>by
  have:fewB N=true:=by
   unfold fewU at hf;rw [Bool.and_eq_true,Bool.and_eq_true] at hf;exact hf.1.1
  have:=few_ins this k hk;omega
 have hva:=ses_one hv hn (v:Int);have hvb:=ses_one hv hn (-(v:Int));have hvs:=ses_split hv hd hn h1 h2;have ok0:∀ D, 1<D→SesOk N n (onesP n) (onesP n) [] D:=fun D hD=>one_ok hk hn TOk.nil (by decide) hD;have ok1:∀ D, 1<D→SesOk N n (onesP n) (onesP n) ([]++[(v:Int)]) D:=fun D hD=>one_ok hk hn (tok_one (by omega) (by omega)) (by simp) hD;have ok2:∀ D, 1<D→SesOk N n (onesP n) (onesP n) ([]++[-(v:Int)]) D:=fun D hD=>one_ok hk hn (tok_one (by omega) (by omega)) (by simp) hD;have lt1:litOk (v:Int) N.n=true:=lit_one hn hn128 (by omega) (by omega);have lt2:litOk (-(v:Int)) N.n=true:=lit_one hn hn128 (by omega) (by omega);have s0:=sesC_small (ok0 _ (Nat.lt_succ_self _));have s1:=sesC_small (ok1 _ (Nat.lt_succ_self _));have s2:=sesC_small (ok2 _ (Nat.lt_succ_self _));have hbl:=fun W hN hT=>byLit_any W N A c n hn hN hT hk;have hnw:=fun W Bl Bh (hT:Tab W) hN h3 h4=>new_ok W N A c n (n+1) (n+1) (onesP n) (onesP n) Bl Bh hN hv hd hs hn hT hins (ones_in n) (ones_few hn128) h3 h4 (zqn _) (zqn _);rw [Int.neg_neg] at hvb;obtain ⟨Vc,eVc⟩:∃ x,sesC N n []=x:=⟨_,rfl⟩;obtain ⟨Va,eVa⟩:∃ x,sesC N n [(v:Int)]=x:=⟨_,rfl⟩;obtain ⟨Vb,eVb⟩:∃ x,sesC N n [-(v:Int)]=x:=⟨_,rfl⟩
 have hsum:Va+Vb=Vc:=by rw [← eVa,← eVb,← eVc];exact hvs
 have hhi:natsF (highL N n) v = .string (natB Va):=by
  unfold natsF highL;obtain ⟨i,rfl⟩:∃ i,v=i+1:=⟨v-1,by omega⟩;rw [List.getD_cons_succ,List.getD_eq_getElem?_getD,List.getElem?_map,List.getElem?_range (by omega)];show Value.string (natB ((RN (-((i:Int)+1))).sum N))=_;rw [← eVa,hva]
  rfl
 have hlo:natsF (lowL N n) v = .string (natB Vb):=by
  unfold natsF lowL;obtain ⟨i,rfl⟩:∃ i,v=i+1:=⟨v-1,by omega⟩;rw [List.getD_cons_succ,List.getD_eq_getElem?_getD,List.getElem?_map,List.getElem?_range (by omega)];show Value.string (natB ((RN ((i:Int)+1)).sum N))=_;rw [← eVb,hvb]
  rfl
 have s0':n8 Vc≤100000:=by rw [← eVc];exact s0
 have s1':n8 Va≤100000:=by rw [← eVa];exact s1
 have s2':n8 Vb≤100000:=by rw [← eVb];exact s2
 have hcmp:∀ a,cmpN a a=0:=fun a=>by unfold cmpN;rw [if_neg (by omega),if_pos rfl]
 have hpa:=fun W (hT:Tab W) (D:Nat) (_:D=W.heap.size)=>ok0 D (by rw [‹D=_›];exact hT.lt);have hco0:=fun (W W':World) E g tv k B (hT:Tab W) (h:Ly W E g N n (onesP n) (onesP n) tv [] k B W')=>h.count (ok0 _ hT.lt) hT;have hco1:=fun (W W':World) E g tv k B (hT:Tab W) (h:Ly W E g N n (onesP n) (onesP n) tv [(v:Int)] k B W')=>h.count (ok1 _ hT.lt) hT;have hco2:=fun (W W':World) E g tv k B (hT:Tab W) (h:Ly W E g N n (onesP n) (onesP n) tv [-(v:Int)] k B W')=>h.count (ok2 _ hT.lt) hT;rw [eVc] at hco0;rw [eVa] at hco1;rw [eVb] at hco2;have hpu1:=fun (W W':World) E g tv k B (hT:Tab W) (h:Ly W E g N n (onesP n) (onesP n) tv [] k B W')=>h.push (ok0 _ hT.lt) hT (by decide) (v:Int) lt1 (by simp) (by simp);have hpu2:=fun (W W':World) E g tv k B (hT:Tab W) (h:Ly W E g N n (onesP n) (onesP n) tv [] k B W')=>h.push (ok0 _ hT.lt) hT (by decide) (-(v:Int)) lt2 (by simp) (by simp);have hpo:=fun (W W':World) E g tv k B (hT:Tab W) (h:Ly W E g N n (onesP n) (onesP n) tv ([]++[(v:Int)]) k B W')=>Ly.pop (T:=[]) (l:=(v:Int)) h (ok1 _ hT.lt) hT;simp only [List.nil_append] at hpu1 hpu2 hpo;have hc1:=fun W=>cmp_any W Va Va (by omega) (by omega);have hc2:=fun W=>cmp_any W Vb Vb (by omega) (by omega);have hc3:=fun W=>cmp_any W Vc Vc (by omega) (by omega);have had:=fun W=>add_any W Va Vb (by omega) (by omega);rw [hsum] at had;rw [hcmp] at hc1 hc2 hc3
 have hwr:IntKind.i64.wrap (-(v:Int)) = -(v:Int):=by rw [IntKind.wrap_i64];omega
 have hon:=fun W=>ones_any W n hn128;have hfw:=fun W hN=>fewU_any W N A none c 0 0 hlen hN;rw [hf] at hfw;have hck:=fun W hN=>rcheck_any W N A c hlen hN;rw [hk] at hck;have HFW:=zqh hfw;have HCK:=zqh hck;have HON:=zqh hon;have HNW:=zqh hnw;have HBL:=zqh hbl;have HC0:=zqh hco0;have HC1:=zqh hco1;have HC2:=zqh hco2;have HP1:=zqh hpu1;have HP2:=zqh hpu2;have HPO:=zqh hpo;have HQ1:=zqh hc1;have HQ2:=zqh hc2;have HQ3:=zqh hc3;have HAD:=zqh had;have HHI:=zqh hhi;have HLO:=zqh hlo;have HT:=zqh hT;have o0:=zqh (oneNew w N A c hN);obtain ⟨m1,m2⟩:=o0.out.cells
 have hv1:¬ ((v:Int)<1):=by omega
 have hv2:¬ ((n:Int)<(v:Int)):=by omega
 have d1:decide ((v:Int)<1)=false:=decide_eq_false hv1;have d2:decide ((n:Int)<(v:Int))=false:=decide_eq_false hv2;have d3:decide (((n:Int)+1)≤(v:Int))=false:=decide_eq_false (by omega);have HLT:=zqh (show v<n+1 by omega);clear hfw hck hT hN hf hon hnw hbl hco0 hco1 hco2 hpu1 hpu2 hpo hc1 hc2 hc3 had hhi hlo hva hvb hvs ok0 ok1 ok2 lt1 lt2 s0 s1 s2 s0' s1' s2' hsum eVa eVb eVc hpa hins hv hd hs hk hlen hcmp;obtain ⟨m,l⟩:=N;obtain rfl:m=(n:Int):=hn
 simp only at *
 go_enter Tryz.func10, Tryz.ntmps10
 go_upto_region 9 with (first
  | (go_at_call 17;(with_reducible refine (HFW.out _ o0.out.nt).mono ?_);rintro e w1 ⟨rfl,hb⟩;have o1:=zqh (o0.out.below hb);obtain ⟨n1,n2⟩:=o1.out.cells;clear hb m1 m2 o0)
  | (go_at_call 32;(with_reducible refine (HCK.out _ o1.out.nt).mono ?_);rintro e w2 ⟨rfl,hb⟩;have o2:=zqh (o1.out.below hb);obtain ⟨p1,p2⟩:=o2.out.cells;clear hb n1 n2 o1)
  | (go_at_call 33;(with_reducible refine (HON.out _).mono ?_);rintro e w3 ⟨g1,g2,rfl,hne,hg1,hg2,r1,r2,hb⟩;have o3:=zqh (oneW_new (o2.out.below hb) (rowBelow r1 (zqr _ _)) r2);obtain ⟨q1,q2,q3,q4⟩:=o3.out.cells;clear hb hne hg1 hg2 r1 r2 p1 p2 o2)
  | (go_at_call 15;(with_reducible refine (HNW.out _ _ _ (HT.out.below o3.out.o.bl) o3.out.o.nt o3.out.lo o3.out.hi).mono ?_);rintro e w4 ⟨g,E,rfl,hs,hb⟩;have y0:=zqh (Ly.ofLv (Lv.mk hs hb));have HT2:=zqh (HT.out.below o3.out.o.bl);have o4:=zqh (o3.out.o.below hb);have HB3:=zqh o3.out.o.bl;obtain ⟨p1,p2⟩:=o4.out.cells;clear hb hs q1 q2 q3 q4 o3)
  | (go_at_call 34;(with_reducible refine (HBL.out _ o4.out.nt (HT.out.below o4.out.bl)).mono ?_);rintro e w5 ⟨gl,gh,rfl,hgl,hgh,r1,r2,hb⟩;have y1:=zqh (Ly.ofTwo y0.out hb hgl hgh r1 r2);clear hb hgl hgh r1 r2 p1 p2 y0 o4)
  | (go_at_call 24;(with_reducible refine (HC0.out _ _ _ _ _ _ _ HT2.out y1.out).mono ?_);rintro e w6 ⟨rfl,hy⟩;have y2:=zqh (hy.new #[.string (natB Vc)] 54 _ 1 rfl rfl);clear hy y1))
 go_upto_region 15 with (first
  | (go_at_call 22;(with_reducible refine (HP1.out _ _ _ _ _ _ _ HT2.out y2.out).mono ?_);rintro e w7 ⟨rfl,tv1,hy⟩;have y3:=zqh hy;clear hy y2)
  | (go_at_call 24;(with_reducible refine (HC1.out _ _ _ _ _ _ _ HT2.out y3.out).mono ?_);rintro e w8 ⟨rfl,hy⟩;have y4:=zqh (hy.new #[.string (natB Va)] 54 _ 1 rfl rfl);clear hy y3)
  | (go_at_call 20;(with_reducible refine (HPO.out _ _ _ _ _ _ _ HT2.out y4.out).mono ?_);rintro e w9 ⟨rfl,tv2,hy⟩;have y5:=zqh hy;clear hy y4)
  | (go_at_call 22;(with_reducible refine (HP2.out _ _ _ _ _ _ _ HT2.out y5.out).mono ?_);rintro e w10 ⟨rfl,tv3,hy⟩;have y6:=zqh hy;clear hy y5)
  | (go_at_call 24;(with_reducible refine (HC2.out _ _ _ _ _ _ _ HT2.out y6.out).mono ?_);rintro e w11 ⟨rfl,hy⟩;have y7:=zqh (one_fv (hy.new #[.string (natB Vb)] 54 _ 1 rfl rfl) HLT.out HHI.out HLO.out);clear hy y6))
 have y8:=zqh (y7.out.below (belowDrewN (zqr _ _) 1));have m1:=y8.out.ca;have m2:=y8.out.cb;have m3:=y8.out.cc;have m4:=y8.out.ch;have m5:=y8.out.cl
 have i1:(0:Int)≤(v:Int):=by omega
 have i2:(v:Int)<(n:Int)+1:=by omega
 go_region_held3 (fun w'=>w'.cell? ⟨w8.heap.size,0,none⟩=some (.string (natB Va))∧w'.cell? ⟨w11.heap.size,0,none⟩=some (.string (natB Vb))∧w'.cell? ⟨w6.heap.size,0,none⟩=some (.string (natB Vc))∧w'.cell? ⟨gh,v,none⟩=some (.string (natB Va))∧w'.cell? ⟨gl,v,none⟩=some (.string (natB Vb)))
  (first | exact ⟨m1,m2,m3,m4,m5⟩ | go_keep)
  (first
    | (go_simp
       go_at_call 35
       (with_reducible first | refine (HQ1.out _).mono ?_ | refine (HQ2.out _).mono ?_ | refine (HQ3.out _).mono ?_)
       rintro e w12 ⟨rfl,hb⟩;replace y8:=zqh (y8.out.below hb);have m1:=y8.out.ca;have m2:=y8.out.cb;have m3:=y8.out.cc;have m4:=y8.out.ch
       have m5:=y8.out.cl)
    | (go_simp
       go_at_call 36
       (with_reducible refine (HAD.out _).mono ?_)
       rintro e w12 ⟨rfl,hb⟩;replace y8:=zqh (y8.out.below hb);have m1:=y8.out.ca;have m2:=y8.out.cb;have m3:=y8.out.cc;have m4:=y8.out.ch
       have m5:=y8.out.cl)
    | (go_simp
       go_at_call 13
       (with_reducible refine (works_any _ (HT2.out.below y8.out.bl)).mono ?_)
       rintro e w12 ⟨rfl,hb⟩;replace y8:=zqh (y8.out.below hb);have m1:=y8.out.ca;have m2:=y8.out.cb;have m3:=y8.out.cc;have m4:=y8.out.ch
       have m5:=y8.out.cl))
 all_goals
  try go_wp2
  go_ret
  exact ⟨rfl,zqx HB3.out y8.out.bl HB3.out.size⟩
end Go.Proofs.YtoljkoifgnmbgaaGreatDoor
end
section
set_option maxRecDepth 100000
set_option maxHeartbeats 8000000
open Go Go.RowKit Cs
namespace Go.Proofs.YtoljkoifgnmbgaaGreatDoor
theorem uone_any (w:World) (N:Nt) (A:Option Addr) (c:Nat) (v:Int) (hlen:N.l.length≤140737488355328) (hN:NtAt w w.heap.size A N.l) (hT:Tab w) :
  Calls Tryz.prog 10 #[ntV N A c,.int .i64 v] w fun e w'=>e = .returned (.bool true)∧Below w.heap.size w w':=by
 by_cases hgood:fewU N 0=true∧cchk N=0∧1≤v∧v≤N.n
 ·obtain ⟨hf,hk,h1,h2⟩:=hgood;obtain ⟨n,hn⟩:∃ n:Nat,N.n=(n:Int):=⟨N.n.toNat,by omega⟩;obtain ⟨u,rfl⟩:∃ u:Nat,v=(u:Int):=⟨v.toNat,by omega⟩;exact uone_ok w N A c n u hlen hn hN hT hf hk (by omega) (by omega)
 ·have hfw:=fun W hN=>fewU_any W N A none c 0 0 hlen hN;have hck:=fun W hN=>rcheck_any W N A c hlen hN;have o0:=zqh (oneNew w N A c hN);obtain ⟨m1,m2⟩:=o0.out.cells;have HT:=zqh hT;obtain ⟨F,hF⟩:∃ F,fewU N 0=F:=⟨_,rfl⟩;rw [hF] at hfw hgood;obtain ⟨R,hR⟩:∃ R,cchk N=R:=⟨_,rfl⟩;rw [hR] at hck hgood;have HFW:=zqh hfw;have HCK:=zqh hck;clear hfw hck hT hN hF hR hlen;obtain ⟨m,l⟩:=N
  simp only at *
  cases F
  ·clear hgood
   go_enter Tryz.func10, Tryz.ntmps10
   go_wp2_with (first
    | (go_at_call 17;(with_reducible refine (HFW.out _ o0.out.nt).mono ?_);rintro e w1 ⟨rfl,hb⟩;have o1:=zqh (o0.out.below hb);clear hb m1 m2 o0)
    | (go_at_call 13;(with_reducible refine (works_any _ (HT.out.below o1.out.bl)).mono ?_);rintro e w2 ⟨rfl,hb⟩;have o2:=zqh (o1.out.below hb);clear hb o1))
   all_goals
    go_ret
    exact ⟨rfl,o2.out.bl⟩
  ·by_cases h0:R=0
   ·subst h0;by_cases h1:v<1
    ·have d1:decide (v<1)=true:=decide_eq_true h1;clear hgood
     go_enter Tryz.func10, Tryz.ntmps10
     go_wp2_with (first
      | (go_at_call 17;(with_reducible refine (HFW.out _ o0.out.nt).mono ?_);rintro e w1 ⟨rfl,hb⟩;have o1:=zqh (o0.out.below hb);obtain ⟨n1,n2⟩:=o1.out.cells;clear hb m1 m2 o0)
      | (go_at_call 32;(with_reducible refine (HCK.out _ o1.out.nt).mono ?_);rintro e w2 ⟨rfl,hb⟩;have o2:=zqh (o1.out.below hb);obtain ⟨p1,p2⟩:=o2.out.cells;clear hb n1 n2 o1)
      | (go_at_call 13;(with_reducible refine (works_any _ (HT.out.below o2.out.bl)).mono ?_);rintro e w3 ⟨rfl,hb⟩;have o3:=zqh (o2.out.below hb);clear hb p1 p2 o2))
     all_goals
      go_ret
      exact ⟨rfl,o3.out.bl⟩
    ·have h2:m<v:=by
      rcases Int.lt_or_le m v with h | h
      ·exact h
      ·exact absurd ⟨rfl,rfl,by omega,h⟩ hgood
     have d1:decide (v<1)=false:=decide_eq_false h1;have d2:decide (m<v)=true:=decide_eq_true h2;clear hgood
     go_enter Tryz.func10, Tryz.ntmps10
     go_wp2_with (first
      | (go_at_call 17;(with_reducible refine (HFW.out _ o0.out.nt).mono ?_);rintro e w1 ⟨rfl,hb⟩;have o1:=zqh (o0.out.below hb);obtain ⟨n1,n2⟩:=o1.out.cells;clear hb m1 m2 o0)
      | (go_at_call 32;(with_reducible refine (HCK.out _ o1.out.nt).mono ?_);rintro e w2 ⟨rfl,hb⟩;have o2:=zqh (o1.out.below hb);obtain ⟨p1,p2⟩:=o2.out.cells;clear hb n1 n2 o1)
      | (go_at_call 13;(with_reducible refine (works_any _ (HT.out.below o2.out.bl)).mono ?_);rintro e w3 ⟨rfl,hb⟩;have o3:=zqh (o2.out.below hb);clear hb p1 p2 o2))
     all_goals
      go_ret
      exact ⟨rfl,o3.out.bl⟩
   ·have r1:(R != 0)=true:=bne_iff_ne.2 h0
    have r2:(R==0)=false:=by simpa using h0
    clear hgood
    go_enter Tryz.func10, Tryz.ntmps10
    go_wp2_with (first
     | (go_at_call 17;(with_reducible refine (HFW.out _ o0.out.nt).mono ?_);rintro e w1 ⟨rfl,hb⟩;have o1:=zqh (o0.out.below hb);obtain ⟨n1,n2⟩:=o1.out.cells;clear hb m1 m2 o0)
     | (go_at_call 32;(with_reducible refine (HCK.out _ o1.out.nt).mono ?_);rintro e w2 ⟨rfl,hb⟩;have o2:=zqh (o1.out.below hb);obtain ⟨p1,p2⟩:=o2.out.cells;clear hb n1 n2 o1)
     | (go_at_call 13;(with_reducible refine (works_any _ (HT.out.below o2.out.bl)).mono ?_);rintro e w3 ⟨rfl,hb⟩;have o3:=zqh (o2.out.below hb);clear hb p1 p2 o2))
    all_goals
     go_ret
     exact ⟨rfl,o3.out.bl⟩
end Go.Proofs.YtoljkoifgnmbgaaGreatDoor
end
section
set_option maxRecDepth 100000
open Go Go.RowKit Cs Go.ChangeShapes Go.WideShapes Go.ChangeAt Go.Joins Go.Deep
namespace Go.Proofs.YtoljkoifgnmbgaaGreatDoor
theorem open_i64 {H:Type} {enc:TypeId×Value→H} {W:World} {r:Reach} {b0:Nat} {v:Value} {d:DataW H} {p:List MemPlace} (hv:Value.okWide Tryz.prog W r b0 3 v) (h:DataW.Trod enc Tryz.prog W 0 (fun _=>true) true 3 v d p) :
  ∃ z:Int,v = .int .i64 z∧r64 z:=by
 obtain ⟨z,rfl⟩:=okWide_int Tryz.underlying3 hv;obtain ⟨fuel,hf⟩:=h;obtain ⟨z',hz,_,hw⟩:=DataW.trod_int Tryz.underlying3 hf;simp only [Value.cells,List.cons.injEq,Value.int.injEq,and_true,true_and] at hz;subst hz;exact ⟨z,rfl,wf_r64 hw⟩
end Go.Proofs.YtoljkoifgnmbgaaGreatDoor
end
