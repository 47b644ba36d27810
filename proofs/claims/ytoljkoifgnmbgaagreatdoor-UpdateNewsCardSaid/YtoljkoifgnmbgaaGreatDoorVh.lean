import Derived.Test.YtoljkoifgnmbgaaGreatDoorVr
set_option linter.unusedSimpArgs false
set_option linter.unusedVariables false
set_option maxRecDepth 100000
set_option maxHeartbeats 4000000
open Go Go.RowKit Cs
namespace Go.Proofs.YtoljkoifgnmbgaaGreatDoor
section
variable {w w1:World} {D E:Nat} {g:Sg} {N:Nt} {n:Nat} {lo hi:List Pr} {tv:Value} {T:List Int} {k:Int}
theorem count_at (h:SesAt w D E g N n lo hi tv T k) (ok:SesOk N n lo hi T D) (hT:Tab w) :
  Calls Tryz.prog 24 #[.pointer (some ⟨g.b,0,none⟩)] w fun e w'=>e = .returned (.tuple #[natV ((RL n (cLo n T) (cHi n T)).sum N),.int .i64 0])∧Below w.heap.size w w':=by
 have hno:=fun W (hb:Below w.heap.size w W)=>none_at (h.below hb) ok.hv;have HN:=zqh hno;have a1:=arrNew w #[.string ⟨#[]⟩] 54 w.heap.size 1 rfl rfl;have a2:=(Below.refl w.heap.size w).alloc (zqn _) (.cells #[.string ⟨#[]⟩] 54);clear hno
 go_enter Tryz.func24, Tryz.ntmps24
 go_upto_region 3 with (go_at_call 58;(with_reducible refine (HN.out _ a2).mono ?_);rintro e w9 ⟨rfl,rfl⟩)
 have q:=h.below a2;have hbc:=a2
 generalize w.alloc (.cells #[.string ⟨#[]⟩] 54)=wc at *
 have hrr:=a1
 have hto:∀ W,Below wc.heap.size wc W→Calls Tryz.prog 66 #[.pointer (some ⟨g.b,5,none⟩),.agg #[.int .i64 (n:Int),.slice g.A N.l.length g.cA],.slice g.O N.l.length g.cO] W fun e w'=>e = .returned (natV ((RL n (cLo n T) (cHi n T)).sum N))∧Below W.heap.size W w':=fun W hb=>by
  rw [← ok.hn];exact ntotal_at (q.below hb) ((hT.below hbc).below hb) ok.hv ok.hs ok.hn cLo_le cHi_le rfl _ rfl
 obtain ⟨y,hy⟩:∃ y,(RL n (cLo n T) (cHi n T)).sum N=y:=⟨_,rfl⟩;rw [hy] at hto;have HY:=zqh hy;have HTO:=zqh hto
 have s1:wc.cell? ⟨g.b,0,none⟩=some (.int .i64 (n:Int)):=by rw [← ok.hn];exact q.cell 0 (by decide) _ rfl
 have s2:wc.cell? ⟨g.b,1,none⟩=some (.slice g.A N.l.length g.cA):=q.cell 1 (by decide) _ rfl;have s3:wc.cell? ⟨g.b,2,none⟩=some (.slice g.O N.l.length g.cO):=q.cell 2 (by decide) _ rfl;have hbw:=q.lt;clear q hto hy h HN
 go_wp2_with fail
 have HS:Hid (∀ W,Below wc.heap.size wc W→W.cell? ⟨g.b,0,none⟩=some (.int .i64 (n:Int))∧W.cell? ⟨g.b,1,none⟩=some (.slice g.A N.l.length g.cA)∧W.cell? ⟨g.b,2,none⟩=some (.slice g.O N.l.length g.cO)):=zqh fun W hb=>⟨(hb.cell (p:=⟨g.b,0,none⟩) hbw).trans s1,(hb.cell (p:=⟨g.b,1,none⟩) hbw).trans s2,(hb.cell (p:=⟨g.b,2,none⟩) hbw).trans s3⟩
 refine wp_region_props (n:=_) (PX:=[zqu (.pointer (some ⟨g.b,0,none⟩)),
    zqu (.pointer (some ⟨g.b,0,none⟩)),
    zqu (.pointer (some ⟨g.b,5,none⟩)),
    zqu (.pointer (some ⟨g.b,0,none⟩)),
    zqu (.pointer (some ⟨g.b,0,none⟩)),
    zqu (.pointer (some ⟨g.b,0,none⟩)),
    zqu (.agg #[.int .i64 (n:Int),.slice g.A N.l.length g.cA]),
    zqu (.pointer (some ⟨g.b,0,none⟩)),
    zqu (.pointer (some ⟨g.b,0,none⟩)),
    zqu (.pointer (some ⟨g.b,2,none⟩)),
    zqu (.slice g.O N.l.length g.cO),
    zqu (natV y)])
   (AL:=[]) (DP:=[[],[0],[1],[],[3],[4],[5],[],[7],[8],[9],[2,6,10]]) (L1:=[0,1,2,3,4,5,6,7,8,9,10,11]) (ex:=[]) (by kernel_rfl) rfl (by kernel_rfl) ?_ ?_ (fin0 ?_)
 ·refine zqg ?_ (zqg ?_ (zqg ?_ (zqg ?_ (zqg ?_ (zqg ?_ (zqg ?_ (zqg ?_ (zqg ?_ (zqg ?_ (zqg ?_ (zqg ?_ zqi)))))))))))
  iterate 12 exact fun _ _ _ _ h _=>h
 ·refine zqg ?_ (zqg ?_ (zqg ?_ (zqg ?_ (zqg ?_ (zqg ?_ (zqg ?_ (zqg ?_ (zqg ?_ (zqg ?_ (zqg ?_ (zqg ?_ zqi)))))))))))
  ·refine zso rfl [] ?_;intro vs W hW hd K hK;clear hd
   try simp only [putsD,Act.put,zqa,zqb,zqc,zqd,zqe,zqf] at hK ⊢
   go_simp
   exact hK.out _ _ rfl (zqr _ _) (zqv rfl)
  ·refine zso rfl [(0,some 7)] ?_;intro vs W hW hd K hK;have d0:vs 0 = .pointer (some ⟨g.b,0,none⟩):=hd 0 (by decide);clear hd
   try simp only [d0,putsD,Act.put,zqa,zqb,zqc,zqd,zqe,zqf] at hK ⊢
   go_simp
   exact hK.out _ _ rfl (zqr _ _) (zqv rfl)
  ·refine zso rfl [(1,some 8)] ?_;intro vs W hW hd K hK;have d1:vs 1 = .pointer (some ⟨g.b,0,none⟩):=hd 1 (by decide);clear hd
   try simp only [d1,putsD,Act.put,zqa,zqb,zqc,zqd,zqe,zqf] at hK ⊢
   obtain ⟨m1,m2,m3⟩:=HS.out W hW
   go_simp
   exact hK.out _ _ rfl (zqr _ _) (zqv rfl)
  ·refine zso rfl [] ?_;intro vs W hW hd K hK;clear hd
   try simp only [putsD,Act.put,zqa,zqb,zqc,zqd,zqe,zqf] at hK ⊢
   go_simp
   exact hK.out _ _ rfl (zqr _ _) (zqv rfl)
  ·refine zso rfl [(3,some 10)] ?_;intro vs W hW hd K hK;have d3:vs 3 = .pointer (some ⟨g.b,0,none⟩):=hd 3 (by decide);clear hd
   try simp only [d3,putsD,Act.put,zqa,zqb,zqc,zqd,zqe,zqf] at hK ⊢
   go_simp
   exact hK.out _ _ rfl (zqr _ _) (zqv rfl)
  ·refine zso rfl [(4,some 11)] ?_;intro vs W hW hd K hK;have d4:vs 4 = .pointer (some ⟨g.b,0,none⟩):=hd 4 (by decide);clear hd
   try simp only [d4,putsD,Act.put,zqa,zqb,zqc,zqd,zqe,zqf] at hK ⊢
   obtain ⟨m1,m2,m3⟩:=HS.out W hW
   go_simp
   exact hK.out _ _ rfl (zqr _ _) (zqv rfl)
  ·refine zso rfl [(5,some 12)] ?_;intro vs W hW hd K hK;have d5:vs 5 = .pointer (some ⟨g.b,0,none⟩):=hd 5 (by decide);clear hd
   try simp only [d5,putsD,Act.put,zqa,zqb,zqc,zqd,zqe,zqf] at hK ⊢
   obtain ⟨m1,m2,m3⟩:=HS.out W hW
   go_simp
   exact hK.out _ _ rfl (zqr _ _) (zqv rfl)
  ·refine zso rfl [] ?_;intro vs W hW hd K hK;clear hd
   try simp only [putsD,Act.put,zqa,zqb,zqc,zqd,zqe,zqf] at hK ⊢
   go_simp
   exact hK.out _ _ rfl (zqr _ _) (zqv rfl)
  ·refine zso rfl [(7,some 14)] ?_;intro vs W hW hd K hK;have d7:vs 7 = .pointer (some ⟨g.b,0,none⟩):=hd 7 (by decide);clear hd
   try simp only [d7,putsD,Act.put,zqa,zqb,zqc,zqd,zqe,zqf] at hK ⊢
   go_simp
   exact hK.out _ _ rfl (zqr _ _) (zqv rfl)
  ·refine zso rfl [(8,some 15)] ?_;intro vs W hW hd K hK;have d8:vs 8 = .pointer (some ⟨g.b,0,none⟩):=hd 8 (by decide);clear hd
   try simp only [d8,putsD,Act.put,zqa,zqb,zqc,zqd,zqe,zqf] at hK ⊢
   obtain ⟨m1,m2,m3⟩:=HS.out W hW
   go_simp
   exact hK.out _ _ rfl (zqr _ _) (zqv rfl)
  ·refine zso rfl [(9,some 16)] ?_;intro vs W hW hd K hK;have d9:vs 9 = .pointer (some ⟨g.b,2,none⟩):=hd 9 (by decide);clear hd
   try simp only [d9,putsD,Act.put,zqa,zqb,zqc,zqd,zqe,zqf] at hK ⊢
   obtain ⟨m1,m2,m3⟩:=HS.out W hW
   go_simp
   exact hK.out _ _ rfl (zqr _ _) (zqv rfl)
  ·refine zso rfl [(2,some 9),(6,some 13),(10,some 17)] ?_;intro vs W hW hd K hK;have d2:vs 2 = .pointer (some ⟨g.b,5,none⟩):=hd 2 (by decide);have d6:vs 6 = .agg #[.int .i64 (n:Int),.slice g.A N.l.length g.cA]:=hd 6 (by decide);have d10:vs 10 = .slice g.O N.l.length g.cO:=hd 10 (by decide);clear hd
   try simp only [d2,d6,d10,putsD,Act.put,zqa,zqb,zqc,zqd,zqe,zqf] at hK ⊢
   go_simp
   go_at_call 66
   (with_reducible first | refine (HTO.out _ hW).mono ?_)
   rintro e w9 ⟨rfl,hb9⟩;exact hK.out _ _ (rfl) hb9 (fun h=>absurd h (by decide))
 refine FinOk.intro [(0,some 7),(1,some 8),(2,some 9),(3,some 10),(4,some 11),(5,some 12),(6,some 13),(7,some 14),(8,some 15),(9,some 16),(10,some 17),(11,some 18)] #[true,true,true,true,true,true,true,true,true,true,true,true,false,false] 2 (by kernel_rfl) (by kernel_rfl) (by kernel_rfl) ?_;intro vs Wf hW0 hd hbk hdis kf;have hW:=zqw hW0;have d0:vs 0 = .pointer (some ⟨g.b,0,none⟩):=hd 0 (by decide);have d1:vs 1 = .pointer (some ⟨g.b,0,none⟩):=hd 1 (by decide);have d2:vs 2 = .pointer (some ⟨g.b,5,none⟩):=hd 2 (by decide);have d3:vs 3 = .pointer (some ⟨g.b,0,none⟩):=hd 3 (by decide);have d4:vs 4 = .pointer (some ⟨g.b,0,none⟩):=hd 4 (by decide);have d5:vs 5 = .pointer (some ⟨g.b,0,none⟩):=hd 5 (by decide);have d6:vs 6 = .agg #[.int .i64 (n:Int),.slice g.A N.l.length g.cA]:=hd 6 (by decide);have d7:vs 7 = .pointer (some ⟨g.b,0,none⟩):=hd 7 (by decide);have d8:vs 8 = .pointer (some ⟨g.b,0,none⟩):=hd 8 (by decide);have d9:vs 9 = .pointer (some ⟨g.b,2,none⟩):=hd 9 (by decide);have d10:vs 10 = .slice g.O N.l.length g.cO:=hd 10 (by decide);have d11:vs 11=natV y:=hd 11 (by decide);clear hd hbk hdis hW0
 try simp only [d0,d1,d2,d3,d4,d5,d6,d7,d8,d9,d10,d11,putsD,Act.put,zqa,zqb,zqc,zqd,zqe,zqf]
 clear d0 d1 d2 d3 d4 d5 d6 d7 d8 d9 d10 d11 vs;clear HS;have rf:=rowBelow hrr hW;have c0:=rf.cell (i:=0) (by decide);have z0:=rf.frozen 0;refine wpAny_one1 12 (by kernel_rfl) rfl (fun K hK=>?_)
 go_simp
 refine hK.out _ _ ?_;clear hK K
 try simp only [putsD,Act.put,zqa,zqb,zqc,zqd,zqe,zqf]
 refine wpAny_one1 13 (by kernel_rfl) rfl (fun K hK=>?_)
 go_simp
 refine hK.out _ _ ?_;clear hK K
 try simp only [putsD,Act.put,zqa,zqb,zqc,zqd,zqe,zqf]
 refine wpAny_end (by kernel_rfl) ?_ _
 all_goals
  have hbf:=zqx hbc hW hbc.size
  try go_wp2
  exact ret_nat_slot' (b:=.int .i64 0) rfl y rfl rfl ((rf.set 0 (.string (natB y))).congr fun i hi=>by
   have e:i=0:=by omega
   subst e;rfl) rfl ⟨by rw [HY.out],hbf.setCell (by simp <;> omega) _⟩
theorem weight_at (h:SesAt w D E g N n lo hi tv T k) (ok:SesOk N n lo hi T D) (hT:Tab w) :
  Calls Tryz.prog 25 #[.pointer (some ⟨g.b,0,none⟩)] w fun e w'=>e = .returned (.tuple #[ratV ((RP n (wLo n lo T) (wHi n hi T)).sum N).1 ((RP n (wLo n lo T) (wHi n hi T)).sum N).2,.int .i64 0])∧Below w.heap.size w w':=by
 have hno:=fun W (hb:Below w.heap.size w W)=>none_at (h.below hb) ok.hv;have HN:=zqh hno;have a1:=arrNew w #[.string ⟨#[]⟩,.string ⟨#[]⟩] 60 w.heap.size 2 rfl rfl;have a2:=(Below.refl w.heap.size w).alloc (zqn _) (.cells #[.string ⟨#[]⟩,.string ⟨#[]⟩] 60);clear hno
 go_enter Tryz.func25, Tryz.ntmps25
 go_upto_region 3 with (go_at_call 58;(with_reducible refine (HN.out _ a2).mono ?_);rintro e w9 ⟨rfl,rfl⟩)
 have q:=h.below a2;have hbc:=a2
 generalize w.alloc (.cells #[.string ⟨#[]⟩,.string ⟨#[]⟩] 60)=wc at *
 have hrr:=a1
 have hto:∀ W,Below wc.heap.size wc W→Calls Tryz.prog 67 #[.pointer (some ⟨g.b,11,none⟩),.agg #[.int .i64 (n:Int),.slice g.A N.l.length g.cA],.slice g.O N.l.length g.cO] W fun e w'=>e = .returned (ratV ((RP n (wLo n lo T) (wHi n hi T)).sum N).1 ((RP n (wLo n lo T) (wHi n hi T)).sum N).2)∧Below W.heap.size W w':=fun W hb=>by
  rw [← ok.hn];exact qtotal_at (q.below hb) ((hT.below hbc).below hb) ok.hv ok.hd ok.hs ok.hn (ok.wok T) (wLo_all Sp.zero ok.wt.sl) (wHi_all Sp.zero ok.wt.sh) rfl _ rfl
 obtain ⟨y,hy⟩:∃ y,(RP n (wLo n lo T) (wHi n hi T)).sum N=y:=⟨_,rfl⟩;rw [hy] at hto;obtain ⟨yn,yd⟩:=y;have HY:=zqh hy;have HTO:=zqh hto
 have s1:wc.cell? ⟨g.b,0,none⟩=some (.int .i64 (n:Int)):=by rw [← ok.hn];exact q.cell 0 (by decide) _ rfl
 have s2:wc.cell? ⟨g.b,1,none⟩=some (.slice g.A N.l.length g.cA):=q.cell 1 (by decide) _ rfl;have s3:wc.cell? ⟨g.b,2,none⟩=some (.slice g.O N.l.length g.cO):=q.cell 2 (by decide) _ rfl;have hbw:=q.lt;clear q hto hy h HN
 go_wp2_with fail
 have HS:Hid (∀ W,Below wc.heap.size wc W→W.cell? ⟨g.b,0,none⟩=some (.int .i64 (n:Int))∧W.cell? ⟨g.b,1,none⟩=some (.slice g.A N.l.length g.cA)∧W.cell? ⟨g.b,2,none⟩=some (.slice g.O N.l.length g.cO)):=zqh fun W hb=>⟨(hb.cell (p:=⟨g.b,0,none⟩) hbw).trans s1,(hb.cell (p:=⟨g.b,1,none⟩) hbw).trans s2,(hb.cell (p:=⟨g.b,2,none⟩) hbw).trans s3⟩
 refine wp_region_props (n:=_) (PX:=[zqu (.pointer (some ⟨g.b,0,none⟩)),
    zqu (.pointer (some ⟨g.b,0,none⟩)),
    zqu (.pointer (some ⟨g.b,11,none⟩)),
    zqu (.pointer (some ⟨g.b,0,none⟩)),
    zqu (.pointer (some ⟨g.b,0,none⟩)),
    zqu (.pointer (some ⟨g.b,0,none⟩)),
    zqu (.agg #[.int .i64 (n:Int),.slice g.A N.l.length g.cA]),
    zqu (.pointer (some ⟨g.b,0,none⟩)),
    zqu (.pointer (some ⟨g.b,0,none⟩)),
    zqu (.pointer (some ⟨g.b,2,none⟩)),
    zqu (.slice g.O N.l.length g.cO),
    zqu (ratV yn yd)])
   (AL:=[]) (DP:=[[],[0],[1],[],[3],[4],[5],[],[7],[8],[9],[2,6,10]]) (L1:=[0,1,2,3,4,5,6,7,8,9,10,11]) (ex:=[]) (by kernel_rfl) rfl (by kernel_rfl) ?_ ?_ (fin0 ?_)
 ·refine zqg ?_ (zqg ?_ (zqg ?_ (zqg ?_ (zqg ?_ (zqg ?_ (zqg ?_ (zqg ?_ (zqg ?_ (zqg ?_ (zqg ?_ (zqg ?_ zqi)))))))))))
  iterate 12 exact fun _ _ _ _ h _=>h
 ·refine zqg ?_ (zqg ?_ (zqg ?_ (zqg ?_ (zqg ?_ (zqg ?_ (zqg ?_ (zqg ?_ (zqg ?_ (zqg ?_ (zqg ?_ (zqg ?_ zqi)))))))))))
  ·refine zso rfl [] ?_;intro vs W hW hd K hK;clear hd
   try simp only [putsD,Act.put,zqa,zqb,zqc,zqd,zqe,zqf] at hK ⊢
   go_simp
   exact hK.out _ _ rfl (zqr _ _) (zqv rfl)
  ·refine zso rfl [(0,some 7)] ?_;intro vs W hW hd K hK;have d0:vs 0 = .pointer (some ⟨g.b,0,none⟩):=hd 0 (by decide);clear hd
   try simp only [d0,putsD,Act.put,zqa,zqb,zqc,zqd,zqe,zqf] at hK ⊢
   go_simp
   exact hK.out _ _ rfl (zqr _ _) (zqv rfl)
  ·refine zso rfl [(1,some 8)] ?_;intro vs W hW hd K hK;have d1:vs 1 = .pointer (some ⟨g.b,0,none⟩):=hd 1 (by decide);clear hd
   try simp only [d1,putsD,Act.put,zqa,zqb,zqc,zqd,zqe,zqf] at hK ⊢
   obtain ⟨m1,m2,m3⟩:=HS.out W hW
   go_simp
   exact hK.out _ _ rfl (zqr _ _) (zqv rfl)
  ·refine zso rfl [] ?_;intro vs W hW hd K hK;clear hd
   try simp only [putsD,Act.put,zqa,zqb,zqc,zqd,zqe,zqf] at hK ⊢
   go_simp
   exact hK.out _ _ rfl (zqr _ _) (zqv rfl)
  ·refine zso rfl [(3,some 10)] ?_;intro vs W hW hd K hK;have d3:vs 3 = .pointer (some ⟨g.b,0,none⟩):=hd 3 (by decide);clear hd
   try simp only [d3,putsD,Act.put,zqa,zqb,zqc,zqd,zqe,zqf] at hK ⊢
   go_simp
   exact hK.out _ _ rfl (zqr _ _) (zqv rfl)
  ·refine zso rfl [(4,some 11)] ?_;intro vs W hW hd K hK;have d4:vs 4 = .pointer (some ⟨g.b,0,none⟩):=hd 4 (by decide);clear hd
   try simp only [d4,putsD,Act.put,zqa,zqb,zqc,zqd,zqe,zqf] at hK ⊢
   obtain ⟨m1,m2,m3⟩:=HS.out W hW
   go_simp
   exact hK.out _ _ rfl (zqr _ _) (zqv rfl)
  ·refine zso rfl [(5,some 12)] ?_;intro vs W hW hd K hK;have d5:vs 5 = .pointer (some ⟨g.b,0,none⟩):=hd 5 (by decide);clear hd
   try simp only [d5,putsD,Act.put,zqa,zqb,zqc,zqd,zqe,zqf] at hK ⊢
   obtain ⟨m1,m2,m3⟩:=HS.out W hW
   go_simp
   exact hK.out _ _ rfl (zqr _ _) (zqv rfl)
  ·refine zso rfl [] ?_;intro vs W hW hd K hK;clear hd
   try simp only [putsD,Act.put,zqa,zqb,zqc,zqd,zqe,zqf] at hK ⊢
   go_simp
   exact hK.out _ _ rfl (zqr _ _) (zqv rfl)
  ·refine zso rfl [(7,some 14)] ?_;intro vs W hW hd K hK;have d7:vs 7 = .pointer (some ⟨g.b,0,none⟩):=hd 7 (by decide);clear hd
   try simp only [d7,putsD,Act.put,zqa,zqb,zqc,zqd,zqe,zqf] at hK ⊢
   go_simp
   exact hK.out _ _ rfl (zqr _ _) (zqv rfl)
  ·refine zso rfl [(8,some 15)] ?_;intro vs W hW hd K hK;have d8:vs 8 = .pointer (some ⟨g.b,0,none⟩):=hd 8 (by decide);clear hd
   try simp only [d8,putsD,Act.put,zqa,zqb,zqc,zqd,zqe,zqf] at hK ⊢
   obtain ⟨m1,m2,m3⟩:=HS.out W hW
   go_simp
   exact hK.out _ _ rfl (zqr _ _) (zqv rfl)
  ·refine zso rfl [(9,some 16)] ?_;intro vs W hW hd K hK;have d9:vs 9 = .pointer (some ⟨g.b,2,none⟩):=hd 9 (by decide);clear hd
   try simp only [d9,putsD,Act.put,zqa,zqb,zqc,zqd,zqe,zqf] at hK ⊢
   obtain ⟨m1,m2,m3⟩:=HS.out W hW
   go_simp
   exact hK.out _ _ rfl (zqr _ _) (zqv rfl)
  ·refine zso rfl [(2,some 9),(6,some 13),(10,some 17)] ?_;intro vs W hW hd K hK;have d2:vs 2 = .pointer (some ⟨g.b,11,none⟩):=hd 2 (by decide);have d6:vs 6 = .agg #[.int .i64 (n:Int),.slice g.A N.l.length g.cA]:=hd 6 (by decide);have d10:vs 10 = .slice g.O N.l.length g.cO:=hd 10 (by decide);clear hd
   try simp only [d2,d6,d10,putsD,Act.put,zqa,zqb,zqc,zqd,zqe,zqf] at hK ⊢
   go_simp
   go_at_call 67
   (with_reducible first | refine (HTO.out _ hW).mono ?_)
   rintro e w9 ⟨rfl,hb9⟩;exact hK.out _ _ (rfl) hb9 (fun h=>absurd h (by decide))
 refine FinOk.intro [(0,some 7),(1,some 8),(2,some 9),(3,some 10),(4,some 11),(5,some 12),(6,some 13),(7,some 14),(8,some 15),(9,some 16),(10,some 17),(11,some 18)] #[true,true,true,true,true,true,true,true,true,true,true,true,false,false] 2 (by kernel_rfl) (by kernel_rfl) (by kernel_rfl) ?_;intro vs Wf hW0 hd hbk hdis kf;have hW:=zqw hW0;have d0:vs 0 = .pointer (some ⟨g.b,0,none⟩):=hd 0 (by decide);have d1:vs 1 = .pointer (some ⟨g.b,0,none⟩):=hd 1 (by decide);have d2:vs 2 = .pointer (some ⟨g.b,11,none⟩):=hd 2 (by decide);have d3:vs 3 = .pointer (some ⟨g.b,0,none⟩):=hd 3 (by decide);have d4:vs 4 = .pointer (some ⟨g.b,0,none⟩):=hd 4 (by decide);have d5:vs 5 = .pointer (some ⟨g.b,0,none⟩):=hd 5 (by decide);have d6:vs 6 = .agg #[.int .i64 (n:Int),.slice g.A N.l.length g.cA]:=hd 6 (by decide);have d7:vs 7 = .pointer (some ⟨g.b,0,none⟩):=hd 7 (by decide);have d8:vs 8 = .pointer (some ⟨g.b,0,none⟩):=hd 8 (by decide);have d9:vs 9 = .pointer (some ⟨g.b,2,none⟩):=hd 9 (by decide);have d10:vs 10 = .slice g.O N.l.length g.cO:=hd 10 (by decide);have d11:vs 11=ratV yn yd:=hd 11 (by decide);clear hd hbk hdis hW0
 try simp only [d0,d1,d2,d3,d4,d5,d6,d7,d8,d9,d10,d11,putsD,Act.put,zqa,zqb,zqc,zqd,zqe,zqf]
 clear d0 d1 d2 d3 d4 d5 d6 d7 d8 d9 d10 d11 vs;clear HS;have rf:=rowBelow hrr hW;have c0:=rf.cell (i:=0) (by decide);have z0:=rf.frozen 0;have c1:=rf.cell (i:=1) (by decide);have z1:=rf.frozen 1;refine wpAny_one1 12 (by kernel_rfl) rfl (fun K hK=>?_)
 go_simp
 refine hK.out _ _ ?_;clear hK K
 try simp only [putsD,Act.put,zqa,zqb,zqc,zqd,zqe,zqf]
 refine wpAny_one1 13 (by kernel_rfl) rfl (fun K hK=>?_)
 go_simp
 refine hK.out _ _ ?_;clear hK K
 try simp only [putsD,Act.put,zqa,zqb,zqc,zqd,zqe,zqf]
 refine wpAny_end (by kernel_rfl) ?_ _
 all_goals
  have hbf:=zqx hbc hW hbc.size
  try go_wp2
  exact ret_rat_slot (b:=.int .i64 0) rfl yn yd rfl rfl (ratRow (pairRow rf _ _)) rfl ⟨by rw [HY.out],(hbf.setCell (by simp <;> omega) _).setCell (by simp <;> omega) _⟩
end
end Go.Proofs.YtoljkoifgnmbgaaGreatDoor
