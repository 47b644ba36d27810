import Derived.Test.YtoljkoifgnmbgaaGreatDoorVr
set_option linter.unusedSimpArgs false
set_option linter.unusedVariables false
set_option maxRecDepth 100000
set_option maxHeartbeats 4000000
open Go Go.RowKit Cs
namespace Go.Proofs.YtoljkoifgnmbgaaGreatDoor
section
variable {w w1:World} {D E:Nat} {g:Sg} {N:Nt} {n:Nat} {lo hi:List Pr} {tv:Value} {T:List Int} {k:Int}
theorem count_at (h:y6 w D E g N n lo hi tv T k) (ok:SesOk N n lo hi T D) (hT:Tab w) :
  Calls Tryz.prog 24 #[.pointer (some ⟨g.b,0,none⟩)] w fun e w'=>e = .returned (.tuple #[zD ((RL n (qC n T) (qE n T)).sum N),.int .i64 0])∧Below w.heap.size w w':=by
 have hno:=fun W (hb:Below w.heap.size w W)=>zcA (h.below hb) ok.hv;have HN:=za hno;have a1:=zU w #[.string ⟨#[]⟩] 54 w.heap.size 1 rfl rfl;have a2:=(Below.refl w.heap.size w).alloc (zi _) (.cells #[.string ⟨#[]⟩] 54);clear hno;go_enter Tryz.func24, Tryz.ntmps24;go_upto_region 3 with (go_at_call 58;(with_reducible refine (HN.out _ a2).mono ?_);rintro e w9 ⟨rfl,rfl⟩)
 have q:=h.below a2;have hbc:=a2;generalize w.alloc (.cells #[.string ⟨#[]⟩] 54)=wc at *
 have hrr:=a1;have hto:∀ W,Below wc.heap.size wc W→Calls Tryz.prog 66 #[.pointer (some ⟨g.b,5,none⟩),.agg #[.int .i64 (n:Int),.slice g.A N.l.length g.cA],.slice g.O N.l.length g.cO] W fun e w'=>e = .returned (zD ((RL n (qC n T) (qE n T)).sum N))∧Below W.heap.size W w':=fun W hb=>by
  rw [← ok.hn];exact po (q.below hb) ((hT.below hbc).below hb) ok.hv ok.hs ok.hn zek zel rfl _ rfl
 obtain ⟨y,hy⟩:∃ y,(RL n (qC n T) (qE n T)).sum N=y:=⟨_,rfl⟩;rw [hy] at hto;have HY:=za hy;have HTO:=za hto;have s1:wc.cell? ⟨g.b,0,none⟩=some (.int .i64 (n:Int)):=by rw [← ok.hn];exact q.cell 0 (by decide) _ rfl
 have s2:wc.cell? ⟨g.b,1,none⟩=some (.slice g.A N.l.length g.cA):=q.cell 1 (by decide) _ rfl;have s3:wc.cell? ⟨g.b,2,none⟩=some (.slice g.O N.l.length g.cO):=q.cell 2 (by decide) _ rfl;have hbw:=q.lt;clear q hto hy h HN;go_wp2_with fail
 have HS:Hid (∀ W,Below wc.heap.size wc W→W.cell? ⟨g.b,0,none⟩=some (.int .i64 (n:Int))∧W.cell? ⟨g.b,1,none⟩=some (.slice g.A N.l.length g.cA)∧W.cell? ⟨g.b,2,none⟩=some (.slice g.O N.l.length g.cO)):=za fun W hb=>⟨zy hb s1 hbw,zy hb s2 hbw,zy hb s3 hbw⟩;refine yc (n:=_) (PX:=[zc (.pointer (some ⟨g.b,0,none⟩)),
    zc (.pointer (some ⟨g.b,0,none⟩)),
    zc (.pointer (some ⟨g.b,5,none⟩)),
    zc (.pointer (some ⟨g.b,0,none⟩)),
    zc (.pointer (some ⟨g.b,0,none⟩)),
    zc (.pointer (some ⟨g.b,0,none⟩)),
    zc (.agg #[.int .i64 (n:Int),.slice g.A N.l.length g.cA]),
    zc (.pointer (some ⟨g.b,0,none⟩)),
    zc (.pointer (some ⟨g.b,0,none⟩)),
    zc (.pointer (some ⟨g.b,2,none⟩)),
    zc (.slice g.O N.l.length g.cO),
    zc (zD y)])
   (AL:=[]) (DP:=[[],[0],[1],[],[3],[4],[5],[],[7],[8],[9],[2,6,10]]) (L1:=[0,1,2,3,4,5,6,7,8,9,10,11]) (ex:=[]) (by kernel_rfl) rfl (by kernel_rfl) ?_ ?_ (yf ?_)
 ·repeat' first|exact zO|refine ze ?_ ?_|exact fun _ _ _ _ h _=>h
 ·refine ze (zg rfl [] ?_) (ze (zg rfl [(0,some 7)] ?_) (ze (zg rfl [(1,some 8)] ?_) (ze (zg rfl [] ?_) (ze (zg rfl [(3,some 10)] ?_) (ze (zg rfl [(4,some 11)] ?_) (ze (zg rfl [(5,some 12)] ?_) (ze (zg rfl [] ?_) (ze (zg rfl [(7,some 14)] ?_) (ze (zg rfl [(8,some 15)] ?_) (ze (zg rfl [(9,some 16)] ?_) (ze ?_ zO)))))))))));all_goals try (intro vs W hW hd K hK;(try simp only [zR,zc,and_true,List.getD_cons_succ,List.getD_cons_zero] at hd);(first | simp only [hd,zo,Act.put,zx,zw,zv,zm,zl,zk] at hK ⊢ | simp only [zo,Act.put,zx,zw,zv,zm,zl,zk] at hK ⊢ | skip);obtain ⟨m1,m2,m3⟩:=HS.out W hW;go_simp;exact hK.out _ _ rfl (zA _ _) (qS rfl))
  ·refine qo rfl [(2,some 9),(6,some 13),(10,some 17)] ?_;intro vs W hW hd K hK;have d2:vs 2 = .pointer (some ⟨g.b,5,none⟩):=hd 2 (by decide);have d6:vs 6 = .agg #[.int .i64 (n:Int),.slice g.A N.l.length g.cA]:=hd 6 (by decide);have d10:vs 10 = .slice g.O N.l.length g.cO:=hd 10 (by decide);clear hd;try simp only [d2,d6,d10,zo,Act.put,zx,zw,zv,zm,zl,zk] at hK ⊢
   go_simp;go_at_call 66;(with_reducible first | refine (HTO.out _ hW).mono ?_);rintro e w9 ⟨rfl,hb9⟩;exact hK.out _ _ (rfl) hb9 (fun h=>absurd h (by decide))
 refine qT [(0,some 7),(1,some 8),(2,some 9),(3,some 10),(4,some 11),(5,some 12),(6,some 13),(7,some 14),(8,some 15),(9,some 16),(10,some 17),(11,some 18)] #[true,true,true,true,true,true,true,true,true,true,true,true,false,false] 2 ?_;intro vs Wf hW hd hbk hdis kf;simp only [zR,zc,and_true,List.getD_cons_succ,List.getD_cons_zero] at hd;obtain ⟨d0,d1,d2,d3,d4,d5,d6,d7,d8,d9,d10,d11⟩:=hd;clear hbk hdis;try simp only [d0,d1,d2,d3,d4,d5,d6,d7,d8,d9,d10,d11,zo,Act.put,zx,zw,zv,zm,zl,zk]
 clear d0 d1 d2 d3 d4 d5 d6 d7 d8 d9 d10 d11 vs;clear HS;have rf:=zh hrr hW;have c0:=rf.cell (i:=0) (by decide);have z0:=rf.frozen 0;refine qt 12 (by kernel_rfl) rfl (fun K hK=>?_);go_simp;refine hK.out _ _ ?_;clear hK K;try simp only [zo,Act.put,zx,zw,zv,zm,zl,zk]
 refine qt 13 (by kernel_rfl) rfl (fun K hK=>?_);go_simp;refine hK.out _ _ ?_;clear hK K;try simp only [zo,Act.put,zx,zw,zv,zm,zl,zk]
 refine qV (by kernel_rfl) ?_ _;all_goals
  have hbf:=zu hbc hW hbc.size;try go_wp2
  exact zdS (b:=.int .i64 0) rfl y rfl rfl ((rf.set 0 (.string (zb y))).congr fun i hi=>by
   have e:i=0:=by omega
   subst e;rfl) rfl ⟨by rw [HY.out],hbf.setCell (by simp <;> omega) _⟩
theorem xB (h:y6 w D E g N n lo hi tv T k) (ok:SesOk N n lo hi T D) (hT:Tab w) :
  Calls Tryz.prog 25 #[.pointer (some ⟨g.b,0,none⟩)] w fun e w'=>e = .returned (.tuple #[zZ ((RP n (qk n lo T) (qm n hi T)).sum N).1 ((RP n (qk n lo T) (qm n hi T)).sum N).2,.int .i64 0])∧Below w.heap.size w w':=by
 have hno:=fun W (hb:Below w.heap.size w W)=>zcA (h.below hb) ok.hv;have HN:=za hno;have a1:=zU w #[.string ⟨#[]⟩,.string ⟨#[]⟩] 60 w.heap.size 2 rfl rfl;have a2:=(Below.refl w.heap.size w).alloc (zi _) (.cells #[.string ⟨#[]⟩,.string ⟨#[]⟩] 60);clear hno;go_enter Tryz.func25, Tryz.ntmps25;go_upto_region 3 with (go_at_call 58;(with_reducible refine (HN.out _ a2).mono ?_);rintro e w9 ⟨rfl,rfl⟩)
 have q:=h.below a2;have hbc:=a2;generalize w.alloc (.cells #[.string ⟨#[]⟩,.string ⟨#[]⟩] 60)=wc at *
 have hrr:=a1;have hto:∀ W,Below wc.heap.size wc W→Calls Tryz.prog 67 #[.pointer (some ⟨g.b,11,none⟩),.agg #[.int .i64 (n:Int),.slice g.A N.l.length g.cA],.slice g.O N.l.length g.cO] W fun e w'=>e = .returned (zZ ((RP n (qk n lo T) (qm n hi T)).sum N).1 ((RP n (qk n lo T) (qm n hi T)).sum N).2)∧Below W.heap.size W w':=fun W hb=>by
  rw [← ok.hn];exact x5 (q.below hb) ((hT.below hbc).below hb) ok.hv ok.hd ok.hs ok.hn (ok.wok T) (zcU Sp.zero ok.wt.sl) (zcV Sp.zero ok.wt.sh) rfl _ rfl
 obtain ⟨y,hy⟩:∃ y,(RP n (qk n lo T) (qm n hi T)).sum N=y:=⟨_,rfl⟩;rw [hy] at hto;obtain ⟨yn,yd⟩:=y;have HY:=za hy;have HTO:=za hto;have s1:wc.cell? ⟨g.b,0,none⟩=some (.int .i64 (n:Int)):=by rw [← ok.hn];exact q.cell 0 (by decide) _ rfl
 have s2:wc.cell? ⟨g.b,1,none⟩=some (.slice g.A N.l.length g.cA):=q.cell 1 (by decide) _ rfl;have s3:wc.cell? ⟨g.b,2,none⟩=some (.slice g.O N.l.length g.cO):=q.cell 2 (by decide) _ rfl;have hbw:=q.lt;clear q hto hy h HN;go_wp2_with fail
 have HS:Hid (∀ W,Below wc.heap.size wc W→W.cell? ⟨g.b,0,none⟩=some (.int .i64 (n:Int))∧W.cell? ⟨g.b,1,none⟩=some (.slice g.A N.l.length g.cA)∧W.cell? ⟨g.b,2,none⟩=some (.slice g.O N.l.length g.cO)):=za fun W hb=>⟨zy hb s1 hbw,zy hb s2 hbw,zy hb s3 hbw⟩;refine yc (n:=_) (PX:=[zc (.pointer (some ⟨g.b,0,none⟩)),
    zc (.pointer (some ⟨g.b,0,none⟩)),
    zc (.pointer (some ⟨g.b,11,none⟩)),
    zc (.pointer (some ⟨g.b,0,none⟩)),
    zc (.pointer (some ⟨g.b,0,none⟩)),
    zc (.pointer (some ⟨g.b,0,none⟩)),
    zc (.agg #[.int .i64 (n:Int),.slice g.A N.l.length g.cA]),
    zc (.pointer (some ⟨g.b,0,none⟩)),
    zc (.pointer (some ⟨g.b,0,none⟩)),
    zc (.pointer (some ⟨g.b,2,none⟩)),
    zc (.slice g.O N.l.length g.cO),
    zc (zZ yn yd)])
   (AL:=[]) (DP:=[[],[0],[1],[],[3],[4],[5],[],[7],[8],[9],[2,6,10]]) (L1:=[0,1,2,3,4,5,6,7,8,9,10,11]) (ex:=[]) (by kernel_rfl) rfl (by kernel_rfl) ?_ ?_ (yf ?_)
 ·repeat' first|exact zO|refine ze ?_ ?_|exact fun _ _ _ _ h _=>h
 ·refine ze (zg rfl [] ?_) (ze (zg rfl [(0,some 7)] ?_) (ze (zg rfl [(1,some 8)] ?_) (ze (zg rfl [] ?_) (ze (zg rfl [(3,some 10)] ?_) (ze (zg rfl [(4,some 11)] ?_) (ze (zg rfl [(5,some 12)] ?_) (ze (zg rfl [] ?_) (ze (zg rfl [(7,some 14)] ?_) (ze (zg rfl [(8,some 15)] ?_) (ze (zg rfl [(9,some 16)] ?_) (ze ?_ zO)))))))))));all_goals try (intro vs W hW hd K hK;(try simp only [zR,zc,and_true,List.getD_cons_succ,List.getD_cons_zero] at hd);(first | simp only [hd,zo,Act.put,zx,zw,zv,zm,zl,zk] at hK ⊢ | simp only [zo,Act.put,zx,zw,zv,zm,zl,zk] at hK ⊢ | skip);obtain ⟨m1,m2,m3⟩:=HS.out W hW;go_simp;exact hK.out _ _ rfl (zA _ _) (qS rfl))
  ·refine qo rfl [(2,some 9),(6,some 13),(10,some 17)] ?_;intro vs W hW hd K hK;have d2:vs 2 = .pointer (some ⟨g.b,11,none⟩):=hd 2 (by decide);have d6:vs 6 = .agg #[.int .i64 (n:Int),.slice g.A N.l.length g.cA]:=hd 6 (by decide);have d10:vs 10 = .slice g.O N.l.length g.cO:=hd 10 (by decide);clear hd;try simp only [d2,d6,d10,zo,Act.put,zx,zw,zv,zm,zl,zk] at hK ⊢
   go_simp;go_at_call 67;(with_reducible first | refine (HTO.out _ hW).mono ?_);rintro e w9 ⟨rfl,hb9⟩;exact hK.out _ _ (rfl) hb9 (fun h=>absurd h (by decide))
 refine qT [(0,some 7),(1,some 8),(2,some 9),(3,some 10),(4,some 11),(5,some 12),(6,some 13),(7,some 14),(8,some 15),(9,some 16),(10,some 17),(11,some 18)] #[true,true,true,true,true,true,true,true,true,true,true,true,false,false] 2 ?_;intro vs Wf hW hd hbk hdis kf;simp only [zR,zc,and_true,List.getD_cons_succ,List.getD_cons_zero] at hd;obtain ⟨d0,d1,d2,d3,d4,d5,d6,d7,d8,d9,d10,d11⟩:=hd;clear hbk hdis;try simp only [d0,d1,d2,d3,d4,d5,d6,d7,d8,d9,d10,d11,zo,Act.put,zx,zw,zv,zm,zl,zk]
 clear d0 d1 d2 d3 d4 d5 d6 d7 d8 d9 d10 d11 vs;clear HS;have rf:=zh hrr hW;have c0:=rf.cell (i:=0) (by decide);have z0:=rf.frozen 0;have c1:=rf.cell (i:=1) (by decide);have z1:=rf.frozen 1;refine qt 12 (by kernel_rfl) rfl (fun K hK=>?_);go_simp;refine hK.out _ _ ?_;clear hK K;try simp only [zo,Act.put,zx,zw,zv,zm,zl,zk]
 refine qt 13 (by kernel_rfl) rfl (fun K hK=>?_);go_simp;refine hK.out _ _ ?_;clear hK K;try simp only [zo,Act.put,zx,zw,zv,zm,zl,zk]
 refine qV (by kernel_rfl) ?_ _;all_goals
  have hbf:=zu hbc hW hbc.size;try go_wp2
  exact xy (b:=.int .i64 0) rfl yn yd rfl rfl (zdU (yH rf _ _)) rfl ⟨by rw [HY.out],(hbf.setCell (by simp <;> omega) _).setCell (by simp <;> omega) _⟩
end
end Go.Proofs.YtoljkoifgnmbgaaGreatDoor
