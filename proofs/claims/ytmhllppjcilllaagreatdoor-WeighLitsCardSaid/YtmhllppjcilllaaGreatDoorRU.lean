import Derived.Test.YtmhllppjcilllaaGreatDoorRQ
import Derived.Test.YtmhllppjcilllaaGreatDoorKp
import Derived.Test.YtmhllppjcilllaaGreatDoorOw
import Derived.Test.YtmhllppjcilllaaGreatDoorFb
set_option linter.unusedSimpArgs false
set_option linter.unusedVariables false
set_option maxRecDepth 100000
set_option maxHeartbeats 4000000
open Go Go.RowKit Cs
namespace Go.Proofs.YtmhllppjcilllaaGreatDoor
abbrev zS (q:Rat):Value:=.agg #[.string (zc (qn q)),.string (zc q.den)]
theorem zbI (x y m:Nat) (hx:zz x≤m) (hy:zz y≤m) (hm:1≤m):zz (x*y)≤2*m:=by
 unfold zz at *
 have:=jE 10 (by decide) x y;omega
theorem pk (x y m:Nat) (hx:zz x≤m) (hy:zz y≤m):zz (x+y)≤m+1:=by
 have h1:=Nat.lt_of_lt_of_le (zfa x) (Nat.pow_le_pow_right (by decide) hx);have h2:=Nat.lt_of_lt_of_le (zfa y) (Nat.pow_le_pow_right (by decide) hy);refine zec _ _ ?_ (by omega);rw [Nat.pow_succ];omega
theorem zhd:(Tryz.prog.info? 42).map (·.size)=some 2:=by kernel_rfl
theorem zhl {fn:Func} {p q r:Tmp} (h:fn.results=#[.tmp p,.tmp q,.tmp r]) (tmps:Array Value) (P:Program) (w:World) :
  (results fn tmps).run P w = .ok (.tuple #[tmps.getD p undef,tmps.getD q undef,tmps.getD r undef]) w:=by
 simp only [results,h];simp [Sem.run_bind,Result.andThen]
theorem dec1:zc 1=⟨#[49]⟩:=by decide +kernel
theorem zff (x:Nat):((zc x).toList=[49])↔x=1:=by
 constructor
 ·intro h;apply zdv;rw [dec1];exact ByteArray.ext (Array.ext' (by rw [← zbc,h]))
 ·intro h;subst h;rw [dec1,zbc]
theorem zfC {fn:Func} {R:Ending→World→Prop} {a:Act} {w:World} {p:Tmp} (h:fn.results=#[.cell p 42]) {g:Nat} {t:TypeId} {x y:Value}
  (hp:a.tmps.getD p undef = .pointer (some ⟨g,0,none⟩)) (hrow:w.rowIs g t 2 (zy #[x,y])) (hdf:a.defers=[]) (hR:R (.returned (.agg #[x,y])) w):bodyPost Tryz.prog fn R .ret a w :=
 zdX h g t 2 _ hp hrow _ Tryz.underlying42 rfl zhd hdf hR
theorem zbd {fn:Func} {R:Ending→World→Prop} {a:Act} {w:World} {p u:Tmp} (h:fn.results=#[.cell p 42,.tmp u]) {g:Nat} {t:TypeId} {x y b:Value}
  (hp:a.tmps.getD p undef = .pointer (some ⟨g,0,none⟩)) (hb:a.tmps.getD u undef=b) (hrow:w.rowIs g t 2 (zy #[x,y])) (hdf:a.defers=[]) (hR:R (.returned (.tuple #[.agg #[x,y],b])) w):bodyPost Tryz.prog fn R .ret a w:=by
 refine bodyPost_ret (v:=.tuple #[.agg #[x,y],b]) ?_ hdf hR;rw [results_cell_tmp h,hp];have hl:=run_loadVar_row (P:=Tryz.prog) w g t 42 _ (0,0) _ (jk hrow) Tryz.underlying42 rfl (by simpa using zhd);simp [asAddr,Result.andThen,hl,hb];rfl
theorem jt (w:World):Calls Tryz.prog 37 #[] w fun e w'=>e = .returned (.agg #[.string (zc 0),.string (zc 1)])∧Below w.heap.size w w':=by
 have hr:=zF w #[.string ⟨#[]⟩,.string ⟨#[]⟩] 42 w.heap.size 2 rfl rfl;have hb:=(Below.refl w.heap.size w).alloc (zu _) (.cells #[.string ⟨#[]⟩,.string ⟨#[]⟩] 42);have y1:=hr.frozen 0;have y2:=hr.frozen 1;have z1:(w.alloc (.cells #[.string ⟨#[]⟩,.string ⟨#[]⟩] 42)).cell? ⟨w.heap.size,0,none⟩=some (.string ⟨#[]⟩):=hr.cell (i:=0) (by decide);have z2:(w.alloc (.cells #[.string ⟨#[]⟩,.string ⟨#[]⟩] 42)).cell? ⟨w.heap.size,1,none⟩=some (.string ⟨#[]⟩):=hr.cell (i:=1) (by decide);go_enter Tryz.func37, Tryz.ntmps37;go_wp2;refine zfC rfl rfl (zF w _ _ _ 2 rfl rfl) rfl ⟨?_,(Below.refl w.heap.size w).alloc (zu _) _⟩;rw [pU,dec1]
theorem ziV (w:World) (a b:Nat) (ha:zz a≤1000000) (hb:zz b≤1000000) (h0:0<b) :
  Calls Tryz.prog 108 #[.string (zc a),.string (zc b)] w fun e w'=>e = .returned (.tuple #[zS (qq a b),.bool true])∧Below w.heap.size w w':=by
 have hg0:0<Nat.gcd a b:=Nat.gcd_pos_of_pos_right a h0;have hgN:zz (Nat.gcd a b)≤1000000:=Nat.le_trans (oU (Nat.le_of_dvd h0 (Nat.gcd_dvd_right a b))) hb;have hgc:=fun W=>rgcd_any W a b ha hb;have hd1:=fun W=>zgn W a (Nat.gcd a b) ha hgN hg0;have hd2:=fun W=>zgn W b (Nat.gcd a b) hb hgN hg0;have e1:qn (qq a b)=a / Nat.gcd a b:=by rw [y8,qM h0]
 have e2:(qq a b).den=b / Nat.gcd a b:=by rw [zhD,qM h0]
 unfold zS;rw [e1,e2];have hbz:((zc b).toList==[48])=false:=beq_eq_false_iff_ne.2 fun e=>by
  have:b=0:=zdv (by rw [pU];exact ByteArray.ext (Array.ext' (by rw [← zbc,e])));omega
 have q0:=(Kp.nil w).new #[.string ⟨#[]⟩,.string ⟨#[]⟩] 42 w.heap.size 2 rfl rfl;have y1:=(q0.row 0 rfl).frozen 0;have y2:=(q0.row 0 rfl).frozen 1;have z1:World.cell? _ ⟨w.heap.size,0,none⟩=some (.string ⟨#[]⟩):=(q0.row 0 rfl).cell (i:=0) (by decide);have z2:World.cell? _ ⟨w.heap.size,1,none⟩=some (.string ⟨#[]⟩):=(q0.row 0 rfl).cell (i:=1) (by decide);obtain ⟨G,hG⟩:∃ G,Nat.gcd a b=G:=⟨_,rfl⟩;simp only [hG] at hgc hd1 hd2 ⊢;obtain ⟨x,hx⟩:∃ x,a / G=x:=⟨_,rfl⟩;obtain ⟨y,hy⟩:∃ y,b / G=y:=⟨_,rfl⟩;simp only [hx] at hd1 ⊢;simp only [hy] at hd2 ⊢;have HGC:=zb hgc;have HD1:=zb hd1;have HD2:=zb hd2;have Q0:=zb q0;clear hgc hd1 hd2 q0 hx hy hG e1 e2 hg0 hgN ha hb h0;go_enter Tryz.func108, Tryz.ntmps108;go_wp2_with (first
  | (go_at_call 146;(with_reducible refine (HGC.out _).mono ?_);rintro e w1 ⟨rfl,hb1⟩;have Q1:=zb (Q0.out.below hb1);clear hb1 Q0)
  | (go_at_call 147;(with_reducible refine (HD1.out _).mono ?_);rintro e w2 ⟨rfl,hb2⟩;have Q2:=zb (Q1.out.below hb2);clear hb2 Q1)
  | (go_at_call 147;(with_reducible refine (HD2.out _).mono ?_);rintro e w3 ⟨rfl,hb3⟩;have Q3:=zb (Q2.out.below hb3);clear hb3 Q2;clear y1 y2 z1 z2;have y1:=(Q3.out.row 0 rfl).frozen 0;have y2:=(Q3.out.row 0 rfl).frozen 1;have z1:World.cell? _ ⟨w.heap.size,0,none⟩=some (.string ⟨#[]⟩):=(Q3.out.row 0 rfl).cell (i:=0) (by decide);have z2:World.cell? _ ⟨w.heap.size,1,none⟩=some (.string ⟨#[]⟩):=(Q3.out.row 0 rfl).cell (i:=1) (by decide)))
 exact zbd rfl rfl rfl (qx (Q3.out.row 0 rfl) _ _) rfl ⟨rfl,jv Q3.out.bl (zu _) _ _⟩
theorem rof02 (w:World) (a b:Nat) (ha:a<18446744073709551616) (hb:b<18446744073709551616) (h0:0<b) :
  Calls Tryz.prog 57 #[.int .u64 a,.int .u64 b] w fun e w'=>e = .returned (.tuple #[zS (qq a b),.bool true])∧Below w.heap.size w w':=by
 have d20:∀ x,x<18446744073709551616→zz x≤1000000:=fun x hx=>Nat.le_trans (zec x 20 (Nat.lt_of_lt_of_le hx (by decide)) (by decide)) (by decide);have ho1:=fun W=>zid W a ha;have ho2:=fun W=>zid W b hb;have hnw:=fun W=>ziV W a b (d20 a ha) (d20 b hb) h0;have q0:=(Kp.nil w).new #[.string ⟨#[]⟩,.string ⟨#[]⟩] 42 w.heap.size 2 rfl rfl;have y1:=(q0.row 0 rfl).frozen 0;have y2:=(q0.row 0 rfl).frozen 1;have z1:World.cell? _ ⟨w.heap.size,0,none⟩=some (.string ⟨#[]⟩):=(q0.row 0 rfl).cell (i:=0) (by decide);have z2:World.cell? _ ⟨w.heap.size,1,none⟩=some (.string ⟨#[]⟩):=(q0.row 0 rfl).cell (i:=1) (by decide);generalize qn (qq a b)=x at *
 generalize (qq a b).den=y at *
 have HO1:=zb ho1;have HO2:=zb ho2;have HNW:=zb hnw;have Q0:=zb q0;clear ho1 ho2 hnw q0 d20 ha hb h0;go_enter Tryz.func57, Tryz.ntmps57;go_wp2_with (first
  | (go_at_call 109;(with_reducible refine (HO1.out _).mono ?_);rintro e w1 ⟨rfl,hb1⟩;have Q1:=zb (Q0.out.below hb1);clear hb1 Q0)
  | (go_at_call 109;(with_reducible refine (HO2.out _).mono ?_);rintro e w2 ⟨rfl,hb2⟩;have Q2:=zb (Q1.out.below hb2);clear hb2 Q1)
  | (go_at_call 108;(with_reducible refine (HNW.out _).mono ?_);rintro e w3 ⟨rfl,hb3⟩;have Q3:=zb (Q2.out.below hb3);clear hb3 Q2;clear y1 y2 z1 z2;have y1:=(Q3.out.row 0 rfl).frozen 0;have y2:=(Q3.out.row 0 rfl).frozen 1;have z1:World.cell? _ ⟨w.heap.size,0,none⟩=some (.string ⟨#[]⟩):=(Q3.out.row 0 rfl).cell (i:=0) (by decide);have z2:World.cell? _ ⟨w.heap.size,1,none⟩=some (.string ⟨#[]⟩):=(Q3.out.row 0 rfl).cell (i:=1) (by decide)))
 exact zbd rfl rfl rfl (qx (Q3.out.row 0 rfl) _ _) rfl ⟨rfl,jv Q3.out.bl (zu _) _ _⟩
theorem rtext02 (w:World) (q:Rat) (h1:zz (qn q)≤1000000) (h2:zz q.den≤1000000) :
  Calls Tryz.prog 58 #[zS q] w fun e w'=>e = .returned (.string (zgp q))∧Below w.heap.size w w':=by
 have hq:zgp q=if q.den=1 then zc (qn q) else zc (qn q)++⟨#[47]⟩++zc q.den:=rfl
 obtain ⟨R,hR⟩:∃ R,zgp q=R:=⟨_,rfl⟩;rw [hR] at hq ⊢;obtain ⟨a,ha⟩:∃ a,qn q=a:=⟨_,rfl⟩;obtain ⟨b,hb⟩:∃ a,q.den=a:=⟨_,rfl⟩;rw [ha,hb] at hq;unfold zS;rw [ha] at h1 ⊢;rw [hb] at h2 ⊢;have z1:(zc a).size≤1000000:=by rw [qS];exact h1
 have z2:(zc b).size≤1000000:=by rw [qS];exact h2
 have l1:¬ 9223372036854775807<(zc a).size+1:=by omega
 have l2:¬ 9223372036854775807<(zc a).size+1+(zc b).size:=by omega
 have q0:=(Kp.nil w).new #[.string (zc a),.string (zc b)] 42 w.heap.size 2 rfl rfl;have s1:World.cell? _ ⟨w.heap.size,0,none⟩=some (.string (zc a)):=(q0.row 0 rfl).cell (i:=0) (by decide);have s2:World.cell? _ ⟨w.heap.size,1,none⟩=some (.string (zc b)):=(q0.row 0 rfl).cell (i:=1) (by decide);have HR:=zb hq;have Q0:=zb q0;clear hq q0 hR ha hb h1 h2;by_cases hy1:b=1
 ·have hyb:((zc b).toList==[49])=true:=beq_iff_eq.2 ((zff b).2 hy1);have HY:=zb hy1;clear hy1;go_enter Tryz.func58, Tryz.ntmps58;go_wp2;go_ret;exact ⟨by rw [HR.out,if_pos HY.out];rfl,Q0.out.bl⟩
 ·have hyb:((zc b).toList==[49])=false:=beq_eq_false_iff_ne.2 fun e=>hy1 ((zff b).1 e);have HY:=zb hy1;clear hy1;go_enter Tryz.func58, Tryz.ntmps58;go_wp2;go_ret;exact ⟨by rw [HR.out,if_neg HY.out];rfl,Q0.out.bl⟩
theorem rover02 (w:World) (a b c d:Nat) (ha:zz a≤400000) (hb:zz b≤400000) (hc:zz c≤400000) (hd:zz d≤400000) :
  Calls Tryz.prog 143 #[.agg #[.string (zc a),.string (zc b)],.agg #[.string (zc c),.string (zc d)]] w fun e w'=>e = .returned (.tuple #[.string (zc (a*d)),.string (zc (c*b)),.string (zc (b*d))])∧Below w.heap.size w w':=by
 have hm1:=fun W=>zbJ W a d (by omega) (by omega);have hm2:=fun W=>zbJ W c b (by omega) (by omega);have hm3:=fun W=>zbJ W b d (by omega) (by omega);have q0:=(Kp.nil w).new #[.string (zc a),.string (zc b)] 42 w.heap.size 2 rfl rfl;have q1:=q0.new #[.string (zc c),.string (zc d)] 42 (w.heap.size+1) 2 (by simp) rfl;have s1:World.cell? _ ⟨w.heap.size,0,none⟩=some (.string (zc a)):=(q1.row 1 rfl).cell (i:=0) (by decide);have s2:World.cell? _ ⟨w.heap.size,1,none⟩=some (.string (zc b)):=(q1.row 1 rfl).cell (i:=1) (by decide);have s3:World.cell? _ ⟨w.heap.size+1,0,none⟩=some (.string (zc c)):=(q1.row 0 rfl).cell (i:=0) (by decide);have s4:World.cell? _ ⟨w.heap.size+1,1,none⟩=some (.string (zc d)):=(q1.row 0 rfl).cell (i:=1) (by decide);obtain ⟨m1,e1⟩:∃ m,a*d=m:=⟨_,rfl⟩;obtain ⟨m2,e2⟩:∃ m,c*b=m:=⟨_,rfl⟩;obtain ⟨m3,e3⟩:∃ m,b*d=m:=⟨_,rfl⟩;rw [e1,e2,e3];simp only [e1] at hm1;simp only [e2] at hm2;simp only [e3] at hm3;have H1:=zb hm1;have H2:=zb hm2;have H3:=zb hm3;have BL:=zb q1.bl;clear hm1 hm2 hm3 e1 e2 e3 ha hb hc hd q0 q1;go_enter Tryz.func143, Tryz.ntmps143;go_upto_region 1 with (fail)
 obtain ⟨V,hV⟩:∃ V,((w.alloc (.cells #[.string (zc a),.string (zc b)] 42)).alloc (.cells #[.string (zc c),.string (zc d)] 42))=V:=⟨_,rfl⟩;obtain ⟨b2,hb2⟩:∃ b,w.heap.size=b:=⟨_,rfl⟩;obtain ⟨b3,hb3⟩:∃ b,w.heap.size+1=b:=⟨_,rfl⟩;have h2:b2≠b3:=by omega
 have g2:=World.block_lt_of_cell? _ _ s1;have g3:=World.block_lt_of_cell? _ _ s3;rw [hV] at s1 s2 s3 s4 g2 g3 BL ⊢;simp only [hb3] at s3 s4 g3 ⊢;simp only [hb2] at s1 s2 g2 ⊢;clear hV hb2 hb3 h2;have HS:Hid (∀ W,Below V.heap.size V W→W.cell? ⟨b2,0,none⟩=some (.string (zc a))∧W.cell? ⟨b2,1,none⟩=some (.string (zc b))∧W.cell? ⟨b3,0,none⟩=some (.string (zc c))∧W.cell? ⟨b3,1,none⟩=some (.string (zc d))):=zb fun W hb=>⟨zC hb s1 g2,zC hb s2 g2,zC hb s3 g3,zC hb s4 g3⟩;refine yx (n:=_) (PX:=[zl (.pointer (some ⟨b2,0,none⟩)),
    zl (.string (zc a)),
    zl (.pointer (some ⟨b3,1,none⟩)),
    zl (.string (zc d)),
    zl (.string (zc m1)),
    zl (.pointer (some ⟨b3,0,none⟩)),
    zl (.string (zc c)),
    zl (.pointer (some ⟨b2,1,none⟩)),
    zl (.string (zc b)),
    zl (.string (zc m2)),
    zl (.pointer (some ⟨b2,1,none⟩)),
    zl (.string (zc b)),
    zl (.pointer (some ⟨b3,1,none⟩)),
    zl (.string (zc d)),
    zl (.string (zc m3)),
    zl (.string (zc m1)),
    zl (.string (zc m2)),
    zl (.string (zc m3))])
   (AL:=[]) (DP:=[[],[0],[],[2],[1,3],[],[5],[],[7],[6,8],[],[10],[],[12],[11,13],[4],[9],[14]]) (L1:=[0,1,2,3,4,5,6,7,8,9,10,11,12,13,14,15,16,17]) (ex:=[]) (by kernel_rfl) rfl (by kernel_rfl) ?_ ?_ (yH ?_)
 ·repeat' first|exact zW|refine zk ?_ ?_|exact fun _ _ _ _ h _=>h
 ·refine zk (zv rfl [] ?_) (zk (zv rfl [(0,some 7)] ?_) (zk (zv rfl [] ?_) (zk (zv rfl [(2,some 9)] ?_) (zk ?_ (zk (zv rfl [] ?_) (zk (zv rfl [(5,some 12)] ?_) (zk (zv rfl [] ?_) (zk (zv rfl [(7,some 14)] ?_) (zk ?_ (zk (zv rfl [] ?_) (zk (zv rfl [(10,some 17)] ?_) (zk (zv rfl [] ?_) (zk (zv rfl [(12,some 19)] ?_) (zk ?_ (zk (zv rfl [(4,some 11)] ?_) (zk (zv rfl [(9,some 16)] ?_) (zk (zv rfl [(14,some 21)] ?_) zW)))))))))))))))));all_goals try (intro vs W hW hd K hK;(try simp only [qa,zl,and_true,List.getD_cons_succ,List.getD_cons_zero] at hd);(first | simp only [hd,zm,Act.put,zj,zi,zh,zg,zf,ze] at hK ⊢ | simp only [zm,Act.put,zj,zi,zh,zg,zf,ze] at hK ⊢ | skip);obtain ⟨m1,m2,m3,m4⟩:=HS.out W hW;go_simp;exact hK.out _ _ rfl (zx _ _) (qU rfl))
  ·refine zJ rfl [(1,some 8),(3,some 10)] ?_;intro vs W hW hd K hK;have d1:vs 1 = .string (zc a):=hd 1 (by decide);have d3:vs 3 = .string (zc d):=hd 3 (by decide);clear hd;try simp only [d1,d3,zm,Act.put,zj,zi,zh,zg,zf,ze] at hK ⊢
   go_simp;go_at_call 115;(with_reducible first | refine (H1.out _).mono ?_);rintro e w9 ⟨rfl,hb9⟩;exact hK.out _ _ (rfl) hb9 (fun h=>absurd h (by decide))
  ·refine zJ rfl [(6,some 13),(8,some 15)] ?_;intro vs W hW hd K hK;have d6:vs 6 = .string (zc c):=hd 6 (by decide);have d8:vs 8 = .string (zc b):=hd 8 (by decide);clear hd;try simp only [d6,d8,zm,Act.put,zj,zi,zh,zg,zf,ze] at hK ⊢
   go_simp;go_at_call 115;(with_reducible first | refine (H2.out _).mono ?_);rintro e w9 ⟨rfl,hb9⟩;exact hK.out _ _ (rfl) hb9 (fun h=>absurd h (by decide))
  ·refine zJ rfl [(11,some 18),(13,some 20)] ?_;intro vs W hW hd K hK;have d11:vs 11 = .string (zc b):=hd 11 (by decide);have d13:vs 13 = .string (zc d):=hd 13 (by decide);clear hd;try simp only [d11,d13,zm,Act.put,zj,zi,zh,zg,zf,ze] at hK ⊢
   go_simp;go_at_call 115;(with_reducible first | refine (H3.out _).mono ?_);rintro e w9 ⟨rfl,hb9⟩;exact hK.out _ _ (rfl) hb9 (fun h=>absurd h (by decide))
 refine qQ [(0,some 7),(1,some 8),(2,some 9),(3,some 10),(4,some 11),(5,some 12),(6,some 13),(7,some 14),(8,some 15),(9,some 16),(10,some 17),(11,some 18),(12,some 19),(13,some 20),(14,some 21),(15,some 4),(16,some 5),(17,some 6)] #[true,true,true,true,true,true,true,true,true,true,true,true,true,true,true,true,true,true] 0 ?_;intro vs Wf hW hd hbk hdis kf;simp only [qa,zl,and_true,List.getD_cons_succ,List.getD_cons_zero] at hd;obtain ⟨d0,d1,d2,d3,d4,d5,d6,d7,d8,d9,d10,d11,d12,d13,d14,d15,d16,d17⟩:=hd;clear hbk hdis;try simp only [d0,d1,d2,d3,d4,d5,d6,d7,d8,d9,d10,d11,d12,d13,d14,d15,d16,d17,zm,Act.put,zj,zi,zh,zg,zf,ze]
 clear d0 d1 d2 d3 d4 d5 d6 d7 d8 d9 d10 d11 d12 d13 d14 d15 d16 d17 vs;clear HS;refine qc (by kernel_rfl) ?_ _;all_goals
  try go_wp2
  exact bodyPost_ret (zhl rfl _ _ _) rfl ⟨rfl,zw BL.out hW BL.out.size⟩
theorem radd02 (w:World) (p q:Rat) (hp:0≤p) (hq:0≤q) (d1:zz (qn p)≤400000) (d2:zz p.den≤400000) (d3:zz (qn q)≤400000) (d4:zz q.den≤400000) :
  Calls Tryz.prog 105 #[zS p,zS q] w fun e w'=>e = .returned (zS (p+q))∧Below w.heap.size w w':=by
 have e0:qq (qn p*q.den+qn q*p.den) (p.den*q.den)=p+q:=by
  have:=zfH (qn p) p.den (qn q) q.den;rwa [qM p.den_pos,qM q.den_pos,js hp,js hq] at this
 have k1:=zbI _ _ 400000 d1 d4 (by decide);have k2:=zbI _ _ 400000 d3 d2 (by decide);have k3:=zbI _ _ 400000 d2 d4 (by decide);have k4:zz (qn p*q.den+qn q*p.den)≤800001:=pk _ _ 800000 (by omega) (by omega);have hov:=fun W=>rover02 W (qn p) p.den (qn q) q.den d1 d2 d3 d4;have hpl:=fun W=>zeu W (qn p*q.den) (qn q*p.den) (by omega) (by omega);have hnw:=fun W=>ziV W (qn p*q.den+qn q*p.den) (p.den*q.den) (by omega) (by omega) (Nat.mul_pos p.den_pos q.den_pos);rw [e0] at hnw;unfold zS at hnw ⊢;generalize p.den*q.den=m3 at *
 generalize qn p*q.den=m1 at *
 generalize qn q*p.den=m2 at *
 generalize qn (p+q)=x at *
 generalize (p+q).den=y at *
 generalize qn p=a at *
 generalize p.den=b at *
 generalize qn q=c at *
 generalize q.den=d at *
 have q0:=(Kp.nil w).new #[.string (zc a),.string (zc b)] 42 w.heap.size 2 rfl rfl;have q1:=q0.new #[.string (zc c),.string (zc d)] 42 (w.heap.size+1) 2 (by simp) rfl;have q2:=q1.new #[.string ⟨#[]⟩,.string ⟨#[]⟩] 42 (w.heap.size+1+1) 2 (by simp) rfl;have s1:World.cell? _ ⟨w.heap.size,0,none⟩=some (.string (zc a)):=(q2.row 2 rfl).cell (i:=0) (by decide);have s2:World.cell? _ ⟨w.heap.size,1,none⟩=some (.string (zc b)):=(q2.row 2 rfl).cell (i:=1) (by decide);have s3:World.cell? _ ⟨w.heap.size+1,0,none⟩=some (.string (zc c)):=(q2.row 1 rfl).cell (i:=0) (by decide);have s4:World.cell? _ ⟨w.heap.size+1,1,none⟩=some (.string (zc d)):=(q2.row 1 rfl).cell (i:=1) (by decide);have y1:=(q2.row 0 rfl).frozen 0;have y2:=(q2.row 0 rfl).frozen 1;have z1:World.cell? _ ⟨w.heap.size+1+1,0,none⟩=some (.string ⟨#[]⟩):=(q2.row 0 rfl).cell (i:=0) (by decide);have z2:World.cell? _ ⟨w.heap.size+1+1,1,none⟩=some (.string ⟨#[]⟩):=(q2.row 0 rfl).cell (i:=1) (by decide);have HOV:=zb hov;have HPL:=zb hpl;have HNW:=zb hnw;have Q0:=zb q2;clear hov hpl hnw q0 q1 q2 e0 k1 k2 k3 k4 d1 d2 d3 d4 hp hq;go_enter Tryz.func105, Tryz.ntmps105;go_wp2_with (first
  | (go_at_call 143;(with_reducible refine (HOV.out _).mono ?_);rintro e w1 ⟨rfl,hb1⟩;have Q1:=zb (Q0.out.below hb1);clear hb1 Q0)
  | (go_at_call 144;(with_reducible refine (HPL.out _).mono ?_);rintro e w2 ⟨rfl,hb2⟩;have Q2:=zb (Q1.out.below hb2);clear hb2 Q1)
  | (go_at_call 108;(with_reducible refine (HNW.out _).mono ?_);rintro e w3 ⟨rfl,hb3⟩;have Q3:=zb ((Q2.out.below hb3).alloc (.cells #[.string (zc x),.string (zc y)] 42));clear hb3 Q2;clear y1 y2 z1 z2 s1 s2 s3 s4;have y1:=(Q3.out.row 0 rfl).frozen 0;have y2:=(Q3.out.row 0 rfl).frozen 1;have z1:World.cell? _ ⟨w.heap.size+1+1,0,none⟩=some (.string ⟨#[]⟩):=(Q3.out.row 0 rfl).cell (i:=0) (by decide);have z2:World.cell? _ ⟨w.heap.size+1+1,1,none⟩=some (.string ⟨#[]⟩):=(Q3.out.row 0 rfl).cell (i:=1) (by decide)))
 exact zfC rfl rfl (qx (Q3.out.row 0 rfl) _ _) rfl ⟨rfl,jv Q3.out.bl (by omega) _ _⟩
theorem rmul02 (w:World) (p q:Rat) (hp:0≤p) (hq:0≤q) (d1:zz (qn p)≤400000) (d2:zz p.den≤400000) (d3:zz (qn q)≤400000) (d4:zz q.den≤400000) :
  Calls Tryz.prog 104 #[zS p,zS q] w fun e w'=>e = .returned (zS (p*q))∧Below w.heap.size w w':=by
 have e0:qq (qn p*qn q) (p.den*q.den)=p*q:=by
  have:=zhn (qn p) p.den (qn q) q.den;rwa [qM p.den_pos,qM q.den_pos,js hp,js hq] at this
 have k1:=zbI _ _ 400000 d1 d3 (by decide);have k2:=zbI _ _ 400000 d2 d4 (by decide);have hm1:=fun W=>zbJ W (qn p) (qn q) (by omega) (by omega);have hm2:=fun W=>zbJ W p.den q.den (by omega) (by omega);have hm3:=fun W=>ziV W (qn p*qn q) (p.den*q.den) (by omega) (by omega) (Nat.mul_pos p.den_pos q.den_pos);rw [e0] at hm3;unfold zS at hm3 ⊢;generalize qn p*qn q=m1 at *
 generalize p.den*q.den=m2 at *
 generalize qn (p*q)=x at *
 generalize (p*q).den=y at *
 generalize qn p=a at *
 generalize p.den=b at *
 generalize qn q=c at *
 generalize q.den=d at *
 have q0:=(Kp.nil w).new #[.string (zc a),.string (zc b)] 42 w.heap.size 2 rfl rfl;have q1:=q0.new #[.string (zc c),.string (zc d)] 42 (w.heap.size+1) 2 (by simp) rfl;have q2:=q1.new #[.string ⟨#[]⟩,.string ⟨#[]⟩] 42 (w.heap.size+1+1) 2 (by simp) rfl;have s1:World.cell? _ ⟨w.heap.size,0,none⟩=some (.string (zc a)):=(q2.row 2 rfl).cell (i:=0) (by decide);have s2:World.cell? _ ⟨w.heap.size,1,none⟩=some (.string (zc b)):=(q2.row 2 rfl).cell (i:=1) (by decide);have s3:World.cell? _ ⟨w.heap.size+1,0,none⟩=some (.string (zc c)):=(q2.row 1 rfl).cell (i:=0) (by decide);have s4:World.cell? _ ⟨w.heap.size+1,1,none⟩=some (.string (zc d)):=(q2.row 1 rfl).cell (i:=1) (by decide);have H1:=zb hm1;have H2:=zb hm2;have H3:=zb hm3;have Q2:=zb q2;clear hm1 hm2 hm3 e0 k1 k2 d1 d2 d3 d4 hp hq q0 q1 q2;go_enter Tryz.func104, Tryz.ntmps104;go_upto_region 1 with (fail)
 obtain ⟨V,hV⟩:∃ V,((w.alloc (.cells #[.string (zc a),.string (zc b)] 42)).alloc (.cells #[.string (zc c),.string (zc d)] 42)).alloc (.cells #[.string ⟨#[]⟩,.string ⟨#[]⟩] 42)=V:=⟨_,rfl⟩;obtain ⟨b2,hb2⟩:∃ b,w.heap.size=b:=⟨_,rfl⟩;obtain ⟨b3,hb3⟩:∃ b,w.heap.size+1=b:=⟨_,rfl⟩;have h2:b2≠b3:=by omega
 obtain ⟨b4,hb4⟩:∃ b,w.heap.size+1+1=b:=⟨_,rfl⟩;have g2:=World.block_lt_of_cell? _ _ s1;have g3:=World.block_lt_of_cell? _ _ s3;rw [hV] at s1 s2 s3 s4 g2 g3 Q2 ⊢;simp only [hb4];simp only [hb3] at s3 s4 g3 ⊢;simp only [hb2] at s1 s2 g2 ⊢;clear hV hb3 h2;have HS:Hid (∀ W,Below V.heap.size V W→W.cell? ⟨b2,0,none⟩=some (.string (zc a))∧W.cell? ⟨b2,1,none⟩=some (.string (zc b))∧W.cell? ⟨b3,0,none⟩=some (.string (zc c))∧W.cell? ⟨b3,1,none⟩=some (.string (zc d))):=zb fun W hb=>⟨zC hb s1 g2,zC hb s2 g2,zC hb s3 g3,zC hb s4 g3⟩;refine zd2 (n:=_) (PX:=[zl (.pointer (some ⟨b2,0,none⟩)),
    zl (.string (zc a)),
    zl (.pointer (some ⟨b3,0,none⟩)),
    zl (.string (zc c)),
    zl (.string (zc m1)),
    zl (.pointer (some ⟨b2,1,none⟩)),
    zl (.string (zc b)),
    zl (.pointer (some ⟨b3,1,none⟩)),
    zl (.string (zc d)),
    zl (.string (zc m2)),
    zl (.tuple #[.agg #[.string (zc x),.string (zc y)],.bool true]),
    zl (.tuple #[.agg #[.string (zc x),.string (zc y)],.bool true]),
    zl (.agg #[.string (zc x),.string (zc y)]),
    zl (.bool true),
    fun xl xv xw=>∃ X,xv = .pointer (some ⟨X,0,none⟩)∧V.heap.size≤X∧World.rowIs xw X 42 2 (zy #[.string ⟨#[]⟩,.string ⟨#[]⟩]),
    fun xl xv xw=>xv=xl.headD undef∧∃ X,xv = .pointer (some ⟨X,0,none⟩)∧V.heap.size≤X∧World.rowIs xw X 42 2 (zy #[.string (zc x),.string (zc y)]),
    zl (.bool true)])
   (AL:=[14,15]) (KL:=[(15,14)]) (DP:=[[],[0],[],[2],[1,3],[],[5],[],[7],[6,8],[4,9],[10],[11],[11],[],[14,12],[13]]) (L1:=[0,1,2,3,4,5,6,7,8,9,10,11,12,13,14,15,16]) (ex:=[]) (by kernel_rfl) rfl (by kernel_rfl) (by kernel_rfl) ?_ ?_ ?_ (fun bs hbs=>?_)
 ·intro i hi
  match i,hi with
  | 0,hi=>exact fun _ _ _ _ h=>h
  | 1,hi=>exact fun _ _ _ _ h=>h
  | 2,hi=>exact fun _ _ _ _ h=>h
  | 3,hi=>exact fun _ _ _ _ h=>h
  | 4,hi=>exact fun _ _ _ _ h=>h
  | 5,hi=>exact fun _ _ _ _ h=>h
  | 6,hi=>exact fun _ _ _ _ h=>h
  | 7,hi=>exact fun _ _ _ _ h=>h
  | 8,hi=>exact fun _ _ _ _ h=>h
  | 9,hi=>exact fun _ _ _ _ h=>h
  | 10,hi=>exact fun _ _ _ _ h=>h
  | 11,hi=>exact fun _ _ _ _ h=>h
  | 12,hi=>exact fun _ _ _ _ h=>h
  | 13,hi=>exact fun _ _ _ _ h=>h
  | 14,hi=>exact absurd hi (by decide)
  | 15,hi=>exact absurd hi (by decide)
  | 16,hi=>exact fun _ _ _ _ h=>h
  | i+17,_=>exact fun _ _ _ _ _=>trivial
 ·intro i hi
  match i,hi with
  | 0,hi=>exact absurd hi (by decide)
  | 1,hi=>exact absurd hi (by decide)
  | 2,hi=>exact absurd hi (by decide)
  | 3,hi=>exact absurd hi (by decide)
  | 4,hi=>exact absurd hi (by decide)
  | 5,hi=>exact absurd hi (by decide)
  | 6,hi=>exact absurd hi (by decide)
  | 7,hi=>exact absurd hi (by decide)
  | 8,hi=>exact absurd hi (by decide)
  | 9,hi=>exact absurd hi (by decide)
  | 10,hi=>exact absurd hi (by decide)
  | 11,hi=>exact absurd hi (by decide)
  | 12,hi=>exact absurd hi (by decide)
  | 13,hi=>exact absurd hi (by decide)
  | 14,hi=>exact fun l v w w2 h _ hb=>by obtain ⟨X,h1,h2,h3⟩:=h;subst h1;exact ⟨X,rfl,h2,zgi h3 hb⟩
  | 15,hi=>exact fun l v w w2 h _ hb=>by obtain ⟨h0,X,h1,h2,h3⟩:=h;subst h1;exact ⟨h0,X,rfl,h2,zgi h3 hb⟩
  | 16,hi=>exact absurd hi (by decide)
  | i+17,_=>exact fun _ _ _ _ _ _ _=>trivial
 ·refine zk ?_ (zk ?_ (zk ?_ (zk ?_ (zk ?_ (zk ?_ (zk ?_ (zk ?_ (zk ?_ (zk ?_ (zk ?_ (zk ?_ (zk ?_ (zk ?_ (zk ?_ (zk ?_ (zk ?_ zW))))))))))))))))
  ·refine StepO.intro rfl [] (by kernel_rfl) ?_;intro vs W hW0 hd K hK;have hW:=qB hW0;clear hd;try simp only [zm,Act.put,zj,zi,zh,zg,zf,ze] at hK ⊢
   obtain ⟨m1,m2,m3,m4⟩:=HS.out W hW;go_simp;exact hK.out _ _ rfl (yU rfl rfl)
  ·refine StepO.intro rfl [(0,some 8)] (by kernel_rfl) ?_;intro vs W hW0 hd K hK;have hW:=qB hW0;have d0:(vs 0) = .pointer (some ⟨b2,0,none⟩):=hd 0 (by decide);clear hd;try simp only [d0,zm,Act.put,zj,zi,zh,zg,zf,ze] at hK ⊢
   obtain ⟨m1,m2,m3,m4⟩:=HS.out W hW;go_simp;exact hK.out _ _ rfl (yU rfl rfl)
  ·refine StepO.intro rfl [] (by kernel_rfl) ?_;intro vs W hW0 hd K hK;have hW:=qB hW0;clear hd;try simp only [zm,Act.put,zj,zi,zh,zg,zf,ze] at hK ⊢
   obtain ⟨m1,m2,m3,m4⟩:=HS.out W hW;go_simp;exact hK.out _ _ rfl (yU rfl rfl)
  ·refine StepO.intro rfl [(2,some 10)] (by kernel_rfl) ?_;intro vs W hW0 hd K hK;have hW:=qB hW0;have d2:(vs 2) = .pointer (some ⟨b3,0,none⟩):=hd 2 (by decide);clear hd;try simp only [d2,zm,Act.put,zj,zi,zh,zg,zf,ze] at hK ⊢
   obtain ⟨m1,m2,m3,m4⟩:=HS.out W hW;go_simp;exact hK.out _ _ rfl (yU rfl rfl)
  ·refine StepO.intro rfl [(1,some 9),(3,some 11)] (by kernel_rfl) ?_;intro vs W hW0 hd K hK;have hW:=qB hW0;have d1:(vs 1) = .string (zc a):=hd 1 (by decide);have d3:(vs 3) = .string (zc c):=hd 3 (by decide);clear hd;try simp only [d1,d3,zm,Act.put,zj,zi,zh,zg,zf,ze] at hK ⊢
   go_simp;go_at_call 115;(with_reducible first | refine (H1.out _).mono ?_);rintro e w9 ⟨rfl,hb9⟩;exact hK.out _ _ (rfl) (zgj rfl rfl hb9)
  ·refine StepO.intro rfl [] (by kernel_rfl) ?_;intro vs W hW0 hd K hK;have hW:=qB hW0;clear hd;try simp only [zm,Act.put,zj,zi,zh,zg,zf,ze] at hK ⊢
   obtain ⟨m1,m2,m3,m4⟩:=HS.out W hW;go_simp;exact hK.out _ _ rfl (yU rfl rfl)
  ·refine StepO.intro rfl [(5,some 13)] (by kernel_rfl) ?_;intro vs W hW0 hd K hK;have hW:=qB hW0;have d5:(vs 5) = .pointer (some ⟨b2,1,none⟩):=hd 5 (by decide);clear hd;try simp only [d5,zm,Act.put,zj,zi,zh,zg,zf,ze] at hK ⊢
   obtain ⟨m1,m2,m3,m4⟩:=HS.out W hW;go_simp;exact hK.out _ _ rfl (yU rfl rfl)
  ·refine StepO.intro rfl [] (by kernel_rfl) ?_;intro vs W hW0 hd K hK;have hW:=qB hW0;clear hd;try simp only [zm,Act.put,zj,zi,zh,zg,zf,ze] at hK ⊢
   obtain ⟨m1,m2,m3,m4⟩:=HS.out W hW;go_simp;exact hK.out _ _ rfl (yU rfl rfl)
  ·refine StepO.intro rfl [(7,some 15)] (by kernel_rfl) ?_;intro vs W hW0 hd K hK;have hW:=qB hW0;have d7:(vs 7) = .pointer (some ⟨b3,1,none⟩):=hd 7 (by decide);clear hd;try simp only [d7,zm,Act.put,zj,zi,zh,zg,zf,ze] at hK ⊢
   obtain ⟨m1,m2,m3,m4⟩:=HS.out W hW;go_simp;exact hK.out _ _ rfl (yU rfl rfl)
  ·refine StepO.intro rfl [(6,some 14),(8,some 16)] (by kernel_rfl) ?_;intro vs W hW0 hd K hK;have hW:=qB hW0;have d6:(vs 6) = .string (zc b):=hd 6 (by decide);have d8:(vs 8) = .string (zc d):=hd 8 (by decide);clear hd;try simp only [d6,d8,zm,Act.put,zj,zi,zh,zg,zf,ze] at hK ⊢
   go_simp;go_at_call 115;(with_reducible first | refine (H2.out _).mono ?_);rintro e w9 ⟨rfl,hb9⟩;exact hK.out _ _ (rfl) (zgj rfl rfl hb9)
  ·refine StepO.intro rfl [(4,some 12),(9,some 17)] (by kernel_rfl) ?_;intro vs W hW0 hd K hK;have hW:=qB hW0;have d4:(vs 4) = .string (zc m1):=hd 4 (by decide);have d9:(vs 9) = .string (zc m2):=hd 9 (by decide);clear hd;try simp only [d4,d9,zm,Act.put,zj,zi,zh,zg,zf,ze] at hK ⊢
   go_simp;go_at_call 108;(with_reducible first | refine (H3.out _).mono ?_);rintro e w9 ⟨rfl,hb9⟩;exact hK.out _ _ (rfl) (zgj rfl rfl hb9)
  ·refine StepO.intro rfl [(10,some 18)] (by kernel_rfl) ?_;intro vs W hW0 hd K hK;have hW:=qB hW0;have d10:(vs 10) = .tuple #[.agg #[.string (zc x),.string (zc y)],.bool true]:=hd 10 (by decide);clear hd;try simp only [d10,zm,Act.put,zj,zi,zh,zg,zf,ze] at hK ⊢
   go_simp;exact hK.out _ _ rfl (yU rfl rfl)
  ·refine StepO.intro rfl [(11,some 7)] (by kernel_rfl) ?_;intro vs W hW0 hd K hK;have hW:=qB hW0;have d11:(vs 11) = .tuple #[.agg #[.string (zc x),.string (zc y)],.bool true]:=hd 11 (by decide);clear hd;try simp only [d11,zm,Act.put,zj,zi,zh,zg,zf,ze] at hK ⊢
   go_simp;exact hK.out _ _ rfl (yU rfl rfl)
  ·refine StepO.intro rfl [(11,some 7)] (by kernel_rfl) ?_;intro vs W hW0 hd K hK;have hW:=qB hW0;have d11:(vs 11) = .tuple #[.agg #[.string (zc x),.string (zc y)],.bool true]:=hd 11 (by decide);clear hd;try simp only [d11,zm,Act.put,zj,zi,zh,zg,zf,ze] at hK ⊢
   go_simp;exact hK.out _ _ rfl (yU rfl rfl)
  ·refine StepO.intro rfl [] (by kernel_rfl) ?_;intro vs W hW0 hd K hK;have hW:=qB hW0;clear hd;try simp only [zm,Act.put,zj,zi,zh,zg,zf,ze] at hK ⊢
   go_simp;exact hK.out _ _ ⟨W.heap.size,rfl,hW.size,zF _ _ _ _ _ rfl rfl⟩ (ziY rfl _ rfl)
  ·refine StepO.intro rfl [(14,some 5),(12,some 19)] (by kernel_rfl) ?_;intro vs W hW0 hd K hK;have hW:=qB hW0;obtain ⟨X14,d14,b14,r14⟩:∃ X,(vs 14) = .pointer (some ⟨X,0,none⟩)∧V.heap.size≤X∧World.rowIs W X 42 2 (zy #[.string ⟨#[]⟩,.string ⟨#[]⟩]):=hd 14 (by decide);have d12:(vs 12) = .agg #[.string (zc x),.string (zc y)]:=hd 12 (by decide);clear hd;try simp only [d14,d12,zm,Act.put,zj,zi,zh,zg,zf,ze] at hK ⊢
   have l14:=r14.lt;have y14_0:=r14.frozen 0;have k14_0:=r14.cell (i:=0) (by decide);have y14_1:=r14.frozen 1;have k14_1:=r14.cell (i:=1) (by decide);go_simp;exact hK.out (.pointer (some ⟨X14,0,none⟩)) _ ⟨d14.symm,X14,rfl,b14,(qx r14 _ _)⟩ (ziX (by decide) (d14) rfl ((zdK _ _ _ _).trans (zdK _ _ _ _)) (by simp;exact r14.lt))
  ·refine StepO.intro rfl [(13,some 20)] (by kernel_rfl) ?_;intro vs W hW0 hd K hK;have hW:=qB hW0;have d13:(vs 13) = .bool true:=hd 13 (by decide);clear hd;try simp only [d13,zm,Act.put,zj,zi,zh,zg,zf,ze] at hK ⊢
   go_simp;exact hK.out _ _ rfl (yU rfl rfl)
 obtain rfl:bs=[]:=List.eq_nil_of_length_eq_zero hbs;refine FinO.intro [(0,some 8),(1,some 9),(2,some 10),(3,some 11),(4,some 12),(5,some 13),(6,some 14),(7,some 15),(8,some 16),(9,some 17),(10,some 18),(11,some 7),(12,some 19),(13,some 20),(14,some 5),(15,none),(16,some 6)] #[true,true,true,true,true,true,true,true,true,true,true,true,true,true,true,true,true] 0 (by kernel_rfl) (by kernel_rfl) (by kernel_rfl) ?_;intro vs Wf hI kf;have hW:Below V.heap.size V Wf:=zw (qV (zx _ _) 1) hI.bl (zu _);have d0:(vs 0) = .pointer (some ⟨b2,0,none⟩):=hI.px 0 (by decide) (qW (by decide));have d1:(vs 1) = .string (zc a):=hI.px 1 (by decide) (qW (by decide));have d2:(vs 2) = .pointer (some ⟨b3,0,none⟩):=hI.px 2 (by decide) (qW (by decide));have d3:(vs 3) = .string (zc c):=hI.px 3 (by decide) (qW (by decide));have d4:(vs 4) = .string (zc m1):=hI.px 4 (by decide) (qW (by decide));have d5:(vs 5) = .pointer (some ⟨b2,1,none⟩):=hI.px 5 (by decide) (qW (by decide));have d6:(vs 6) = .string (zc b):=hI.px 6 (by decide) (qW (by decide));have d7:(vs 7) = .pointer (some ⟨b3,1,none⟩):=hI.px 7 (by decide) (qW (by decide));have d8:(vs 8) = .string (zc d):=hI.px 8 (by decide) (qW (by decide));have d9:(vs 9) = .string (zc m2):=hI.px 9 (by decide) (qW (by decide));have d10:(vs 10) = .tuple #[.agg #[.string (zc x),.string (zc y)],.bool true]:=hI.px 10 (by decide) (qW (by decide));have d11:(vs 11) = .tuple #[.agg #[.string (zc x),.string (zc y)],.bool true]:=hI.px 11 (by decide) (qW (by decide));have d12:(vs 12) = .agg #[.string (zc x),.string (zc y)]:=hI.px 12 (by decide) (qW (by decide));have d13:(vs 13) = .bool true:=hI.px 13 (by decide) (qW (by decide));obtain ⟨e15,X15,d15,b15,r15⟩:(vs 15)=vs 14∧∃ X,(vs 15) = .pointer (some ⟨X,0,none⟩)∧V.heap.size≤X∧World.rowIs Wf X 42 2 (zy #[.string (zc x),.string (zc y)]):=hI.px 15 (by decide) (qW (by decide));have d16:(vs 16) = .bool true:=hI.px 16 (by decide) (qW (by decide));have f15:vs 14 = .pointer (some ⟨X15,0,none⟩):=e15.symm.trans d15;clear hI;try simp only [d0,d1,d2,d3,d4,d5,d6,d7,d8,d9,d10,d11,d12,d13,d15,d16,f15,zm,Act.put,zj,zi,zh,zg,zf,ze]
 clear d0 d1 d2 d3 d4 d5 d6 d7 d8 d9 d10 d11 d12 d13 d15 d16 f15 e15;clear HS;refine qc (by kernel_rfl) ?_ _;all_goals
  have Q3:=Q2.out.below hW;clear Q2;have y1:=(Q3.row 0 rfl).frozen 0;have y2:=(Q3.row 0 rfl).frozen 1;have z1:World.cell? _ ⟨w.heap.size+1+1,0,none⟩=some (.string ⟨#[]⟩):=(Q3.row 0 rfl).cell (i:=0) (by decide);have z2:World.cell? _ ⟨w.heap.size+1+1,1,none⟩=some (.string ⟨#[]⟩):=(Q3.row 0 rfl).cell (i:=1) (by decide);have x1:World.cell? _ ⟨X15,0,none⟩=some (.string (zc x)):=r15.cell (i:=0) (by decide);have x2:World.cell? _ ⟨X15,1,none⟩=some (.string (zc y)):=r15.cell (i:=1) (by decide);have QQ:=zb Q3;clear Q3;subst hb4;subst hb2;try go_wp2
  exact zfC rfl rfl (qx (QQ.out.row 0 rfl) _ _) rfl ⟨rfl,jv QQ.out.bl (by omega) _ _⟩
theorem rdiv02 (w:World) (p q:Rat) (hp:0≤p) (hq:0≤q) (hq0:0<qn q) (d1:zz (qn p)≤400000) (d2:zz p.den≤400000) (d3:zz (qn q)≤400000) (d4:zz q.den≤400000) :
  Calls Tryz.prog 64 #[zS p,zS q] w fun e w'=>e = .returned (.tuple #[zS (p / q),.bool true])∧Below w.heap.size w w':=by
 have e0:qq (qn p*q.den) (p.den*qn q)=p / q:=by
  have:=jC (qn p) p.den (qn q) q.den hq0;rwa [qM p.den_pos,qM q.den_pos,js hp,js hq] at this
 have k1:=zbI _ _ 400000 d1 d4 (by decide);have k2:=zbI _ _ 400000 d2 d3 (by decide);have hm1:=fun W=>zbJ W (qn p) q.den (by omega) (by omega);have hm2:=fun W=>zbJ W p.den (qn q) (by omega) (by omega);have hm3:=fun W=>ziV W (qn p*q.den) (p.den*qn q) (by omega) (by omega) (Nat.mul_pos p.den_pos hq0);have hcz:((zc (qn q)).toList==[48])=false:=beq_eq_false_iff_ne.2 fun e=>by
  have:qn q=0:=zdv (by rw [pU];exact ByteArray.ext (Array.ext' (by rw [← zbc,e])));omega
 rw [e0] at hm3;unfold zS at hm3 ⊢;generalize qn p*q.den=m1 at *
 generalize p.den*qn q=m2 at *
 generalize qn (p / q)=x at *
 generalize (p / q).den=y at *
 generalize qn p=a at *
 generalize p.den=b at *
 generalize qn q=c at *
 generalize q.den=d at *
 have q0:=(Kp.nil w).new #[.string (zc a),.string (zc b)] 42 w.heap.size 2 rfl rfl;have q1:=q0.new #[.string (zc c),.string (zc d)] 42 (w.heap.size+1) 2 (by simp) rfl;have q2:=q1.new #[.string ⟨#[]⟩,.string ⟨#[]⟩] 42 (w.heap.size+1+1) 2 (by simp) rfl;have s1:World.cell? _ ⟨w.heap.size,0,none⟩=some (.string (zc a)):=(q2.row 2 rfl).cell (i:=0) (by decide);have s2:World.cell? _ ⟨w.heap.size,1,none⟩=some (.string (zc b)):=(q2.row 2 rfl).cell (i:=1) (by decide);have s3:World.cell? _ ⟨w.heap.size+1,0,none⟩=some (.string (zc c)):=(q2.row 1 rfl).cell (i:=0) (by decide);have s4:World.cell? _ ⟨w.heap.size+1,1,none⟩=some (.string (zc d)):=(q2.row 1 rfl).cell (i:=1) (by decide);have H1:=zb hm1;have H2:=zb hm2;have H3:=zb hm3;have Q2:=zb q2;clear hm1 hm2 hm3 e0 k1 k2 d1 d2 d3 d4 hp hq hq0 q0 q1 q2;go_enter Tryz.func64, Tryz.ntmps64;go_upto_region 3 with (fail)
 obtain ⟨V,hV⟩:∃ V,((w.alloc (.cells #[.string (zc a),.string (zc b)] 42)).alloc (.cells #[.string (zc c),.string (zc d)] 42)).alloc (.cells #[.string ⟨#[]⟩,.string ⟨#[]⟩] 42)=V:=⟨_,rfl⟩;obtain ⟨b2,hb2⟩:∃ b,w.heap.size=b:=⟨_,rfl⟩;obtain ⟨b3,hb3⟩:∃ b,w.heap.size+1=b:=⟨_,rfl⟩;have h2:b2≠b3:=by omega
 obtain ⟨b4,hb4⟩:∃ b,w.heap.size+1+1=b:=⟨_,rfl⟩;have g2:=World.block_lt_of_cell? _ _ s1;have g3:=World.block_lt_of_cell? _ _ s3;rw [hV] at s1 s2 s3 s4 g2 g3 Q2 ⊢;simp only [hb4];simp only [hb3] at s3 s4 g3 ⊢;simp only [hb2] at s1 s2 g2 ⊢;clear hV hb3 h2 hcz;have HS:Hid (∀ W,Below V.heap.size V W→W.cell? ⟨b2,0,none⟩=some (.string (zc a))∧W.cell? ⟨b2,1,none⟩=some (.string (zc b))∧W.cell? ⟨b3,0,none⟩=some (.string (zc c))∧W.cell? ⟨b3,1,none⟩=some (.string (zc d))):=zb fun W hb=>⟨zC hb s1 g2,zC hb s2 g2,zC hb s3 g3,zC hb s4 g3⟩;refine yx (n:=_) (PX:=[zl (.pointer (some ⟨b2,0,none⟩)),
    zl (.string (zc a)),
    zl (.pointer (some ⟨b3,1,none⟩)),
    zl (.string (zc d)),
    zl (.string (zc m1)),
    zl (.pointer (some ⟨b2,1,none⟩)),
    zl (.string (zc b)),
    zl (.pointer (some ⟨b3,0,none⟩)),
    zl (.string (zc c)),
    zl (.string (zc m2)),
    zl (.tuple #[.agg #[.string (zc x),.string (zc y)],.bool true]),
    zl (.agg #[.string (zc x),.string (zc y)]),
    zl (.bool true)])
   (AL:=[]) (DP:=[[],[0],[],[2],[1,3],[],[5],[],[7],[6,8],[4,9],[10],[10]]) (L1:=[0,1,2,3,4,5,6,7,8,9,10,11,12]) (ex:=[]) (by kernel_rfl) rfl (by kernel_rfl) ?_ ?_ (yH ?_)
 ·repeat' first|exact zW|refine zk ?_ ?_|exact fun _ _ _ _ h _=>h
 ·refine zk (zv rfl [] ?_) (zk (zv rfl [(0,some 10)] ?_) (zk (zv rfl [] ?_) (zk (zv rfl [(2,some 12)] ?_) (zk ?_ (zk (zv rfl [] ?_) (zk (zv rfl [(5,some 15)] ?_) (zk (zv rfl [] ?_) (zk (zv rfl [(7,some 17)] ?_) (zk ?_ (zk ?_ (zk (zv rfl [(10,some 20)] ?_) (zk (zv rfl [(10,some 20)] ?_) zW))))))))))));all_goals try (intro vs W hW hd K hK;(try simp only [qa,zl,and_true,List.getD_cons_succ,List.getD_cons_zero] at hd);(first | simp only [hd,zm,Act.put,zj,zi,zh,zg,zf,ze] at hK ⊢ | simp only [zm,Act.put,zj,zi,zh,zg,zf,ze] at hK ⊢ | skip);obtain ⟨m1,m2,m3,m4⟩:=HS.out W hW;go_simp;exact hK.out _ _ rfl (zx _ _) (qU rfl))
  ·refine zJ rfl [(1,some 11),(3,some 13)] ?_;intro vs W hW hd K hK;have d1:vs 1 = .string (zc a):=hd 1 (by decide);have d3:vs 3 = .string (zc d):=hd 3 (by decide);clear hd;try simp only [d1,d3,zm,Act.put,zj,zi,zh,zg,zf,ze] at hK ⊢
   go_simp;go_at_call 115;(with_reducible first | refine (H1.out _).mono ?_);rintro e w9 ⟨rfl,hb9⟩;exact hK.out _ _ (rfl) hb9 (fun h=>absurd h (by decide))
  ·refine zJ rfl [(6,some 16),(8,some 18)] ?_;intro vs W hW hd K hK;have d6:vs 6 = .string (zc b):=hd 6 (by decide);have d8:vs 8 = .string (zc c):=hd 8 (by decide);clear hd;try simp only [d6,d8,zm,Act.put,zj,zi,zh,zg,zf,ze] at hK ⊢
   go_simp;go_at_call 115;(with_reducible first | refine (H2.out _).mono ?_);rintro e w9 ⟨rfl,hb9⟩;exact hK.out _ _ (rfl) hb9 (fun h=>absurd h (by decide))
  ·refine zJ rfl [(4,some 14),(9,some 19)] ?_;intro vs W hW hd K hK;have d4:vs 4 = .string (zc m1):=hd 4 (by decide);have d9:vs 9 = .string (zc m2):=hd 9 (by decide);clear hd;try simp only [d4,d9,zm,Act.put,zj,zi,zh,zg,zf,ze] at hK ⊢
   go_simp;go_at_call 108;(with_reducible first | refine (H3.out _).mono ?_);rintro e w9 ⟨rfl,hb9⟩;exact hK.out _ _ (rfl) hb9 (fun h=>absurd h (by decide))
 refine qQ [(0,some 10),(1,some 11),(2,some 12),(3,some 13),(4,some 14),(5,some 15),(6,some 16),(7,some 17),(8,some 18),(9,some 19),(10,some 20),(11,some 21),(12,some 22)] #[true,true,true,true,true,true,true,true,true,true,true,true,true,false,false] 2 ?_;intro vs Wf hW hd hbk hdis kf;simp only [qa,zl,and_true,List.getD_cons_succ,List.getD_cons_zero] at hd;obtain ⟨d0,d1,d2,d3,d4,d5,d6,d7,d8,d9,d10,d11,d12⟩:=hd;clear hbk hdis;try simp only [d0,d1,d2,d3,d4,d5,d6,d7,d8,d9,d10,d11,d12,zm,Act.put,zj,zi,zh,zg,zf,ze]
 clear d0 d1 d2 d3 d4 d5 d6 d7 d8 d9 d10 d11 d12 vs;clear HS;have r4:Wf.rowIs b4 42 2 (zy #[.string ⟨#[]⟩,.string ⟨#[]⟩]):=hb4▸(Q2.out.below hW).row 0 rfl;have y1:=r4.frozen 0;have y2:=r4.frozen 1;have z1:Wf.cell? ⟨b4,0,none⟩=some (.string ⟨#[]⟩):=r4.cell (i:=0) (by decide);have z2:Wf.cell? ⟨b4,1,none⟩=some (.string ⟨#[]⟩):=r4.cell (i:=1) (by decide);refine zE 13 (by kernel_rfl) rfl (fun K hK=>?_);go_simp;refine hK.out _ _ ?_;clear hK K;try simp only [zm,Act.put,zj,zi,zh,zg,zf,ze]
 refine zE 14 (by kernel_rfl) rfl (fun K hK=>?_);go_simp;refine hK.out _ _ ?_;clear hK K;try simp only [zm,Act.put,zj,zi,zh,zg,zf,ze]
 refine qc (by kernel_rfl) ?_ _;all_goals
  subst hb4;try go_wp2
  exact zbd rfl rfl rfl (qx r4 _ _) rfl ⟨rfl,jv (Q2.out.below hW).bl (by omega) _ _⟩
end Go.Proofs.YtmhllppjcilllaaGreatDoor
