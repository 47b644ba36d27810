import Derived.Test.YtmhllppjcilllaaGreatDoorRQ
import Derived.Test.YtmhllppjcilllaaGreatDoorKp
import Derived.Test.YtmhllppjcilllaaGreatDoorMg
set_option linter.unusedSimpArgs false
set_option linter.unusedVariables false
set_option maxRecDepth 100000
set_option maxHeartbeats 4000000
open Go Go.RowKit Cs
namespace Go.Proofs.YtmhllppjcilllaaGreatDoor
abbrev yV (q:Rat):Value:=.agg #[.string (zl (qn q)),.string (zl q.den)]
theorem zcv (x y m:Nat) (hx:zA x≤m) (hy:zA y≤m) (hm:1≤m):zA (x*y)≤2*m:=by
 unfold zA at *
 have:=jF 10 (by decide) x y;omega
theorem pp (x y m:Nat) (hx:zA x≤m) (hy:zA y≤m):zA (x+y)≤m+1:=by
 have h1:=Nat.lt_of_lt_of_le (zeW x) (Nat.pow_le_pow_right (by decide) hx);have h2:=Nat.lt_of_lt_of_le (zeW y) (Nat.pow_le_pow_right (by decide) hy);refine zfb _ _ ?_ (by omega);rw [Nat.pow_succ];omega
theorem zhe:(Tryz.prog.info? 42).map (·.size)=some 2:=by kernel_rfl
theorem zhl {fn:Func} {p q r:Tmp} (h:fn.results=#[.tmp p,.tmp q,.tmp r]) (tmps:Array Value) (P:Program) (w:World) :
  (results fn tmps).run P w = .ok (.tuple #[tmps.getD p undef,tmps.getD q undef,tmps.getD r undef]) w:=by
 simp only [results,h];simp [Sem.run_bind,Result.andThen]
theorem dec1:zl 1=⟨#[49]⟩:=by decide +kernel
theorem zfa (x:Nat):((zl x).toList=[49])↔x=1:=by
 constructor
 ·intro h;apply zeb;rw [dec1];exact ByteArray.ext (Array.ext' (by rw [← zbn,h]))
 ·intro h;subst h;rw [dec1,zbn]
theorem zhj {fn:Func} {R:Ending→World→Prop} {a:Act} {w:World} {p:Tmp} (h:fn.results=#[.cell p 42]) {g:Nat} {t:TypeId} {x y:Value}
  (hp:a.tmps.getD p undef = .pointer (some ⟨g,0,none⟩)) (hrow:w.rowIs g t 2 (zC #[x,y])) (hdf:a.defers=[]) (hR:R (.returned (.agg #[x,y])) w):bodyPost Tryz.prog fn R .ret a w :=
 zeK h g t 2 _ hp hrow _ Tryz.underlying42 rfl zhe hdf hR
theorem zeL {fn:Func} {R:Ending→World→Prop} {a:Act} {w:World} {p u:Tmp} (h:fn.results=#[.cell p 42,.tmp u]) {g:Nat} {t:TypeId} {x y b:Value}
  (hp:a.tmps.getD p undef = .pointer (some ⟨g,0,none⟩)) (hb:a.tmps.getD u undef=b) (hrow:w.rowIs g t 2 (zC #[x,y])) (hdf:a.defers=[]) (hR:R (.returned (.tuple #[.agg #[x,y],b])) w):bodyPost Tryz.prog fn R .ret a w:=by
 refine bodyPost_ret (v:=.tuple #[.agg #[x,y],b]) ?_ hdf hR;rw [results_cell_tmp h,hp];have hl:=run_loadVar_row (P:=Tryz.prog) w g t 42 _ (0,0) _ (jt hrow) Tryz.underlying42 rfl (by simpa using zhe);simp [asAddr,Result.andThen,hl,hb];rfl
theorem rzero02 (w:World):Calls Tryz.prog 37 #[] w fun e w'=>e = .returned (.agg #[.string (zl 0),.string (zl 1)])∧Below w.heap.size w w':=by
 have hr:=zI w #[.string ⟨#[]⟩,.string ⟨#[]⟩] 42 w.heap.size 2 rfl rfl;have hb:=(Below.refl w.heap.size w).alloc (zv _) (.cells #[.string ⟨#[]⟩,.string ⟨#[]⟩] 42);have y1:=hr.frozen 0;have y2:=hr.frozen 1;have z1:(w.alloc (.cells #[.string ⟨#[]⟩,.string ⟨#[]⟩] 42)).cell? ⟨w.heap.size,0,none⟩=some (.string ⟨#[]⟩):=hr.cell (i:=0) (by decide);have z2:(w.alloc (.cells #[.string ⟨#[]⟩,.string ⟨#[]⟩] 42)).cell? ⟨w.heap.size,1,none⟩=some (.string ⟨#[]⟩):=hr.cell (i:=1) (by decide);go_enter Tryz.func37, Tryz.ntmps37;go_wp2;refine zhj rfl rfl (zI w _ _ _ 2 rfl rfl) rfl ⟨?_,(Below.refl w.heap.size w).alloc (zv _) _⟩;rw [zc5,dec1]
theorem jA (w:World) (a b:Nat) (ha:zA a≤1000000) (hb:zA b≤1000000) (h0:0<b) :
  Calls Tryz.prog 108 #[.string (zl a),.string (zl b)] w fun e w'=>e = .returned (.tuple #[yV (qq a b),.bool true])∧Below w.heap.size w w':=by
 have hg0:0<Nat.gcd a b:=Nat.gcd_pos_of_pos_right a h0;have hgN:zA (Nat.gcd a b)≤1000000:=Nat.le_trans (zbm (Nat.le_of_dvd h0 (Nat.gcd_dvd_right a b))) hb;have hgc:=fun W=>rgcd_any W a b ha hb;have hd1:=fun W=>zgo W a (Nat.gcd a b) ha hgN hg0;have hd2:=fun W=>zgo W b (Nat.gcd a b) hb hgN hg0;have e1:qn (qq a b)=a / Nat.gcd a b:=by rw [ja,qJ h0]
 have e2:(qq a b).den=b / Nat.gcd a b:=by rw [zhM,qJ h0]
 unfold yV;rw [e1,e2];have hbz:((zl b).toList==[48])=false:=beq_eq_false_iff_ne.2 fun e=>by
  have:b=0:=zeb (by rw [zc5];exact ByteArray.ext (Array.ext' (by rw [← zbn,e])));omega
 have q0:=(Kp.nil w).new #[.string ⟨#[]⟩,.string ⟨#[]⟩] 42 w.heap.size 2 rfl rfl;have y1:=(q0.row 0 rfl).frozen 0;have y2:=(q0.row 0 rfl).frozen 1;have z1:World.cell? _ ⟨w.heap.size,0,none⟩=some (.string ⟨#[]⟩):=(q0.row 0 rfl).cell (i:=0) (by decide);have z2:World.cell? _ ⟨w.heap.size,1,none⟩=some (.string ⟨#[]⟩):=(q0.row 0 rfl).cell (i:=1) (by decide);obtain ⟨G,hG⟩:∃ G,Nat.gcd a b=G:=⟨_,rfl⟩;simp only [hG] at hgc hd1 hd2 ⊢;obtain ⟨x,hx⟩:∃ x,a / G=x:=⟨_,rfl⟩;obtain ⟨y,hy⟩:∃ y,b / G=y:=⟨_,rfl⟩;simp only [hx] at hd1 ⊢;simp only [hy] at hd2 ⊢;have HGC:=zc hgc;have HD1:=zc hd1;have HD2:=zc hd2;have Q0:=zc q0;clear hgc hd1 hd2 q0 hx hy hG e1 e2 hg0 hgN ha hb h0;go_enter Tryz.func108, Tryz.ntmps108;go_wp2_with (first
  | (go_at_call 146;(with_reducible refine (HGC.out _).mono ?_);rintro e w1 ⟨rfl,hb1⟩;have Q1:=zc (Q0.out.below hb1);clear hb1 Q0)
  | (go_at_call 147;(with_reducible refine (HD1.out _).mono ?_);rintro e w2 ⟨rfl,hb2⟩;have Q2:=zc (Q1.out.below hb2);clear hb2 Q1)
  | (go_at_call 147;(with_reducible refine (HD2.out _).mono ?_);rintro e w3 ⟨rfl,hb3⟩;have Q3:=zc (Q2.out.below hb3);clear hb3 Q2;clear y1 y2 z1 z2;have y1:=(Q3.out.row 0 rfl).frozen 0;have y2:=(Q3.out.row 0 rfl).frozen 1;have z1:World.cell? _ ⟨w.heap.size,0,none⟩=some (.string ⟨#[]⟩):=(Q3.out.row 0 rfl).cell (i:=0) (by decide);have z2:World.cell? _ ⟨w.heap.size,1,none⟩=some (.string ⟨#[]⟩):=(Q3.out.row 0 rfl).cell (i:=1) (by decide)))
 exact zeL rfl rfl rfl (qx (Q3.out.row 0 rfl) _ _) rfl ⟨rfl,oZ Q3.out.bl (zv _) _ _⟩
theorem rof02 (w:World) (a b:Nat) (ha:a<18446744073709551616) (hb:b<18446744073709551616) (h0:0<b) :
  Calls Tryz.prog 57 #[.int .u64 a,.int .u64 b] w fun e w'=>e = .returned (.tuple #[yV (qq a b),.bool true])∧Below w.heap.size w w':=by
 have d20:∀ x,x<18446744073709551616→zA x≤1000000:=fun x hx=>Nat.le_trans (zfb x 20 (Nat.lt_of_lt_of_le hx (by decide)) (by decide)) (by decide);have ho1:=fun W=>zik W a ha;have ho2:=fun W=>zik W b hb;have hnw:=fun W=>jA W a b (d20 a ha) (d20 b hb) h0;have q0:=(Kp.nil w).new #[.string ⟨#[]⟩,.string ⟨#[]⟩] 42 w.heap.size 2 rfl rfl;have y1:=(q0.row 0 rfl).frozen 0;have y2:=(q0.row 0 rfl).frozen 1;have z1:World.cell? _ ⟨w.heap.size,0,none⟩=some (.string ⟨#[]⟩):=(q0.row 0 rfl).cell (i:=0) (by decide);have z2:World.cell? _ ⟨w.heap.size,1,none⟩=some (.string ⟨#[]⟩):=(q0.row 0 rfl).cell (i:=1) (by decide);generalize qn (qq a b)=x at *
 generalize (qq a b).den=y at *
 have HO1:=zc ho1;have HO2:=zc ho2;have HNW:=zc hnw;have Q0:=zc q0;clear ho1 ho2 hnw q0 d20 ha hb h0;go_enter Tryz.func57, Tryz.ntmps57;go_wp2_with (first
  | (go_at_call 109;(with_reducible refine (HO1.out _).mono ?_);rintro e w1 ⟨rfl,hb1⟩;have Q1:=zc (Q0.out.below hb1);clear hb1 Q0)
  | (go_at_call 109;(with_reducible refine (HO2.out _).mono ?_);rintro e w2 ⟨rfl,hb2⟩;have Q2:=zc (Q1.out.below hb2);clear hb2 Q1)
  | (go_at_call 108;(with_reducible refine (HNW.out _).mono ?_);rintro e w3 ⟨rfl,hb3⟩;have Q3:=zc (Q2.out.below hb3);clear hb3 Q2;clear y1 y2 z1 z2;have y1:=(Q3.out.row 0 rfl).frozen 0;have y2:=(Q3.out.row 0 rfl).frozen 1;have z1:World.cell? _ ⟨w.heap.size,0,none⟩=some (.string ⟨#[]⟩):=(Q3.out.row 0 rfl).cell (i:=0) (by decide);have z2:World.cell? _ ⟨w.heap.size,1,none⟩=some (.string ⟨#[]⟩):=(Q3.out.row 0 rfl).cell (i:=1) (by decide)))
 exact zeL rfl rfl rfl (qx (Q3.out.row 0 rfl) _ _) rfl ⟨rfl,oZ Q3.out.bl (zv _) _ _⟩
theorem rtext02 (w:World) (q:Rat) (h1:zA (qn q)≤1000000) (h2:zA q.den≤1000000) :
  Calls Tryz.prog 58 #[yV q] w fun e w'=>e = .returned (.string (zfv q))∧Below w.heap.size w w':=by
 have hq:zfv q=if q.den=1 then zl (qn q) else zl (qn q)++⟨#[47]⟩++zl q.den:=rfl
 obtain ⟨R,hR⟩:∃ R,zfv q=R:=⟨_,rfl⟩;rw [hR] at hq ⊢;obtain ⟨a,ha⟩:∃ a,qn q=a:=⟨_,rfl⟩;obtain ⟨b,hb⟩:∃ a,q.den=a:=⟨_,rfl⟩;rw [ha,hb] at hq;unfold yV;rw [ha] at h1 ⊢;rw [hb] at h2 ⊢;have z1:(zl a).size≤1000000:=by rw [qZ];exact h1
 have z2:(zl b).size≤1000000:=by rw [qZ];exact h2
 have l1:¬ 9223372036854775807<(zl a).size+1:=by omega
 have l2:¬ 9223372036854775807<(zl a).size+1+(zl b).size:=by omega
 have q0:=(Kp.nil w).new #[.string (zl a),.string (zl b)] 42 w.heap.size 2 rfl rfl;have s1:World.cell? _ ⟨w.heap.size,0,none⟩=some (.string (zl a)):=(q0.row 0 rfl).cell (i:=0) (by decide);have s2:World.cell? _ ⟨w.heap.size,1,none⟩=some (.string (zl b)):=(q0.row 0 rfl).cell (i:=1) (by decide);have HR:=zc hq;have Q0:=zc q0;clear hq q0 hR ha hb h1 h2;by_cases hy1:b=1
 ·have hyb:((zl b).toList==[49])=true:=beq_iff_eq.2 ((zfa b).2 hy1);have HY:=zc hy1;clear hy1;go_enter Tryz.func58, Tryz.ntmps58;go_wp2;go_ret;exact ⟨by rw [HR.out,if_pos HY.out];rfl,Q0.out.bl⟩
 ·have hyb:((zl b).toList==[49])=false:=beq_eq_false_iff_ne.2 fun e=>hy1 ((zfa b).1 e);have HY:=zc hy1;clear hy1;go_enter Tryz.func58, Tryz.ntmps58;go_wp2;go_ret;exact ⟨by rw [HR.out,if_neg HY.out];rfl,Q0.out.bl⟩
theorem rover02 (w:World) (a b c d:Nat) (ha:zA a≤400000) (hb:zA b≤400000) (hc:zA c≤400000) (hd:zA d≤400000) :
  Calls Tryz.prog 143 #[.agg #[.string (zl a),.string (zl b)],.agg #[.string (zl c),.string (zl d)]] w fun e w'=>e = .returned (.tuple #[.string (zl (a*d)),.string (zl (c*b)),.string (zl (b*d))])∧Below w.heap.size w w':=by
 have hm1:=fun W=>zcV W a d (by omega) (by omega);have hm2:=fun W=>zcV W c b (by omega) (by omega);have hm3:=fun W=>zcV W b d (by omega) (by omega);have q0:=(Kp.nil w).new #[.string (zl a),.string (zl b)] 42 w.heap.size 2 rfl rfl;have q1:=q0.new #[.string (zl c),.string (zl d)] 42 (w.heap.size+1) 2 (by simp) rfl;have s1:World.cell? _ ⟨w.heap.size,0,none⟩=some (.string (zl a)):=(q1.row 1 rfl).cell (i:=0) (by decide);have s2:World.cell? _ ⟨w.heap.size,1,none⟩=some (.string (zl b)):=(q1.row 1 rfl).cell (i:=1) (by decide);have s3:World.cell? _ ⟨w.heap.size+1,0,none⟩=some (.string (zl c)):=(q1.row 0 rfl).cell (i:=0) (by decide);have s4:World.cell? _ ⟨w.heap.size+1,1,none⟩=some (.string (zl d)):=(q1.row 0 rfl).cell (i:=1) (by decide);obtain ⟨m1,e1⟩:∃ m,a*d=m:=⟨_,rfl⟩;obtain ⟨m2,e2⟩:∃ m,c*b=m:=⟨_,rfl⟩;obtain ⟨m3,e3⟩:∃ m,b*d=m:=⟨_,rfl⟩;rw [e1,e2,e3];simp only [e1] at hm1;simp only [e2] at hm2;simp only [e3] at hm3;have H1:=zc hm1;have H2:=zc hm2;have H3:=zc hm3;have BL:=zc q1.bl;clear hm1 hm2 hm3 e1 e2 e3 ha hb hc hd q0 q1;go_enter Tryz.func143, Tryz.ntmps143;go_upto_region 1 with (fail)
 obtain ⟨V,hV⟩:∃ V,((w.alloc (.cells #[.string (zl a),.string (zl b)] 42)).alloc (.cells #[.string (zl c),.string (zl d)] 42))=V:=⟨_,rfl⟩;obtain ⟨b2,hb2⟩:∃ b,w.heap.size=b:=⟨_,rfl⟩;obtain ⟨b3,hb3⟩:∃ b,w.heap.size+1=b:=⟨_,rfl⟩;have h2:b2≠b3:=by omega
 have g2:=World.block_lt_of_cell? _ _ s1;have g3:=World.block_lt_of_cell? _ _ s3;rw [hV] at s1 s2 s3 s4 g2 g3 BL ⊢;simp only [hb3] at s3 s4 g3 ⊢;simp only [hb2] at s1 s2 g2 ⊢;clear hV hb2 hb3 h2;have HS:Hid (∀ W,Below V.heap.size V W→W.cell? ⟨b2,0,none⟩=some (.string (zl a))∧W.cell? ⟨b2,1,none⟩=some (.string (zl b))∧W.cell? ⟨b3,0,none⟩=some (.string (zl c))∧W.cell? ⟨b3,1,none⟩=some (.string (zl d))):=zc fun W hb=>⟨zG hb s1 g2,zG hb s2 g2,zG hb s3 g3,zG hb s4 g3⟩;refine yT (n:=_) (PX:=[zm (.pointer (some ⟨b2,0,none⟩)),
    zm (.string (zl a)),
    zm (.pointer (some ⟨b3,1,none⟩)),
    zm (.string (zl d)),
    zm (.string (zl m1)),
    zm (.pointer (some ⟨b3,0,none⟩)),
    zm (.string (zl c)),
    zm (.pointer (some ⟨b2,1,none⟩)),
    zm (.string (zl b)),
    zm (.string (zl m2)),
    zm (.pointer (some ⟨b2,1,none⟩)),
    zm (.string (zl b)),
    zm (.pointer (some ⟨b3,1,none⟩)),
    zm (.string (zl d)),
    zm (.string (zl m3)),
    zm (.string (zl m1)),
    zm (.string (zl m2)),
    zm (.string (zl m3))])
   (AL:=[]) (DP:=[[],[0],[],[2],[1,3],[],[5],[],[7],[6,8],[],[10],[],[12],[11,13],[4],[9],[14]]) (L1:=[0,1,2,3,4,5,6,7,8,9,10,11,12,13,14,15,16,17]) (ex:=[]) (by kernel_rfl) rfl (by kernel_rfl) ?_ ?_ (ji ?_)
 ·repeat' first|exact qi|refine zo ?_ ?_|exact fun _ _ _ _ h _=>h
 ·refine zo (zw rfl [] ?_) (zo (zw rfl [(0,some 7)] ?_) (zo (zw rfl [] ?_) (zo (zw rfl [(2,some 9)] ?_) (zo ?_ (zo (zw rfl [] ?_) (zo (zw rfl [(5,some 12)] ?_) (zo (zw rfl [] ?_) (zo (zw rfl [(7,some 14)] ?_) (zo ?_ (zo (zw rfl [] ?_) (zo (zw rfl [(10,some 17)] ?_) (zo (zw rfl [] ?_) (zo (zw rfl [(12,some 19)] ?_) (zo ?_ (zo (zw rfl [(4,some 11)] ?_) (zo (zw rfl [(9,some 16)] ?_) (zo (zw rfl [(14,some 21)] ?_) qi)))))))))))))))));all_goals try (intro vs W hW hd K hK;(try simp only [qh,zm,and_true,List.getD_cons_succ,List.getD_cons_zero] at hd);(first | simp only [hd,zu,Act.put,zk,zj,zi,zg,zf,ze] at hK ⊢ | simp only [zu,Act.put,zk,zj,zi,zg,zf,ze] at hK ⊢ | skip);obtain ⟨m1,m2,m3,m4⟩:=HS.out W hW;go_simp;exact hK.out _ _ rfl (zy _ _) (yM rfl))
  ·refine zZ rfl [(1,some 8),(3,some 10)] ?_;intro vs W hW hd K hK;have d1:vs 1 = .string (zl a):=hd 1 (by decide);have d3:vs 3 = .string (zl d):=hd 3 (by decide);clear hd;try simp only [d1,d3,zu,Act.put,zk,zj,zi,zg,zf,ze] at hK ⊢
   go_simp;go_at_call 115;(with_reducible first | refine (H1.out _).mono ?_);rintro e w9 ⟨rfl,hb9⟩;exact hK.out _ _ (rfl) hb9 (fun h=>absurd h (by decide))
  ·refine zZ rfl [(6,some 13),(8,some 15)] ?_;intro vs W hW hd K hK;have d6:vs 6 = .string (zl c):=hd 6 (by decide);have d8:vs 8 = .string (zl b):=hd 8 (by decide);clear hd;try simp only [d6,d8,zu,Act.put,zk,zj,zi,zg,zf,ze] at hK ⊢
   go_simp;go_at_call 115;(with_reducible first | refine (H2.out _).mono ?_);rintro e w9 ⟨rfl,hb9⟩;exact hK.out _ _ (rfl) hb9 (fun h=>absurd h (by decide))
  ·refine zZ rfl [(11,some 18),(13,some 20)] ?_;intro vs W hW hd K hK;have d11:vs 11 = .string (zl b):=hd 11 (by decide);have d13:vs 13 = .string (zl d):=hd 13 (by decide);clear hd;try simp only [d11,d13,zu,Act.put,zk,zj,zi,zg,zf,ze] at hK ⊢
   go_simp;go_at_call 115;(with_reducible first | refine (H3.out _).mono ?_);rintro e w9 ⟨rfl,hb9⟩;exact hK.out _ _ (rfl) hb9 (fun h=>absurd h (by decide))
 refine yp [(0,some 7),(1,some 8),(2,some 9),(3,some 10),(4,some 11),(5,some 12),(6,some 13),(7,some 14),(8,some 15),(9,some 16),(10,some 17),(11,some 18),(12,some 19),(13,some 20),(14,some 21),(15,some 4),(16,some 5),(17,some 6)] #[true,true,true,true,true,true,true,true,true,true,true,true,true,true,true,true,true,true] 0 ?_;intro vs Wf hW hd hbk hdis kf;simp only [qh,zm,and_true,List.getD_cons_succ,List.getD_cons_zero] at hd;obtain ⟨d0,d1,d2,d3,d4,d5,d6,d7,d8,d9,d10,d11,d12,d13,d14,d15,d16,d17⟩:=hd;clear hbk hdis;try simp only [d0,d1,d2,d3,d4,d5,d6,d7,d8,d9,d10,d11,d12,d13,d14,d15,d16,d17,zu,Act.put,zk,zj,zi,zg,zf,ze]
 clear d0 d1 d2 d3 d4 d5 d6 d7 d8 d9 d10 d11 d12 d13 d14 d15 d16 d17 vs;clear HS;refine z8 (by kernel_rfl) ?_ _;all_goals
  try go_wp2
  exact bodyPost_ret (zhl rfl _ _ _) rfl ⟨rfl,zx BL.out hW BL.out.size⟩
theorem radd02 (w:World) (p q:Rat) (hp:0≤p) (hq:0≤q) (d1:zA (qn p)≤400000) (d2:zA p.den≤400000) (d3:zA (qn q)≤400000) (d4:zA q.den≤400000) :
  Calls Tryz.prog 105 #[yV p,yV q] w fun e w'=>e = .returned (yV (p+q))∧Below w.heap.size w w':=by
 have e0:qq (qn p*q.den+qn q*p.den) (p.den*q.den)=p+q:=by
  have:=zho (qn p) p.den (qn q) q.den;rwa [qJ p.den_pos,qJ q.den_pos,pQ hp,pQ hq] at this
 have k1:=zcv _ _ 400000 d1 d4 (by decide);have k2:=zcv _ _ 400000 d3 d2 (by decide);have k3:=zcv _ _ 400000 d2 d4 (by decide);have k4:zA (qn p*q.den+qn q*p.den)≤800001:=pp _ _ 800000 (by omega) (by omega);have hov:=fun W=>rover02 W (qn p) p.den (qn q) q.den d1 d2 d3 d4;have hpl:=fun W=>zgq W (qn p*q.den) (qn q*p.den) (by omega) (by omega);have hnw:=fun W=>jA W (qn p*q.den+qn q*p.den) (p.den*q.den) (by omega) (by omega) (Nat.mul_pos p.den_pos q.den_pos);rw [e0] at hnw;unfold yV at hnw ⊢;generalize p.den*q.den=m3 at *
 generalize qn p*q.den=m1 at *
 generalize qn q*p.den=m2 at *
 generalize qn (p+q)=x at *
 generalize (p+q).den=y at *
 generalize qn p=a at *
 generalize p.den=b at *
 generalize qn q=c at *
 generalize q.den=d at *
 have q0:=(Kp.nil w).new #[.string (zl a),.string (zl b)] 42 w.heap.size 2 rfl rfl;have q1:=q0.new #[.string (zl c),.string (zl d)] 42 (w.heap.size+1) 2 (by simp) rfl;have q2:=q1.new #[.string ⟨#[]⟩,.string ⟨#[]⟩] 42 (w.heap.size+1+1) 2 (by simp) rfl;have s1:World.cell? _ ⟨w.heap.size,0,none⟩=some (.string (zl a)):=(q2.row 2 rfl).cell (i:=0) (by decide);have s2:World.cell? _ ⟨w.heap.size,1,none⟩=some (.string (zl b)):=(q2.row 2 rfl).cell (i:=1) (by decide);have s3:World.cell? _ ⟨w.heap.size+1,0,none⟩=some (.string (zl c)):=(q2.row 1 rfl).cell (i:=0) (by decide);have s4:World.cell? _ ⟨w.heap.size+1,1,none⟩=some (.string (zl d)):=(q2.row 1 rfl).cell (i:=1) (by decide);have y1:=(q2.row 0 rfl).frozen 0;have y2:=(q2.row 0 rfl).frozen 1;have z1:World.cell? _ ⟨w.heap.size+1+1,0,none⟩=some (.string ⟨#[]⟩):=(q2.row 0 rfl).cell (i:=0) (by decide);have z2:World.cell? _ ⟨w.heap.size+1+1,1,none⟩=some (.string ⟨#[]⟩):=(q2.row 0 rfl).cell (i:=1) (by decide);have HOV:=zc hov;have HPL:=zc hpl;have HNW:=zc hnw;have Q0:=zc q2;clear hov hpl hnw q0 q1 q2 e0 k1 k2 k3 k4 d1 d2 d3 d4 hp hq;go_enter Tryz.func105, Tryz.ntmps105;go_wp2_with (first
  | (go_at_call 143;(with_reducible refine (HOV.out _).mono ?_);rintro e w1 ⟨rfl,hb1⟩;have Q1:=zc (Q0.out.below hb1);clear hb1 Q0)
  | (go_at_call 144;(with_reducible refine (HPL.out _).mono ?_);rintro e w2 ⟨rfl,hb2⟩;have Q2:=zc (Q1.out.below hb2);clear hb2 Q1)
  | (go_at_call 108;(with_reducible refine (HNW.out _).mono ?_);rintro e w3 ⟨rfl,hb3⟩;have Q3:=zc ((Q2.out.below hb3).alloc (.cells #[.string (zl x),.string (zl y)] 42));clear hb3 Q2;clear y1 y2 z1 z2 s1 s2 s3 s4;have y1:=(Q3.out.row 0 rfl).frozen 0;have y2:=(Q3.out.row 0 rfl).frozen 1;have z1:World.cell? _ ⟨w.heap.size+1+1,0,none⟩=some (.string ⟨#[]⟩):=(Q3.out.row 0 rfl).cell (i:=0) (by decide);have z2:World.cell? _ ⟨w.heap.size+1+1,1,none⟩=some (.string ⟨#[]⟩):=(Q3.out.row 0 rfl).cell (i:=1) (by decide)))
 exact zhj rfl rfl (qx (Q3.out.row 0 rfl) _ _) rfl ⟨rfl,oZ Q3.out.bl (by omega) _ _⟩
theorem rmul02 (w:World) (p q:Rat) (hp:0≤p) (hq:0≤q) (d1:zA (qn p)≤400000) (d2:zA p.den≤400000) (d3:zA (qn q)≤400000) (d4:zA q.den≤400000) :
  Calls Tryz.prog 104 #[yV p,yV q] w fun e w'=>e = .returned (yV (p*q))∧Below w.heap.size w w':=by
 have e0:qq (qn p*qn q) (p.den*q.den)=p*q:=by
  have:=zfE (qn p) p.den (qn q) q.den;rwa [qJ p.den_pos,qJ q.den_pos,pQ hp,pQ hq] at this
 have k1:=zcv _ _ 400000 d1 d3 (by decide);have k2:=zcv _ _ 400000 d2 d4 (by decide);have hm1:=fun W=>zcV W (qn p) (qn q) (by omega) (by omega);have hm2:=fun W=>zcV W p.den q.den (by omega) (by omega);have hm3:=fun W=>jA W (qn p*qn q) (p.den*q.den) (by omega) (by omega) (Nat.mul_pos p.den_pos q.den_pos);rw [e0] at hm3;unfold yV at hm3 ⊢;generalize qn p*qn q=m1 at *
 generalize p.den*q.den=m2 at *
 generalize qn (p*q)=x at *
 generalize (p*q).den=y at *
 generalize qn p=a at *
 generalize p.den=b at *
 generalize qn q=c at *
 generalize q.den=d at *
 have q0:=(Kp.nil w).new #[.string (zl a),.string (zl b)] 42 w.heap.size 2 rfl rfl;have q1:=q0.new #[.string (zl c),.string (zl d)] 42 (w.heap.size+1) 2 (by simp) rfl;have q2:=q1.new #[.string ⟨#[]⟩,.string ⟨#[]⟩] 42 (w.heap.size+1+1) 2 (by simp) rfl;have s1:World.cell? _ ⟨w.heap.size,0,none⟩=some (.string (zl a)):=(q2.row 2 rfl).cell (i:=0) (by decide);have s2:World.cell? _ ⟨w.heap.size,1,none⟩=some (.string (zl b)):=(q2.row 2 rfl).cell (i:=1) (by decide);have s3:World.cell? _ ⟨w.heap.size+1,0,none⟩=some (.string (zl c)):=(q2.row 1 rfl).cell (i:=0) (by decide);have s4:World.cell? _ ⟨w.heap.size+1,1,none⟩=some (.string (zl d)):=(q2.row 1 rfl).cell (i:=1) (by decide);have H1:=zc hm1;have H2:=zc hm2;have H3:=zc hm3;have Q2:=zc q2;clear hm1 hm2 hm3 e0 k1 k2 d1 d2 d3 d4 hp hq q0 q1 q2;go_enter Tryz.func104, Tryz.ntmps104;go_upto_region 1 with (fail)
 obtain ⟨V,hV⟩:∃ V,((w.alloc (.cells #[.string (zl a),.string (zl b)] 42)).alloc (.cells #[.string (zl c),.string (zl d)] 42)).alloc (.cells #[.string ⟨#[]⟩,.string ⟨#[]⟩] 42)=V:=⟨_,rfl⟩;obtain ⟨b2,hb2⟩:∃ b,w.heap.size=b:=⟨_,rfl⟩;obtain ⟨b3,hb3⟩:∃ b,w.heap.size+1=b:=⟨_,rfl⟩;have h2:b2≠b3:=by omega
 obtain ⟨b4,hb4⟩:∃ b,w.heap.size+1+1=b:=⟨_,rfl⟩;have g2:=World.block_lt_of_cell? _ _ s1;have g3:=World.block_lt_of_cell? _ _ s3;rw [hV] at s1 s2 s3 s4 g2 g3 Q2 ⊢;simp only [hb4];simp only [hb3] at s3 s4 g3 ⊢;simp only [hb2] at s1 s2 g2 ⊢;clear hV hb3 h2;have HS:Hid (∀ W,Below V.heap.size V W→W.cell? ⟨b2,0,none⟩=some (.string (zl a))∧W.cell? ⟨b2,1,none⟩=some (.string (zl b))∧W.cell? ⟨b3,0,none⟩=some (.string (zl c))∧W.cell? ⟨b3,1,none⟩=some (.string (zl d))):=zc fun W hb=>⟨zG hb s1 g2,zG hb s2 g2,zG hb s3 g3,zG hb s4 g3⟩;refine zga (n:=_) (PX:=[zm (.pointer (some ⟨b2,0,none⟩)),
    zm (.string (zl a)),
    zm (.pointer (some ⟨b3,0,none⟩)),
    zm (.string (zl c)),
    zm (.string (zl m1)),
    zm (.pointer (some ⟨b2,1,none⟩)),
    zm (.string (zl b)),
    zm (.pointer (some ⟨b3,1,none⟩)),
    zm (.string (zl d)),
    zm (.string (zl m2)),
    zm (.tuple #[.agg #[.string (zl x),.string (zl y)],.bool true]),
    zm (.tuple #[.agg #[.string (zl x),.string (zl y)],.bool true]),
    zm (.agg #[.string (zl x),.string (zl y)]),
    zm (.bool true),
    fun xl xv xw=>∃ X,xv = .pointer (some ⟨X,0,none⟩)∧V.heap.size≤X∧World.rowIs xw X 42 2 (zC #[.string ⟨#[]⟩,.string ⟨#[]⟩]),
    fun xl xv xw=>xv=xl.headD undef∧∃ X,xv = .pointer (some ⟨X,0,none⟩)∧V.heap.size≤X∧World.rowIs xw X 42 2 (zC #[.string (zl x),.string (zl y)]),
    zm (.bool true)])
   (AL:=[14,15]) (KL:=[(15,14)]) (DP:=[[],[0],[],[2],[1,3],[],[5],[],[7],[6,8],[4,9],[10],[11],[11],[],[14,12],[13]]) (L1:=[0,1,2,3,4,5,6,7,8,9,10,11,12,13,14,15,16]) (ex:=[]) (by kernel_rfl) rfl (by kernel_rfl) (by kernel_rfl) ?_ ?_ ?_ (fun bs hbs=>?_)
 ·intro i hi
  match i,hi with
  | 0,hi=>exact fun _ _ _ _ h=>h
  | 1,hi=>exact fun _ _ _ _ h=>h
  | 2,hi=>exact fun _ _ _ _ h=>h
  | 3,hi=>exact fun _ _ _ _ h=>h
  | 4,hi=>exact fun _ _ _ _ h=>h
  | 5,hi=>exact fun _ _ _ _ h=>h
  | 6,hi=>exact fun _ _ _ _ h=>h
  | 7,hi=>exact fun _ _ _ _ h=>h
  | 8,hi=>exact fun _ _ _ _ h=>h
  | 9,hi=>exact fun _ _ _ _ h=>h
  | 10,hi=>exact fun _ _ _ _ h=>h
  | 11,hi=>exact fun _ _ _ _ h=>h
  | 12,hi=>exact fun _ _ _ _ h=>h
  | 13,hi=>exact fun _ _ _ _ h=>h
  | 14,hi=>exact absurd hi (by decide)
  | 15,hi=>exact absurd hi (by decide)
  | 16,hi=>exact fun _ _ _ _ h=>h
  | i+17,_=>exact fun _ _ _ _ _=>trivial
 ·intro i hi
  match i,hi with
  | 0,hi=>exact absurd hi (by decide)
  | 1,hi=>exact absurd hi (by decide)
  | 2,hi=>exact absurd hi (by decide)
  | 3,hi=>exact absurd hi (by decide)
  | 4,hi=>exact absurd hi (by decide)
  | 5,hi=>exact absurd hi (by decide)
  | 6,hi=>exact absurd hi (by decide)
  | 7,hi=>exact absurd hi (by decide)
  | 8,hi=>exact absurd hi (by decide)
  | 9,hi=>exact absurd hi (by decide)
  | 10,hi=>exact absurd hi (by decide)
  | 11,hi=>exact absurd hi (by decide)
  | 12,hi=>exact absurd hi (by decide)
  | 13,hi=>exact absurd hi (by decide)
  | 14,hi=>exact fun l v w w2 h _ hb=>by obtain ⟨X,h1,h2,h3⟩:=h;subst h1;exact ⟨X,rfl,h2,gt h3 hb⟩
  | 15,hi=>exact fun l v w w2 h _ hb=>by obtain ⟨h0,X,h1,h2,h3⟩:=h;subst h1;exact ⟨h0,X,rfl,h2,gt h3 hb⟩
  | 16,hi=>exact absurd hi (by decide)
  | i+17,_=>exact fun _ _ _ _ _ _ _=>trivial
 ·refine zo ?_ (zo ?_ (zo ?_ (zo ?_ (zo ?_ (zo ?_ (zo ?_ (zo ?_ (zo ?_ (zo ?_ (zo ?_ (zo ?_ (zo ?_ (zo ?_ (zo ?_ (zo ?_ (zo ?_ qi))))))))))))))))
  ·refine StepO.intro rfl [] (by kernel_rfl) ?_;intro vs W hW0 hd K hK;have hW:=yg hW0;clear hd;try simp only [zu,Act.put,zk,zj,zi,zg,zf,ze] at hK ⊢
   obtain ⟨m1,m2,m3,m4⟩:=HS.out W hW;go_simp;exact hK.out _ _ rfl (pX rfl rfl)
  ·refine StepO.intro rfl [(0,some 8)] (by kernel_rfl) ?_;intro vs W hW0 hd K hK;have hW:=yg hW0;have d0:(vs 0) = .pointer (some ⟨b2,0,none⟩):=hd 0 (by decide);clear hd;try simp only [d0,zu,Act.put,zk,zj,zi,zg,zf,ze] at hK ⊢
   obtain ⟨m1,m2,m3,m4⟩:=HS.out W hW;go_simp;exact hK.out _ _ rfl (pX rfl rfl)
  ·refine StepO.intro rfl [] (by kernel_rfl) ?_;intro vs W hW0 hd K hK;have hW:=yg hW0;clear hd;try simp only [zu,Act.put,zk,zj,zi,zg,zf,ze] at hK ⊢
   obtain ⟨m1,m2,m3,m4⟩:=HS.out W hW;go_simp;exact hK.out _ _ rfl (pX rfl rfl)
  ·refine StepO.intro rfl [(2,some 10)] (by kernel_rfl) ?_;intro vs W hW0 hd K hK;have hW:=yg hW0;have d2:(vs 2) = .pointer (some ⟨b3,0,none⟩):=hd 2 (by decide);clear hd;try simp only [d2,zu,Act.put,zk,zj,zi,zg,zf,ze] at hK ⊢
   obtain ⟨m1,m2,m3,m4⟩:=HS.out W hW;go_simp;exact hK.out _ _ rfl (pX rfl rfl)
  ·refine StepO.intro rfl [(1,some 9),(3,some 11)] (by kernel_rfl) ?_;intro vs W hW0 hd K hK;have hW:=yg hW0;have d1:(vs 1) = .string (zl a):=hd 1 (by decide);have d3:(vs 3) = .string (zl c):=hd 3 (by decide);clear hd;try simp only [d1,d3,zu,Act.put,zk,zj,zi,zg,zf,ze] at hK ⊢
   go_simp;go_at_call 115;(with_reducible first | refine (H1.out _).mono ?_);rintro e w9 ⟨rfl,hb9⟩;exact hK.out _ _ (rfl) (zgl rfl rfl hb9)
  ·refine StepO.intro rfl [] (by kernel_rfl) ?_;intro vs W hW0 hd K hK;have hW:=yg hW0;clear hd;try simp only [zu,Act.put,zk,zj,zi,zg,zf,ze] at hK ⊢
   obtain ⟨m1,m2,m3,m4⟩:=HS.out W hW;go_simp;exact hK.out _ _ rfl (pX rfl rfl)
  ·refine StepO.intro rfl [(5,some 13)] (by kernel_rfl) ?_;intro vs W hW0 hd K hK;have hW:=yg hW0;have d5:(vs 5) = .pointer (some ⟨b2,1,none⟩):=hd 5 (by decide);clear hd;try simp only [d5,zu,Act.put,zk,zj,zi,zg,zf,ze] at hK ⊢
   obtain ⟨m1,m2,m3,m4⟩:=HS.out W hW;go_simp;exact hK.out _ _ rfl (pX rfl rfl)
  ·refine StepO.intro rfl [] (by kernel_rfl) ?_;intro vs W hW0 hd K hK;have hW:=yg hW0;clear hd;try simp only [zu,Act.put,zk,zj,zi,zg,zf,ze] at hK ⊢
   obtain ⟨m1,m2,m3,m4⟩:=HS.out W hW;go_simp;exact hK.out _ _ rfl (pX rfl rfl)
  ·refine StepO.intro rfl [(7,some 15)] (by kernel_rfl) ?_;intro vs W hW0 hd K hK;have hW:=yg hW0;have d7:(vs 7) = .pointer (some ⟨b3,1,none⟩):=hd 7 (by decide);clear hd;try simp only [d7,zu,Act.put,zk,zj,zi,zg,zf,ze] at hK ⊢
   obtain ⟨m1,m2,m3,m4⟩:=HS.out W hW;go_simp;exact hK.out _ _ rfl (pX rfl rfl)
  ·refine StepO.intro rfl [(6,some 14),(8,some 16)] (by kernel_rfl) ?_;intro vs W hW0 hd K hK;have hW:=yg hW0;have d6:(vs 6) = .string (zl b):=hd 6 (by decide);have d8:(vs 8) = .string (zl d):=hd 8 (by decide);clear hd;try simp only [d6,d8,zu,Act.put,zk,zj,zi,zg,zf,ze] at hK ⊢
   go_simp;go_at_call 115;(with_reducible first | refine (H2.out _).mono ?_);rintro e w9 ⟨rfl,hb9⟩;exact hK.out _ _ (rfl) (zgl rfl rfl hb9)
  ·refine StepO.intro rfl [(4,some 12),(9,some 17)] (by kernel_rfl) ?_;intro vs W hW0 hd K hK;have hW:=yg hW0;have d4:(vs 4) = .string (zl m1):=hd 4 (by decide);have d9:(vs 9) = .string (zl m2):=hd 9 (by decide);clear hd;try simp only [d4,d9,zu,Act.put,zk,zj,zi,zg,zf,ze] at hK ⊢
   go_simp;go_at_call 108;(with_reducible first | refine (H3.out _).mono ?_);rintro e w9 ⟨rfl,hb9⟩;exact hK.out _ _ (rfl) (zgl rfl rfl hb9)
  ·refine StepO.intro rfl [(10,some 18)] (by kernel_rfl) ?_;intro vs W hW0 hd K hK;have hW:=yg hW0;have d10:(vs 10) = .tuple #[.agg #[.string (zl x),.string (zl y)],.bool true]:=hd 10 (by decide);clear hd;try simp only [d10,zu,Act.put,zk,zj,zi,zg,zf,ze] at hK ⊢
   go_simp;exact hK.out _ _ rfl (pX rfl rfl)
  ·refine StepO.intro rfl [(11,some 7)] (by kernel_rfl) ?_;intro vs W hW0 hd K hK;have hW:=yg hW0;have d11:(vs 11) = .tuple #[.agg #[.string (zl x),.string (zl y)],.bool true]:=hd 11 (by decide);clear hd;try simp only [d11,zu,Act.put,zk,zj,zi,zg,zf,ze] at hK ⊢
   go_simp;exact hK.out _ _ rfl (pX rfl rfl)
  ·refine StepO.intro rfl [(11,some 7)] (by kernel_rfl) ?_;intro vs W hW0 hd K hK;have hW:=yg hW0;have d11:(vs 11) = .tuple #[.agg #[.string (zl x),.string (zl y)],.bool true]:=hd 11 (by decide);clear hd;try simp only [d11,zu,Act.put,zk,zj,zi,zg,zf,ze] at hK ⊢
   go_simp;exact hK.out _ _ rfl (pX rfl rfl)
  ·refine StepO.intro rfl [] (by kernel_rfl) ?_;intro vs W hW0 hd K hK;have hW:=yg hW0;clear hd;try simp only [zu,Act.put,zk,zj,zi,zg,zf,ze] at hK ⊢
   go_simp;exact hK.out _ _ ⟨W.heap.size,rfl,hW.size,zI _ _ _ _ _ rfl rfl⟩ (rl_new rfl _ rfl)
  ·refine StepO.intro rfl [(14,some 5),(12,some 19)] (by kernel_rfl) ?_;intro vs W hW0 hd K hK;have hW:=yg hW0;obtain ⟨X14,d14,b14,r14⟩:∃ X,(vs 14) = .pointer (some ⟨X,0,none⟩)∧V.heap.size≤X∧World.rowIs W X 42 2 (zC #[.string ⟨#[]⟩,.string ⟨#[]⟩]):=hd 14 (by decide);have d12:(vs 12) = .agg #[.string (zl x),.string (zl y)]:=hd 12 (by decide);clear hd;try simp only [d14,d12,zu,Act.put,zk,zj,zi,zg,zf,ze] at hK ⊢
   have l14:=r14.lt;have y14_0:=r14.frozen 0;have k14_0:=r14.cell (i:=0) (by decide);have y14_1:=r14.frozen 1;have k14_1:=r14.cell (i:=1) (by decide);go_simp;exact hK.out (.pointer (some ⟨X14,0,none⟩)) _ ⟨d14.symm,X14,rfl,b14,(qx r14 _ _)⟩ (rl_store (by decide) (d14) rfl ((zhD _ _ _ _).trans (zhD _ _ _ _)) (by simp;exact r14.lt))
  ·refine StepO.intro rfl [(13,some 20)] (by kernel_rfl) ?_;intro vs W hW0 hd K hK;have hW:=yg hW0;have d13:(vs 13) = .bool true:=hd 13 (by decide);clear hd;try simp only [d13,zu,Act.put,zk,zj,zi,zg,zf,ze] at hK ⊢
   go_simp;exact hK.out _ _ rfl (pX rfl rfl)
 obtain rfl:bs=[]:=List.eq_nil_of_length_eq_zero hbs;refine FinO.intro [(0,some 8),(1,some 9),(2,some 10),(3,some 11),(4,some 12),(5,some 13),(6,some 14),(7,some 15),(8,some 16),(9,some 17),(10,some 18),(11,some 7),(12,some 19),(13,some 20),(14,some 5),(15,none),(16,some 6)] #[true,true,true,true,true,true,true,true,true,true,true,true,true,true,true,true,true] 0 (by kernel_rfl) (by kernel_rfl) (by kernel_rfl) ?_;intro vs Wf hI kf;have hW:Below V.heap.size V Wf:=zx (qY (zy _ _) 1) hI.bl (zv _);have d0:(vs 0) = .pointer (some ⟨b2,0,none⟩):=hI.px 0 (by decide) (jo (by decide));have d1:(vs 1) = .string (zl a):=hI.px 1 (by decide) (jo (by decide));have d2:(vs 2) = .pointer (some ⟨b3,0,none⟩):=hI.px 2 (by decide) (jo (by decide));have d3:(vs 3) = .string (zl c):=hI.px 3 (by decide) (jo (by decide));have d4:(vs 4) = .string (zl m1):=hI.px 4 (by decide) (jo (by decide));have d5:(vs 5) = .pointer (some ⟨b2,1,none⟩):=hI.px 5 (by decide) (jo (by decide));have d6:(vs 6) = .string (zl b):=hI.px 6 (by decide) (jo (by decide));have d7:(vs 7) = .pointer (some ⟨b3,1,none⟩):=hI.px 7 (by decide) (jo (by decide));have d8:(vs 8) = .string (zl d):=hI.px 8 (by decide) (jo (by decide));have d9:(vs 9) = .string (zl m2):=hI.px 9 (by decide) (jo (by decide));have d10:(vs 10) = .tuple #[.agg #[.string (zl x),.string (zl y)],.bool true]:=hI.px 10 (by decide) (jo (by decide));have d11:(vs 11) = .tuple #[.agg #[.string (zl x),.string (zl y)],.bool true]:=hI.px 11 (by decide) (jo (by decide));have d12:(vs 12) = .agg #[.string (zl x),.string (zl y)]:=hI.px 12 (by decide) (jo (by decide));have d13:(vs 13) = .bool true:=hI.px 13 (by decide) (jo (by decide));obtain ⟨e15,X15,d15,b15,r15⟩:(vs 15)=vs 14∧∃ X,(vs 15) = .pointer (some ⟨X,0,none⟩)∧V.heap.size≤X∧World.rowIs Wf X 42 2 (zC #[.string (zl x),.string (zl y)]):=hI.px 15 (by decide) (jo (by decide));have d16:(vs 16) = .bool true:=hI.px 16 (by decide) (jo (by decide));have f15:vs 14 = .pointer (some ⟨X15,0,none⟩):=e15.symm.trans d15;clear hI;try simp only [d0,d1,d2,d3,d4,d5,d6,d7,d8,d9,d10,d11,d12,d13,d15,d16,f15,zu,Act.put,zk,zj,zi,zg,zf,ze]
 clear d0 d1 d2 d3 d4 d5 d6 d7 d8 d9 d10 d11 d12 d13 d15 d16 f15 e15;clear HS;refine z8 (by kernel_rfl) ?_ _;all_goals
  have Q3:=Q2.out.below hW;clear Q2;have y1:=(Q3.row 0 rfl).frozen 0;have y2:=(Q3.row 0 rfl).frozen 1;have z1:World.cell? _ ⟨w.heap.size+1+1,0,none⟩=some (.string ⟨#[]⟩):=(Q3.row 0 rfl).cell (i:=0) (by decide);have z2:World.cell? _ ⟨w.heap.size+1+1,1,none⟩=some (.string ⟨#[]⟩):=(Q3.row 0 rfl).cell (i:=1) (by decide);have x1:World.cell? _ ⟨X15,0,none⟩=some (.string (zl x)):=r15.cell (i:=0) (by decide);have x2:World.cell? _ ⟨X15,1,none⟩=some (.string (zl y)):=r15.cell (i:=1) (by decide);have QQ:=zc Q3;clear Q3;subst hb4;subst hb2;try go_wp2
  exact zhj rfl rfl (qx (QQ.out.row 0 rfl) _ _) rfl ⟨rfl,oZ QQ.out.bl (by omega) _ _⟩
end Go.Proofs.YtmhllppjcilllaaGreatDoor
