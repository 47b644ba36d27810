import Derived.Test.YtmhllppjcilllaaGreatDoorMr
set_option linter.unusedSimpArgs false
set_option linter.unusedVariables false
set_option maxRecDepth 100000
set_option maxHeartbeats 8000000
open Go Go.RowKit Cs
namespace Go.Proofs.YtmhllppjcilllaaGreatDoor
structure PtS (V1:World) (q:List (Nat×TypeId×Nat×(Nat→Value))) (ba bb:Nat) (a b:Pr) (W:World):Prop where
 q:Kp V1 q W
 ra:W.rowIs ba 33 2 (qo a.1 a.2)
 rb:W.rowIs bb 33 2 (qo b.1 b.2)
structure PtN (V1:World) (q:List (Nat×TypeId×Nat×(Nat→Value))) (ba bb:Nat):Prop where
 h1:V1.heap.size≤ba
 h2:V1.heap.size≤bb
 n1:ba≠bb
 n4:∀ r∈q,r.1≠ba∧r.1≠bb
section
variable {V1 W W':World} {q:List (Nat×TypeId×Nat×(Nat→Value))} {ba bb:Nat} {a b:Pr}
theorem PtS.below (s:PtS V1 q ba bb a b W) (hb:Below W.heap.size W W'):PtS V1 q ba bb a b W':=⟨s.q.below hb,zh s.ra hb,zh s.rb hb⟩
theorem PtS.add (s:PtS V1 q ba bb a b W) {g n:Nat} {e:TypeId} {f:Nat→Value} (hr:W.rowIs g e n f):PtS V1 ((g,e,n,f)::q) ba bb a b W:=⟨s.q.add hr,s.ra,s.rb⟩
theorem PtS.tail {r:Nat×TypeId×Nat×(Nat→Value)} (s:PtS V1 (r::q) ba bb a b W):PtS V1 q ba bb a b W:=⟨⟨s.q.bl,fun x hx=>s.q.rows x (List.mem_cons_of_mem _ hx)⟩,s.ra,s.rb⟩
theorem PtN.add (n:PtN V1 q ba bb) {g k:Nat} {e:TypeId} {f:Nat→Value} (h:g≠ba∧g≠bb):PtN V1 ((g,e,k,f)::q) ba bb:=⟨n.h1,n.h2,n.n1,fun r hr=>by
 rcases List.mem_cons.1 hr with rfl | hr
 ·exact h
 ·exact n.n4 r hr⟩
theorem PtS.setA (s:PtS V1 q ba bb a b W) (n:PtN V1 q ba bb) (p:Pr):PtS V1 q ba bb p b ((W.setCell ⟨ba,0,none⟩ (.string (zb p.1))).setCell ⟨ba,1,none⟩ (.string (zb p.2))) :=
 ⟨s.q.put2 n.h1 (fun r hr=>(n.n4 r hr).1) _ _,(qx s.ra _ _).congr (ye _ _),(s.rb.setOther (Ne.symm n.n1) _).setOther (Ne.symm n.n1) _⟩
theorem PtS.setB (s:PtS V1 q ba bb a b W) (n:PtN V1 q ba bb) (p:Pr):PtS V1 q ba bb a p ((W.setCell ⟨bb,0,none⟩ (.string (zb p.1))).setCell ⟨bb,1,none⟩ (.string (zb p.2))) :=
 ⟨s.q.put2 n.h2 (fun r hr=>(n.n4 r hr).2) _ _,(s.ra.setOther n.n1 _).setOther n.n1 _,(qx s.rb _ _).congr (ye _ _)⟩
end
theorem u8_of (k:Nat) (h:k<256):IntKind.u8.wrap (k:Int)=(k:Int):=by rw [IntKind.wrap_u8];omega
theorem x9 {n k pk sg:Nat} (hn:n≤8) (hk:k<2^n) (hp:pk<256) (hs:sg<256) :
  (bits BinOp.and IntKind.u8 (k:Int) (pk:Int)==bits BinOp.and IntKind.u8 (bits BinOp.andNot IntKind.u8 (pk:Int) (sg:Int)) ((2^n-1:Nat):Int))=yF (ql 0 pk sg n) k n:=by
 have h2:2^n≤256:=Nat.pow_le_pow_right (by decide) hn;have hl:pk &&& (255-sg)<256:=Nat.lt_of_le_of_lt Nat.and_le_left hp;rw [u8_and_nat k pk (by omega) hp,u8_andNot_nat pk sg hp hs,u8_and_nat _ _ hl (by omega)];rcases pe (pk:=pk) (sg:=sg) hn hk with h | h
 ·rw [← h];refine Bool.eq_iff_iff.2 ?_;rw [beq_iff_eq,decide_eq_true_iff];exact ⟨fun e=>Int.ofNat.inj e,fun e=>congrArg _ e⟩
 ·omega
theorem pc {n:Nat} (hn:n≤8):((2:Int)^n-1)%256=((2^n-1:Nat):Int):=by
 have:n=0∨n=1∨n=2∨n=3∨n=4∨n=5∨n=6∨n=7∨n=8:=by omega
 rcases this with rfl | rfl | rfl | rfl | rfl | rfl | rfl | rfl | rfl <;> decide
theorem parts_no (w:World) (hT:Tab w) (N:Nt) (A:Option Addr) (c:Nat) (Aw:Option Addr) (lw cw:Nat) (At:Option Addr) (lt ct:Nat) (hlen:N.l.length≤140737488355328) (hN:NtAt w w.heap.size A N.l) (pk sg:Nat) (hgo:∀ W,Below w.heap.size w W→Calls Tryz.prog 48 #[yE N A c Aw lw cw At lt ct] W fun e w'=>∃ r,e = .returned (.bool r)∧(r=true→False)∧Below W.heap.size W w') :
  Calls Tryz.prog 13 #[yE N A c Aw lw cw At lt ct,.int .u8 (pk:Int),.int .u8 (sg:Int)] w fun e w'=>e = .returned (.bool true)∧Below w.heap.size w w':=by
 have q0:Kp w [yR w.heap.size N A c Aw lw cw At lt ct] (w.alloc (.cells #[.int .i64 N.n,.slice A N.l.length c,.slice Aw lw cw,.slice At lt ct] 28)):=(Kp.nil w).new _ _ w.heap.size 4 rfl rfl;obtain ⟨s1,s2,s3,s4⟩:=jv (q0.row 0 rfl);have HGO:=zc hgo;have HT:=zc hT;have Q0:=zc q0;clear hgo hT q0 hN;go_enter Tryz.func13, Tryz.ntmps13;go_upto_region 1 with (fail)
 go_cut [21] from 19 to 21 (fun p wx=>∃ r,p = .bool (!r)∧Hid (r=true→False)∧Kp w [yR w.heap.size N A c Aw lw cw At lt ct] wx)
 case first =>
  go_wp2_with (go_at_call 48;(with_reducible refine (HGO.out _ Q0.out.bl).mono ?_);rintro e w1 ⟨r,rfl,hr,hb1⟩)
  all_goals
   go_meet;exact ⟨r,rfl,zc hr,Q0.out.below hb1⟩
 case rest =>
 obtain ⟨r,rfl,hr,hq⟩:=hcut;have Q1:=zc hq;clear hq s1 s2 s3 s4;cases r
 case false =>
  simp only [Bool.not_false];clear hr;go_wp2_with (go_at_call 15;(with_reducible refine (zbV _ (HT.out.below Q1.out.bl)).mono ?_);rintro e w2 ⟨rfl,hb2⟩;have Q2:=zc (Q1.out.below hb2))
  all_goals
   go_ret;exact ⟨rfl,Q2.out.bl⟩
 case true=>exact absurd (hr.out rfl) (fun h=>h)
theorem zkj (w:World) (hT:Tab w) (N:Nt) (A:Option Addr) (c:Nat) (Aw:Option Addr) (lw cw:Nat) (At:Option Addr) (lt ct:Nat) (hlen:N.l.length≤140737488355328) (hN:NtAt w w.heap.size A N.l) (pk sg:Nat) (hpk:pk<256) (hsg:sg<256) (n M:Nat) (L H:List Pr) (hM9:M≤129) (hMn:M=n+1) (hnn:N.n=(n:Int)) (hn8:n≤8)
  (haw:∀ W,Below w.heap.size w W→Calls Tryz.prog 17 #[yE N A c Aw lw cw At lt ct] W fun e w'=>∃ v g1 c1 g2 c2 F1 F2,e = .returned v∧WtV W.heap.size M L H v g1 c1 g2 c2 F1 F2 w'∧Below W.heap.size W w')
  (hgo:∀ W,Below w.heap.size w W→Calls Tryz.prog 48 #[yE N A c Aw lw cw At lt ct] W fun e w'=>∃ r,e = .returned (.bool r)∧(r=true→True)∧Below W.heap.size W w')
  (ev ok:Nat→Bool) (hok:∀ k:Nat,k<2^n→(bits BinOp.and IntKind.u8 (k:Int) (pk:Int)==bits BinOp.and IntKind.u8 (bits BinOp.andNot IntKind.u8 (pk:Int) (sg:Int)) ((2^n-1:Nat):Int))=ok k) (f:Nat→Pr) (hev:∀ k:Nat,k<2^n→∀ W,Below w.heap.size w W→Calls Tryz.prog 49 #[qB N A c,.agg #[.int .u64 (k:Int),.int .u64 0]] W fun e w'=>e = .returned (.bool (ev k))∧Below W.heap.size W w')
  (hwt:∀ k:Nat,k<2^n→∀ W b9 b10 g1 c1 g2 c2,WnS N A c b9 b10 g1 c1 g2 c2 M L H W→Calls Tryz.prog 50 #[yw (some ⟨g1,0,none⟩) (some ⟨g2,0,none⟩) M M c1 c2,.int .i64 N.n,.int .u64 (k:Int)] W fun e w'=>e = .returned (zD (f k).1 (f k).2)∧Below W.heap.size W w')
  (had:∀ k:Nat,k<2^n→∀ (p:Nat→Bool) (z:Pr),(z=(0,0)∨z=(0,1))→∀ W,Calls Tryz.prog 27 #[zD (zP p f z k).1 (zP p f z k).2,zD (f k).1 (f k).2] W fun e w'=>e = .returned (zD (pq (qp (zP p f z k)+qp (f k))).1 (pq (qp (zP p f z k)+qp (f k))).2)∧Below W.heap.size W w')
  (S:Pr) (E:Int) (hsh:∀ W b9 b10 g1 c1 g2 c2,WnS N A c b9 b10 g1 c1 g2 c2 M L H W→M≤c1→M≤c2→∀ (At:Option Addr) (ct:Nat),Rd W W.heap.size At (ql 0 pk sg n).length (zV (ql 0 pk sg n))→Calls Tryz.prog 23 #[qB N A c,yw (some ⟨g1,0,none⟩) (some ⟨g2,0,none⟩) M M c1 c2,.slice At (ql 0 pk sg n).length ct] W fun e w'=>e = .returned (.tuple #[zD S.1 S.2,.int .i64 E])∧Below W.heap.size W w')
  (Q:Pr) (d:Bool) (hdv:∀ W,Calls Tryz.prog 36 #[zD (zP (fun s=>ev s&&ok s) f (0,1) (2^n)).1 (zP (fun s=>ev s&&ok s) f (0,1) (2^n)).2,zD (zP ev f (0,1) (2^n)).1 (zP ev f (0,1) (2^n)).2] W fun e w'=>e = .returned (.tuple #[zD Q.1 Q.2,.bool d])∧Below W.heap.size W w')
  (hno:d=false→E=3∧∀ W,Calls Tryz.prog 26 #[zD S.1 S.2,zD 0 1] W fun e w'=>e = .returned (.bool true)∧Below W.heap.size W w')
  (hyes:d=true→E=0∧∀ W,Calls Tryz.prog 26 #[zD S.1 S.2,zD Q.1 Q.2] W fun e w'=>e = .returned (.bool true)∧Below W.heap.size W w') :
  Calls Tryz.prog 13 #[yE N A c Aw lw cw At lt ct,.int .u8 (pk:Int),.int .u8 (sg:Int)] w fun e w'=>e = .returned (.bool true)∧Below w.heap.size w w':=by
 have q0:Kp w [yR w.heap.size N A c Aw lw cw At lt ct] (w.alloc (.cells #[.int .i64 N.n,.slice A N.l.length c,.slice Aw lw cw,.slice At lt ct] 28)):=(Kp.nil w).new _ _ w.heap.size 4 rfl rfl;obtain ⟨s1,s2,s3,s4⟩:=jv (q0.row 0 rfl);have HGO:=zc hgo;have HAW:=zc haw;have HNN:=zc hnn;have HMN:=zc hMn;have HM9:=zc hM9;have HN8:=zc hn8;have HPK:=zc hpk;have HSG:=zc hsg;have HSH:=zc hsh;have HMSK:=zc (pc hn8);obtain ⟨K,hK⟩:∃ K,2^n=K:=⟨_,rfl⟩;rw [hK] at hev hwt had hok hdv;have HKE:=zc hK;have HK9:=zc (show K≤256 by rw [← hK];exact Nat.pow_le_pow_right (by decide) hn8);have HEV:=zc hev;have HWT:=zc hwt;have HAD:=zc had;have HOK:=zc hok;have HDV:=zc hdv;have HNO0:=zc hno;have HYES0:=zc hyes;have HT:=zc hT;have HN:=zc hN;have Q0:=zc q0;clear hgo hT q0 hN haw hev hwt had hok hsh hdv hno hyes hnn hMn hM9 hn8 hK hpk hsg;go_enter Tryz.func13, Tryz.ntmps13;go_upto_region 1 with (fail)
 go_cut [21] from 19 to 21 (fun p wx=>∃ r,p = .bool (!r)∧Hid (r=true→True)∧Kp w [yR w.heap.size N A c Aw lw cw At lt ct] wx)
 case first =>
  go_wp2_with (go_at_call 48;(with_reducible refine (HGO.out _ Q0.out.bl).mono ?_);rintro e w1 ⟨r,rfl,hr,hb1⟩)
  all_goals
   go_meet;exact ⟨r,rfl,zc hr,Q0.out.below hb1⟩
 case rest =>
 obtain ⟨r,rfl,hr,hq⟩:=hcut;have Q1:=zc hq;clear hq s1 s2 s3 s4;cases r
 case false =>
  simp only [Bool.not_false];clear hr;go_wp2_with (go_at_call 15;(with_reducible refine (zbV _ (HT.out.below Q1.out.bl)).mono ?_);rintro e w2 ⟨rfl,hb2⟩;have Q2:=zc (Q1.out.below hb2))
  all_goals
   go_ret;exact ⟨rfl,Q2.out.bl⟩
 case true =>
 simp only [Bool.not_true];clear hr HGO;obtain ⟨V0,rfl⟩:∃ V,V=wc:=⟨wc,rfl⟩;obtain ⟨s1,s2,s3,s4⟩:=jv (Q1.out.row 0 rfl);go_upto_region 3 with (fail)
 go_cut [7,8] from 23 to 26 (fun p q wx=>∃ b3 b4 g1 c1 g2 c2 F1 F2,p = .pointer (some ⟨b3,0,none⟩)∧q = .pointer (some ⟨b4,0,none⟩)∧wx.rowIs b3 24 2 (zC #[.int .i64 N.n,.slice A N.l.length c])∧wx.rowIs b4 39 2 (zC #[.slice (some ⟨g1,0,none⟩) M c1,.slice (some ⟨g2,0,none⟩) M c2])∧WtV w.heap.size M L H (.agg #[.slice (some ⟨g1,0,none⟩) M c1,.slice (some ⟨g2,0,none⟩) M c2]) g1 c1 g2 c2 F1 F2 wx∧Below w.heap.size w wx)
 case first =>
  have BL:=zc Q1.out.bl;have hbx:=(Q1.out.row 0 rfl).lt;have HS:Hid (∀ W,Below V0.heap.size V0 W→W.cell? ⟨w.heap.size,0,none⟩=some (.int .i64 N.n)∧W.cell? ⟨w.heap.size,1,none⟩=some (.slice A N.l.length c)∧W.cell? ⟨w.heap.size,2,none⟩=some (.slice Aw lw cw)∧W.cell? ⟨w.heap.size,3,none⟩=some (.slice At lt ct)):=zc fun W hb=>⟨zG hb s1 hbx,zG hb s2 hbx,zG hb s3 hbx,zG hb s4 hbx⟩;refine yT (n:=_) (PX:=[zm (.pointer (some ⟨w.heap.size,0,none⟩)),
     zm (.agg #[.int .i64 N.n,.slice A N.l.length c]),
     zm (.agg #[.int .i64 N.n,.slice A N.l.length c,.slice Aw lw cw,.slice At lt ct]),
     fun xl xv xw=>∃ g1 c1 g2 c2 F1 F2,xv = .agg #[.slice (some ⟨g1,0,none⟩) M c1,.slice (some ⟨g2,0,none⟩) M c2]∧WtV V0.heap.size M L H (.agg #[.slice (some ⟨g1,0,none⟩) M c1,.slice (some ⟨g2,0,none⟩) M c2]) g1 c1 g2 c2 F1 F2 xw,
     fun xl xv xw=>∃ X,xv = .pointer (some ⟨X,0,none⟩)∧V0.heap.size≤X∧World.rowIs xw X 24 2 (zC #[.int .i64 0,.slice none 0 0]),
     fun xl xv xw=>∃ X,xv = .pointer (some ⟨X,0,none⟩)∧V0.heap.size≤X∧World.rowIs xw X 39 2 (zC #[.slice none 0 0,.slice none 0 0])])
    (AL:=[4,5]) (DP:=[[],[0],[],[2],[],[]]) (L1:=[0,1,2,3,4,5]) (ex:=[]) (by kernel_rfl) rfl (by kernel_rfl) ?_ ?_ (ji ?_)
  ·repeat' first|exact qi|refine zo ?_ ?_|exact fun _ _ _ _ h _=>h|fail
   ·exact fun l v w w2 h hb=>by obtain ⟨g1,c1,g2,c2,F1,F2,h1,h2⟩:=h;exact ⟨g1,c1,g2,c2,F1,F2,h1,h2.below hb⟩
   ·exact fun l v w w2 h hb=>by obtain ⟨X,h1,h2,h3⟩:=h;exact ⟨X,h1,h2,zh h3 hb⟩
   ·exact fun l v w w2 h hb=>by obtain ⟨X,h1,h2,h3⟩:=h;exact ⟨X,h1,h2,zh h3 hb⟩
  ·refine zo (zw rfl [] ?_) (zo (zw rfl [(0,some 23)] ?_) (zo (zw rfl [] ?_) (zo ?_ (zo ?_ (zo ?_ qi)))));all_goals try (intro vs W hW hd K hK;(try simp only [qh,zm,and_true,List.getD_cons_succ,List.getD_cons_zero] at hd);(first | simp only [hd,zu,Act.put,zk,zj,zi,zg,zf,ze] at hK ⊢ | simp only [zu,Act.put,zk,zj,zi,zg,zf,ze] at hK ⊢ | skip);obtain ⟨m1,m2,m3,m4⟩:=HS.out W hW;go_simp;exact hK.out _ _ rfl (zy _ _) (yM rfl))
   ·refine zZ rfl [(2,some 25)] ?_;intro vs W hW hd K hK;have d2:vs 2 = .agg #[.int .i64 N.n,.slice A N.l.length c,.slice Aw lw cw,.slice At lt ct]:=hd 2 (by decide);clear hd;try simp only [d2,zu,Act.put,zk,zj,zi,zg,zf,ze] at hK ⊢
    go_simp;go_at_call 17;(with_reducible first | refine (HAW.out _ (zx BL.out hW BL.out.size)).mono ?_);rintro e w9 ⟨v,g1,c1,g2,c2,F1,F2,rfl,hq9,hb9⟩;obtain rfl:=hq9.v;exact hK.out _ _ (⟨g1,c1,g2,c2,F1,F2,rfl,hq9.more hW.size⟩) hb9 (fun h=>absurd h (by decide))
   ·refine zZ rfl [] ?_;intro vs W hW hd K hK;clear hd;try simp only [zu,Act.put,zk,zj,zi,zg,zf,ze] at hK ⊢
    go_simp;exact hK.out _ _ ⟨W.heap.size,rfl,hW.size,zI _ _ _ _ _ rfl rfl⟩ ((zy _ _).alloc (zv _) _) (fun _ b hb=>by simp [zW] at hb;subst hb;exact ⟨zv _,by simp⟩)
   ·refine zZ rfl [] ?_;intro vs W hW hd K hK;clear hd;try simp only [zu,Act.put,zk,zj,zi,zg,zf,ze] at hK ⊢
    go_simp;exact hK.out _ _ ⟨W.heap.size,rfl,hW.size,zI _ _ _ _ _ rfl rfl⟩ ((zy _ _).alloc (zv _) _) (fun _ b hb=>by simp [zW] at hb;subst hb;exact ⟨zv _,by simp⟩)
  refine yp [(0,some 23),(1,some 24),(2,some 25),(3,some 26),(4,some 7),(5,some 8)] #[true,true,true,true,true,true,false,false] 2 ?_;intro vs Wf hW hd hbk hdis kf;simp only [qh,zm,and_true,List.getD_cons_succ,List.getD_cons_zero] at hd;obtain ⟨d0,d1,d2,⟨g1,c1,g2,c2,F1,F2,d3,hq8⟩,⟨X7,d4,b7,r7⟩,⟨X8,d5,b8,r8⟩⟩:=hd;have n7_8:X7≠X8:=fun h=>hdis 4 (by decide) 5 (by decide) (by decide) rfl rfl X7 (by rw [d4];rfl) (by rw [d5,h];rfl);have n8_7:=Ne.symm n7_8;clear hbk hdis;try simp only [d0,d1,d2,d3,d4,d5,zu,Act.put,zk,zj,zi,zg,zf,ze]
  clear d0 d1 d2 d3 d4 d5 vs;clear HS;have l7:=r7.lt;have y7_0:=r7.frozen 0;have k7_0:=r7.cell (i:=0) (by decide);have y7_1:=r7.frozen 1;have k7_1:=r7.cell (i:=1) (by decide);have l8:=r8.lt;have y8_0:=r8.frozen 0;have k8_0:=r8.cell (i:=0) (by decide);have y8_1:=r8.frozen 1;have k8_1:=r8.cell (i:=1) (by decide);refine zL 6 (by kernel_rfl) rfl (fun K hK=>?_);go_simp;refine hK.out _ _ ?_;clear hK K;try simp only [zu,Act.put,zk,zj,zi,zg,zf,ze]
  refine zL 7 (by kernel_rfl) rfl (fun K hK=>?_);go_simp;refine hK.out _ _ ?_;clear hK K;try simp only [zu,Act.put,zk,zj,zi,zg,zf,ze]
  refine z8 (by kernel_rfl) ?_ _;all_goals
   try go_wp2
   go_meet;have z:=zdh r7 r8 (by decide);have z1:=zdh r7 hq8.r1 (by decide);have z2:=zdh r7 hq8.r2 (by decide);have z3:=zdh r8 hq8.r1 (by decide);have z4:=zdh r8 hq8.r2 (by decide);exact ⟨X7,X8,g1,c1,g2,c2,F1,F2,rfl,rfl,((qx r7 _ _).setOther z _).setOther z _,qx ((r8.setOther (Ne.symm z) _).setOther (Ne.symm z) _) _ _,
    ((hq8.more BL.out.size).far z1.symm z2.symm _ _).far z3.symm z4.symm _ _,oZ (oZ (zx BL.out hW BL.out.size) (Nat.le_trans BL.out.size b7) _ _) (Nat.le_trans BL.out.size b8) _ _⟩
 case rest =>
 obtain ⟨V5,rfl⟩:∃ V,V=wc:=⟨wc,rfl⟩;obtain ⟨b3,b4,g1,c1,g2,c2,F1,F2,rfl,rfl,r3,r4,hq,hbl⟩:=hcut;have hm1:=hq.m1;have hm2:=hq.m2;have hs1:=wn_of (c:=c) HN.out HT.out hbl r3 r4 hq;have HS1:=zc hs1;have BL1:=zc hbl;have hx:=hs1 V5 (zy _ _);have M1:=zc hm1;have M2:=zc hm2;have hn128:n≤128:=by have:=HN8.out;omega
 obtain ⟨t1,t2,t3,t4⟩:=hx.cells;clear r3 r4 hq hbl hs1 hx HAW Q0 Q1 s1 s2 s3 s4 hm1 hm2;go_upto_region 4 with (fail)
 go_wp2_with fail
 go_loopw [9,10] (fun s tv wr=>∃ (u:Nat),1≤u∧u≤n+1∧tv = .int .i64 (u:Int)∧wr.ownsRow V5.heap.size 3 1 s (ql 0 pk sg (u-1)).length ((ql 0 pk sg (u-1)).map fun x=>.int .i64 x)∧Below V5.heap.size V5 wr) (fun _ tv _=>n+1-(intOf tv).toNat)
 case atStart=>exact ⟨1,zv _,by omega,rfl,World.ownsRow_nil _ _ _ _,zy _ _⟩
 case round =>
  obtain ⟨u,hu1,hu,rfl,hown,hb6⟩:=hrel;clear t1 t2 t3 t4;obtain ⟨t1,t2,t3,t4⟩:=(HS1.out _ hb6).cells;by_cases hlt:u<n+1
  ·have hc:decide ((u:Int)≤N.n)=true:=decide_eq_true (by have:=HNN.out;omega);have HLT:=zc hlt;obtain ⟨j,hj⟩:∃ j,u=j+1:=⟨u-1,by omega⟩;have hsj:(u:Int)-1=(j:Int):=by omega
   have HU:=zc hj;have OW:=zc hown;have B6:=zc hb6;have huN:u≤128:=by have:=HN8.out;omega
   have hmj:min j 8=j:=by have:=HN8.out;have:=HLT.out;omega
   have TML:=zc (zgf 0 pk sg (u-1));clear hj hown hb6 hlt;cases hpb:pk.testBit j with
   | false =>
     have hbp:bits BinOp.and IntKind.u8 ((pk:Int) / 2^j) 1=0:=by rw [ze9 pk j HPK.out];have:=hpb;rw [Nat.testBit_eq_decide_div_mod_eq] at this;simp at this;omega
     have htm:ql 0 pk sg u=ql 0 pk sg (u-1):=tmA_same HU.out (fun h=>by rw [hpb] at h;exact absurd h.2 (by decide));have HTM:=zc htm;clear htm hpb;go_wp2;go_roundw
     case rel=>exact ⟨u+1,by omega,Nat.succ_le_of_lt HLT.out,by go_num,by rw [Nat.add_sub_cancel,HTM.out];exact OW.out,B6.out⟩
     case measure=>have:=HLT.out;simp [intOf];omega
   | true =>
     have hbp:bits BinOp.and IntKind.u8 ((pk:Int) / 2^j) 1=1:=by rw [ze9 pk j HPK.out];have:=hpb;rw [Nat.testBit_eq_decide_div_mod_eq] at this;simp at this;omega
     obtain ⟨i0,hi0,hz0,hz1,hz2⟩:=info_parts xX;cases hsb:sg.testBit j with
     | false =>
       have hbs:bits BinOp.and IntKind.u8 ((sg:Int) / 2^j) 1=0:=by rw [ze9 sg j HSG.out];have:=hsb;rw [Nat.testBit_eq_decide_div_mod_eq] at this;simp at this;omega
       have hx1:IntKind.i64.wrap ((u:Int)-0)=(u:Int):=by rw [IntKind.wrap_i64];omega
       have hx2:IntKind.i64.wrap (u:Int)=(u:Int):=by rw [IntKind.wrap_i64];omega
       have hx3:IntKind.i64.wrap (2*(u:Int))=2*(u:Int):=by rw [IntKind.wrap_i64];omega
       have htm:ql 0 pk sg u=ql 0 pk sg (u-1)++[(u:Int)]:=by
        have e:=ziI (v:=0) (pk:=pk) (sg:=sg) HU.out (fun h=>by have:=HU.out;omega) hpb;rw [hsb] at e;exact e
       have HTM:=zc htm;clear htm hsb hpb;go_wp2_with (
        at_builtin
        go_loud (refine wpList_append_own _ rfl _ _ 26 rfl V5.heap.size 3 i0 (.int .i64 0) 1 8 Tryz.underlying26 hi0 hz0 hz1 hz2 rfl (by decide) _ _ _ rfl (OW.out.alloc _) ⟨wr.heap.size,0,none⟩ 1 1 [.int .i64 (u:Int)] ?qa0 rfl ?qa1 oneI (by have:=TML.out;unfold maxLen;omega) (by have:=TML.out;omega) (by have:=B6.out.size;simp;omega) ?_)
        case qa0=>rfl
        case qa1=>exact cell_one_new _ _ _
        intro v' w3 hown3 hgr3 _)
       go_roundw
       case rel=>exact ⟨u+1,by omega,Nat.succ_le_of_lt HLT.out,by go_num,by rw [Nat.add_sub_cancel,HTM.out,List.length_append,List.map_append];exact hown3,(B6.out.alloc B6.out.size _).grown hgr3 (by have:=B6.out.size;simp;omega) (fun b hb=>(OW.out.lt b hb).1)⟩
       case measure=>have:=HLT.out;simp [intOf];omega
     | true =>
       have hbs:bits BinOp.and IntKind.u8 ((sg:Int) / 2^j) 1=1:=by rw [ze9 sg j HSG.out];have:=hsb;rw [Nat.testBit_eq_decide_div_mod_eq] at this;simp at this;omega
       have hx1:IntKind.i64.wrap ((u:Int)-2*(u:Int))=(-(u:Int)):=by rw [IntKind.wrap_i64];omega
       have hx2:IntKind.i64.wrap (u:Int)=(u:Int):=by rw [IntKind.wrap_i64];omega
       have hx3:IntKind.i64.wrap (2*(u:Int))=2*(u:Int):=by rw [IntKind.wrap_i64];omega
       have htm:ql 0 pk sg u=ql 0 pk sg (u-1)++[(-(u:Int))]:=by
        have e:=ziI (v:=0) (pk:=pk) (sg:=sg) HU.out (fun h=>by have:=HU.out;omega) hpb;rw [hsb] at e;exact e
       have HTM:=zc htm;clear htm hsb hpb;go_wp2_with (
        at_builtin
        go_loud (refine wpList_append_own _ rfl _ _ 26 rfl V5.heap.size 3 i0 (.int .i64 0) 1 8 Tryz.underlying26 hi0 hz0 hz1 hz2 rfl (by decide) _ _ _ rfl (OW.out.alloc _) ⟨wr.heap.size,0,none⟩ 1 1 [.int .i64 (-(u:Int))] ?qa0 rfl ?qa1 oneI (by have:=TML.out;unfold maxLen;omega) (by have:=TML.out;omega) (by have:=B6.out.size;simp;omega) ?_)
        case qa0=>rfl
        case qa1=>exact cell_one_new _ _ _
        intro v' w3 hown3 hgr3 _)
       go_roundw
       case rel=>exact ⟨u+1,by omega,Nat.succ_le_of_lt HLT.out,by go_num,by rw [Nat.add_sub_cancel,HTM.out,List.length_append,List.map_append];exact hown3,(B6.out.alloc B6.out.size _).grown hgr3 (by have:=B6.out.size;simp;omega) (fun b hb=>(OW.out.lt b hb).1)⟩
       case measure=>have:=HLT.out;simp [intOf];omega
  ·have hun:u-1=n:=by omega
   have hc:decide ((u:Int)≤N.n)=false:=decide_eq_false (by have:=HNN.out;omega);rw [hun] at hown;clear hun;have htl:=zgf 0 pk sg n;obtain ⟨TM,hTM⟩:∃ l,ql 0 pk sg n=l:=⟨_,rfl⟩;rw [hTM] at hown htl HSH;obtain ⟨At,ct2,rfl,hrd⟩:=zjh hown rfl rfl;have HOT:=zc hown;have B6:=zc hb6;have BL2:=zc (zx BL1.out hb6 BL1.out.size);obtain ⟨V6,hV6⟩:∃ V,V=wr:=⟨wr,rfl⟩;rw [← hV6] at HOT B6 BL2;have HS2:Hid (∀ W,Below V6.heap.size V6 W→_):=zc fun W hb=>HS1.out W (zx B6.out hb B6.out.size);have HQ0:=zc (Kp.nil V6);clear hown hb6 hu1 hu hlt htl hTM hrd HS1;subst hV6;go_upto_region 10 with (fail)
   go_cut [11,12] from 55 to 56 (fun p q wx=>∃ b11 b12,p = .pointer (some ⟨b11,0,none⟩)∧q = .pointer (some ⟨b12,0,none⟩)∧PtN V6 [] b11 b12∧PtS V6 [] b11 b12 (zP (fun s=>ev s&&ok s) f (0,1) 0) (zP ev f (0,1) 0) wx)
   case first =>
    go_wp2_with (first
     | (go_at_call 29;(with_reducible refine (zc1 _).mono ?_);rintro e w5 ⟨rfl,hb5⟩;have Q5:=zc (HQ0.out.below hb5);clear hb5 HQ0)
     | (go_at_call 29;(with_reducible refine (zc1 _).mono ?_);rintro e w6 ⟨rfl,hb6⟩;have Q6:=zc (Q5.out.below hb6);clear hb6 Q5))
    all_goals
     go_meet;have z:=Q6.out.bl.size;have k1:=Q6.out.new #[.string (zb 0),.string (zb 1)] 33 w6.heap.size 2 rfl rfl;have k2:=k1.new #[.string (zb 0),.string (zb 1)] 33 (w6.heap.size+1) 2 (by simp) rfl;exact ⟨w6.heap.size,w6.heap.size+1,rfl,rfl,⟨z,by omega,by omega,fun r hr=>(by cases hr)⟩,⟨⟨k2.bl,fun r hr=>(by cases hr)⟩,(k2.row 1 rfl).congr (ye 0 1),(k2.row 0 rfl).congr (ye 0 1)⟩⟩
   case rest =>
   obtain ⟨b11,b12,rfl,rfl,hnn,hs0⟩:=hcut;have NN:=zc hnn;clear t1 t2 t3 t4 HQ0;obtain ⟨t1,t2,t3,t4⟩:=(HS2.out _ hs0.q.bl).cells;have S0:=zc hs0;clear hnn hs0;go_upto_region 11 with (fail)
   go_cut [60,61] from 57 to 60 (fun p q wx=>p = .int .u64 (K:Int)∧q = .int .u64 0∧PtS V6 [] b11 b12 (zP (fun s=>ev s&&ok s) f (0,1) 0) (zP ev f (0,1) 0) wx)
   case first =>
    have hcv:IntKind.u64.wrap (n:Int)=(n:Int):=by have:=HN8.out;rw [IntKind.wrap_u64];omega
    have hmn:min n 64=n:=by have:=HN8.out;omega
    have hsh2:IntKind.u64.wrap ((2:Int)^n)=(K:Int):=by
     have h9:=HK9.out;have e:(2:Int)^n=((2^n:Nat):Int):=by rw [Int.natCast_pow];rfl
     rw [e,HKE.out,IntKind.wrap_u64];omega
    rw [HNN.out] at t1;go_wp2;go_meet;exact ⟨rfl,rfl,S0.out⟩
   case rest =>
   obtain ⟨rfl,rfl,hs0⟩:=hcut;clear t1 t2 t3 t4 S0;have S0:=zc hs0;clear hs0;go_wp2_with fail
   go_loopw [61] (fun t wr=>∃ k:Nat,k≤K∧t = .int .u64 (k:Int)∧PtS V6 [] b11 b12 (zP (fun s=>ev s&&ok s) f (0,1) k) (zP ev f (0,1) k) wr) (fun t _=>K-(intOf t).toNat)
   case atStart=>exact ⟨0,Nat.zero_le _,rfl,S0.out⟩
   case round =>
    clear S0;obtain ⟨k,hk,rfl,s0⟩:=hrel;obtain ⟨t1,t2,t3,t4⟩:=(HS2.out _ s0.q.bl).cells;by_cases hlt:k<K
    ·have hc:decide ((k:Int)<(K:Int))=true:=decide_eq_true (by omega);have hc2:decide (k<K)=true:=decide_eq_true hlt;have hnx:IntKind.u64.wrap ((k:Int)+1)=(k:Int)+1:=by have:=HK9.out;rw [IntKind.wrap_u64];omega
     have he2:=fun W hb=>HEV.out k hlt W (zx BL2.out hb BL2.out.size);have S1:=zc s0;have HLT:=zc hlt;cases he:ev k with
     | false =>
       rw [he] at he2;have HE2:=zc he2;have HZ:=zc (And.intro (zdo (p:=fun s=>ev s&&ok s) (f:=f) (z:=(0,1)) (k:=k) (by rw [he];rfl)) (zdo (f:=f) (z:=(0,1)) he));clear he he2 s0 hlt hk;go_wp2_with (go_at_call 49;(with_reducible refine (HE2.out _ S1.out.q.bl).mono ?_);rintro e w5 ⟨rfl,hb5⟩;replace S1:=zc (S1.out.below hb5);clear hb5 t1 t2 t3 t4)
       go_roundw
       case rel=>exact ⟨k+1,Nat.succ_le_of_lt HLT.out,by go_num,by rw [HZ.out.1,HZ.out.2];exact S1.out⟩
       case measure=>have:=HLT.out;simp [intOf];omega
     | true =>
       rw [he] at he2;have HE2:=zc he2;have HE:=zc he;clear he he2 s0 hlt hk;go_upto_region 15 with (go_at_call 49;(with_reducible refine (HE2.out _ S1.out.q.bl).mono ?_);rintro e w5 ⟨rfl,hb5⟩;replace S1:=zc (S1.out.below hb5);clear hb5 t1 t2 t3 t4;obtain ⟨t1,t2,t3,t4⟩:=(HS2.out _ S1.out.q.bl).cells)
       go_cut [14] from 69 to 73 (fun p wx=>∃ b14,p = .pointer (some ⟨b14,0,none⟩)∧PtN V6 [qT b14 (f k)] b11 b12∧PtS V6 [qT b14 (f k)] b11 b12 (zP (fun s=>ev s&&ok s) f (0,1) k) (zP ev f (0,1) k) wx)
       case first =>
        have hw2:=HWT.out k HLT.out _ _ _ _ _ _ _ (HS2.out _ S1.out.q.bl);have HW2:=zc hw2;clear hw2;go_wp2_with (go_at_call 50;(with_reducible refine (HW2.out).mono ?_);rintro e w6 ⟨rfl,hb6⟩)
        all_goals
         go_meet;have s2:=S1.out.below hb6;have r1:=s2.ra.lt;have r2:=s2.rb.lt;exact ⟨w6.heap.size,rfl,NN.out.add ⟨by omega,by omega⟩,(s2.below ((zy _ _).alloc (zv _) _)).add ((zI w6 _ _ w6.heap.size 2 rfl rfl).congr (ye (f k).1 (f k).2))⟩
       case rest =>
       obtain ⟨b14,rfl,hn2,hs2⟩:=hcut;clear t1 t2 t3 t4 S1;obtain ⟨t1,t2,t3,t4⟩:=(HS2.out _ hs2.q.bl).cells;have NN2:=zc hn2;obtain ⟨a1,a2⟩:=zN hs2.rb;obtain ⟨a3,a4⟩:=zN (hs2.q.row 0 rfl);have S2:=zc hs2;clear hn2 hs2;have ha2:∀ W,_:=fun W=>HAD.out k HLT.out ev (0,1) (.inr rfl) W;rw [← zcS (p:=ev) (f:=f) (z:=(0,1)) HE.out] at ha2;obtain ⟨T2,hT2⟩:∃ p,zP ev f (0,1) (k+1)=p:=⟨_,rfl⟩;rw [hT2] at ha2;have HT2:=zc hT2;have HA2:=zc ha2;clear ha2 hT2;go_upto_region 17 with (go_at_call 27;(with_reducible refine (HA2.out _).mono ?_);rintro e w7 ⟨rfl,hb7⟩;replace S2:=zc (S2.out.below hb7);clear hb7 t1 t2 t3 t4 a1 a2 a3 a4;obtain ⟨a1,a2⟩:=zN S2.out.rb;have f1:=S2.out.rb.frozen 0;have f2:=S2.out.rb.frozen 1)
       have S3:=zc (S2.out.setB NN2.out T2);clear S2 a1 a2 f1 f2 HA2;obtain ⟨W3,hW3⟩:∃ W,(w7.setCell ⟨b12,0,none⟩ (.string (zb T2.1))).setCell ⟨b12,1,none⟩ (.string (zb T2.2))=W:=⟨_,rfl⟩;rw [hW3] at S3 ⊢;clear hW3;obtain ⟨t1,t2,t3,t4⟩:=(HS2.out _ S3.out.q.bl).cells;have hk8:IntKind.u8.wrap (k:Int)=(k:Int):=u8_of k (by have:=HK9.out;have:=HLT.out;omega);have hok:=HOK.out k HLT.out;have hcv:IntKind.u64.wrap (n:Int)=(n:Int):=by have:=HN8.out;rw [IntKind.wrap_u64];omega
       have hmn:min n 8=n:=by have:=HN8.out;omega
       have hmk:=HMSK.out;rw [HKE.out] at hmk;rw [HNN.out] at t1;obtain ⟨mk,hmk2⟩:∃ m,K-1=m:=⟨_,rfl⟩;rw [hmk2] at hok hmk;clear hmk2;cases ho:ok k with
       | false =>
         rw [ho] at hok;have HZ:=zc (zdo (p:=fun s=>ev s&&ok s) (f:=f) (z:=(0,1)) (k:=k) (by rw [ho,Bool.and_false]));clear ho;go_wp2_with fail
         go_roundw
         case rel=>exact ⟨k+1,Nat.succ_le_of_lt HLT.out,by go_num,by rw [HZ.out,HT2.out];exact S3.out.tail⟩
         case measure=>have:=HLT.out;simp [intOf];omega
       | true =>
         rw [ho] at hok;have ha2:∀ W,_:=fun W=>HAD.out k HLT.out (fun s=>ev s&&ok s) (0,1) (.inr rfl) W;rw [← zcS (p:=fun s=>ev s&&ok s) (f:=f) (z:=(0,1)) (by rw [HE.out,ho];rfl)] at ha2;obtain ⟨T3,hT3⟩:∃ p,zP (fun s=>ev s&&ok s) f (0,1) (k+1)=p:=⟨_,rfl⟩;rw [hT3] at ha2;have HT3:=zc hT3;have HA2:=zc ha2;clear ha2 hT3 ho;obtain ⟨a1,a2⟩:=zN S3.out.ra;obtain ⟨a3,a4⟩:=zN (S3.out.q.row 0 rfl);go_wp2_with (go_at_call 27;(with_reducible refine (HA2.out _).mono ?_);rintro e w8 ⟨rfl,hb8⟩;replace S3:=zc (S3.out.below hb8);clear hb8 t1 t2 t3 t4 a1 a2 a3 a4;obtain ⟨a1,a2⟩:=zN S3.out.ra;have f1:=S3.out.ra.frozen 0;have f2:=S3.out.ra.frozen 1)
         go_roundw
         case rel=>exact ⟨k+1,Nat.succ_le_of_lt HLT.out,by go_num,by rw [HT3.out,HT2.out];exact (S3.out.setA NN2.out T3).tail⟩
         case measure=>have:=HLT.out;simp [intOf];omega
    ·obtain rfl:k=K:=by omega
     have hc:decide ((k:Int)<(k:Int))=false:=decide_eq_false (by omega);have hc2:decide (k<k)=false:=decide_eq_false (by omega);have S6:=zc s0;clear s0 hlt hk HEV HWT HAD HOK HMSK;go_upto_region 20 with (fail)
     go_cut [15,16] from 95 to 101 (fun p q wx=>∃ b15,p = .pointer (some ⟨b15,0,none⟩)∧q = .int .i64 E∧PtS V6 [qT b15 S] b11 b12 (zP (fun s=>ev s&&ok s) f (0,1) k) (zP ev f (0,1) k) wx)
     case first =>
      obtain ⟨At9,ct9,e9,hrd⟩:=zjh (zcL HOT.out S6.out.q.bl) rfl rfl;simp only [Value.slice.injEq,true_and] at e9;obtain ⟨rfl,rfl⟩:=e9;have HRD:=zc hrd;clear hrd;go_wp2_with (go_at_call 23;(with_reducible refine (HSH.out _ _ _ _ _ _ _ (HS2.out _ S6.out.q.bl) M1.out M2.out _ _ HRD.out).mono ?_);rintro e w8 ⟨rfl,hb8⟩)
      all_goals
       go_meet;exact ⟨w8.heap.size,rfl,rfl,(S6.out.below (hb8.alloc hb8.size _)).add ((zI w8 _ _ w8.heap.size 2 rfl rfl).congr (ye S.1 S.2))⟩
     case rest =>
     obtain ⟨b15,rfl,rfl,hs2⟩:=hcut;clear t1 t2 t3 t4 S6 HSH HOT;obtain ⟨a1,a2⟩:=zN hs2.ra;obtain ⟨a3,a4⟩:=zN hs2.rb;have S7:=zc hs2;clear hs2;go_upto_region 21 with (fail)
     go_cut [17,18] from 102 to 107 (fun p q wx=>∃ b17,p = .pointer (some ⟨b17,0,none⟩)∧q = .bool d∧Kp V6 [qT b17 Q,qT b15 S] wx)
     case first =>
      go_wp2_with (go_at_call 36;(with_reducible refine (HDV.out _).mono ?_);rintro e w8 ⟨rfl,hb8⟩)
      all_goals
       go_meet;exact ⟨w8.heap.size,rfl,rfl,zgL ((S7.out.q.below hb8).new _ _ w8.heap.size 2 rfl rfl) (ye Q.1 Q.2)⟩
     case rest =>
     obtain ⟨b17,rfl,rfl,hq⟩:=hcut;clear a1 a2 a3 a4 S7 HDV;obtain ⟨V8,rfl⟩:∃ V,V=wc:=⟨wc,rfl⟩;have HTB:=zc (fun W (hW:Below V8.heap.size V8 W)=>(HS2.out W (zx hq.bl hW hq.bl.size)).tb);have X10:=zc hq;obtain ⟨sa,sd⟩:=S;obtain ⟨qa,qd⟩:=Q;obtain ⟨s1,s2⟩:=zN (hq.row 1 rfl);have l15:=(hq.row 1 rfl).lt;cases d with
     | false =>
       obtain ⟨rfl,hn9⟩:=HNO0.out rfl;have HNO:=zc hn9;clear hn9 hq HNO0 HYES0;go_upto_region 23 with (fail)
       have HS:Hid (∀ W,Below V8.heap.size V8 W→W.cell? ⟨b15,0,none⟩=some (.string (zb sa))∧W.cell? ⟨b15,1,none⟩=some (.string (zb sd))):=zc fun W hb=>⟨zG hb s1 l15,zG hb s2 l15⟩;refine yT (n:=_) (PX:=[zm (.int .i64 3),
          zm (.bool true),
          zm (.bool true),
          zm (.agg #[.string (zb sa),.string (zb sd)]),
          zm (.agg #[.string (zb 0),.string (zb 1)]),
          zm (.bool true),
          zm (.bool true),
          zm (.bool true),
          zm (.bool true),
          zm (.bool true),
          zm (.bool true)])
         (AL:=[]) (DP:=[[],[0],[1],[2],[2],[2,3,4],[2,5],[6],[7],[7,8],[9]]) (L1:=[0,1,2,3,4,5,6,7,8,9,10]) (ex:=[]) (by kernel_rfl) rfl (by kernel_rfl) ?_ ?_ (ji ?_)
       ·repeat' first|exact qi|refine zo ?_ ?_|exact fun _ _ _ _ h _=>h
       ·refine zo (zw rfl [] ?_) (zo (zw rfl [(0,some 110)] ?_) (zo (zw rfl [(1,some 111)] ?_) (zo (zw rfl [(2,some 112)] ?_) (zo ?_ (zo ?_ (zo (zw rfl [(2,some 112),(5,some 115)] ?_) (zo (zw rfl [(6,some 116)] ?_) (zo ?_ (zo (zw rfl [(7,some 117),(8,some 118)] ?_) (zo (zw rfl [(9,some 119)] ?_) qi))))))))));all_goals try (intro vs W hW hd K hK;(try simp only [qh,zm,and_true,List.getD_cons_succ,List.getD_cons_zero] at hd);(first | simp only [hd,zu,Act.put,zk,zj,zi,zg,zf,ze] at hK ⊢ | simp only [zu,Act.put,zk,zj,zi,zg,zf,ze] at hK ⊢ | skip);obtain ⟨m1,m2⟩:=HS.out W hW;go_simp;exact hK.out _ _ rfl (zy _ _) (yM rfl))
        ·refine zZ rfl [(2,some 112)] ?_;intro vs W hW hd K hK;have d2:vs 2 = .bool true:=hd 2 (by decide);clear hd;try simp only [d2,zu,Act.put,zk,zj,zi,zg,zf,ze] at hK ⊢
         go_simp;go_at_call 29;(with_reducible first | refine (zc1 _).mono ?_);rintro e w9 ⟨rfl,hb9⟩;exact hK.out _ _ (rfl) hb9 (fun h=>absurd h (by decide))
        ·refine zZ rfl [(2,some 112),(3,some 113),(4,some 114)] ?_;intro vs W hW hd K hK;have d2:vs 2 = .bool true:=hd 2 (by decide);have d3:vs 3 = .agg #[.string (zb sa),.string (zb sd)]:=hd 3 (by decide);have d4:vs 4 = .agg #[.string (zb 0),.string (zb 1)]:=hd 4 (by decide);clear hd;try simp only [d2,d3,d4,zu,Act.put,zk,zj,zi,zg,zf,ze] at hK ⊢
         go_simp;go_at_call 26;(with_reducible first | refine (HNO.out _).mono ?_);rintro e w9 ⟨rfl,hb9⟩;exact hK.out _ _ (rfl) hb9 (fun h=>absurd h (by decide))
        ·refine zZ rfl [(7,some 117)] ?_;intro vs W hW hd K hK;have d7:vs 7 = .bool true:=hd 7 (by decide);clear hd;try simp only [d7,zu,Act.put,zk,zj,zi,zg,zf,ze] at hK ⊢
         go_simp;go_at_call 15;(with_reducible first | refine (zbV _ (HTB.out _ hW)).mono ?_);rintro e w9 ⟨rfl,hb9⟩;exact hK.out _ _ (rfl) hb9 (fun h=>absurd h (by decide))
       refine yp [(0,some 110),(1,some 111),(2,some 112),(3,some 113),(4,some 114),(5,some 115),(6,some 116),(7,some 117),(8,some 118),(9,some 119),(10,some 6)] #[true,true,true,true,true,true,true,true,true,true,true] 0 ?_;intro vs Wf hW hd hbk hdis kf;simp only [qh,zm,and_true,List.getD_cons_succ,List.getD_cons_zero] at hd;obtain ⟨d0,d1,d2,d3,d4,d5,d6,d7,d8,d9,d10⟩:=hd;clear hbk hdis;try simp only [d0,d1,d2,d3,d4,d5,d6,d7,d8,d9,d10,zu,Act.put,zk,zj,zi,zg,zf,ze]
       clear d0 d1 d2 d3 d4 d5 d6 d7 d8 d9 d10 vs;clear HS;refine z8 (by kernel_rfl) ?_ _;all_goals
        try go_wp2
        go_ret;exact ⟨rfl,zx BL2.out (zx X10.out.bl hW X10.out.bl.size) BL2.out.size⟩
     | true =>
       obtain ⟨rfl,hn9⟩:=HYES0.out rfl;have HYES:=zc hn9;obtain ⟨s3,s4⟩:=zN (hq.row 0 rfl);have l17:=(hq.row 0 rfl).lt;clear hn9 hq HNO0 HYES0;go_wp2_with (first
        | (go_at_call 26;(with_reducible refine (HYES.out _).mono ?_);rintro e w8 ⟨rfl,hb8⟩;replace X10:=zc (X10.out.below hb8);clear hb8 s1 s2 s3 s4)
        | (go_at_call 15;(with_reducible refine (zbV _ (HT.out.below (zx BL2.out X10.out.bl BL2.out.size))).mono ?_);rintro e w9 ⟨rfl,hb9⟩;replace X10:=zc (X10.out.below hb9)))
       all_goals
        go_ret;exact ⟨rfl,zx BL2.out X10.out.bl BL2.out.size⟩
end Go.Proofs.YtmhllppjcilllaaGreatDoor
