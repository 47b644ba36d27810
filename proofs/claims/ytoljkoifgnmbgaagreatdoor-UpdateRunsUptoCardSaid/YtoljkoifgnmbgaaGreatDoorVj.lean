import Derived.Test.YtoljkoifgnmbgaaGreatDoorVi
set_option linter.unusedSimpArgs false
set_option linter.unusedVariables false
set_option maxRecDepth 100000
set_option maxHeartbeats 8000000
open Go Go.RowKit Cs
namespace Go.Proofs.YtoljkoifgnmbgaaGreatDoor
theorem cchk_ok {N:Nt} (hv:zC N=true) (hd:qv N=true) (hs:qQ N=true):qz N=0:=by
 unfold qz;rw [hv,hd,hs];rfl
theorem new_ok (w:World) (N:Nt) (A:Option Addr) (c n cl ch:Nat) (lo hi:List Pr) (Al Ah:Option Addr) (hN:NtAt w w.heap.size A N.l) (hv:zC N=true) (hd:qv N=true) (hs:qQ N=true) (hn:N.n=(n:Int)) (hT:Tab w)
  (hin:∀ k (hk:k<N.l.length),N.l[k].ins.length≤1000000) (hwt:WtIn n lo hi) (hb0:¬ 16384<zG lo n+zG hi n) (hlo:Rd w w.heap.size Al ((n+1)*2) (zT lo)) (hhi:Rd w w.heap.size Ah ((n+1)*2) (zT hi)) (hc1:n+1≤cl) (hc2:n+1≤ch) :
  Calls Tryz.prog 15 #[ql N A c,jM Al Ah (n+1) (n+1) cl ch] w fun e w'=>∃ g E,e = .returned (.tuple #[.pointer (some ⟨g.b,0,none⟩),.int .i64 0])∧y6 w' w.heap.size E g N n lo hi (.slice none 0 0) [] 0∧Below w.heap.size w w':=by
 obtain ⟨hn0,hn1,hl0,hl1⟩:=qD hv;have hn128:=yF hv hn;have hck:=fun W (hb:Below w.heap.size w W)=>zgn W N A c cl ch n lo hi Al Ah ((hN.below hb).more hb.size) hv hn (hT.below hb) ((hlo.below hb).more hb.size) ((hhi.below hb).more hb.size) hwt.sl hwt.sh hc1 hc2 0 (by rw [cchk_ok hv hd hs,if_pos rfl,if_neg hb0]);have HCK:=za hck;have hcn:∀ W,Below w.heap.size w W→Calls Tryz.prog 41 #[.slice A N.l.length c] W fun e w'=>(∃ gN c1,e = .returned (.slice (some ⟨gN,0,none⟩) N.l.length c1)∧W.heap.size≤gN∧N.l.length≤c1∧∃ G,w'.rowIs gN 76 (c1*3) G∧∀ i,i<N.l.length*3→G i=jn w A i)∧Below W.heap.size W w':=fun W hb=>by
  refine (zgk W A c N.l.length _ (by omega) (zkD hN).2 (((zkD hN).1.below hb).more hb.size)).mono ?_;rintro e w' ⟨A',c',rfl,h,hb9⟩;obtain ⟨g9,F,rfl,hg,hc,hr,hF⟩:=h (by omega);exact ⟨⟨g9,c',rfl,hg,hc,F,hr,hF⟩,hb9⟩
 have HCN:=za hcn;have hci:∀ k (hk:k<N.l.length) W A1 cA,Rd W W.heap.size A1 N.l[k].ins.length (zJ N.l[k].ins)→Calls Tryz.prog 42 #[.slice A1 N.l[k].ins.length cA] W (ClnI W N.l[k].ins):=fun k hk W A1 cA hr=>zh9 W A1 cA _ (by have:=hin k hk;omega) hr;have HCI0:=za hci;have hcl:=fun W (hb:Below w.heap.size w W)=>zeH W Al cl n lo (by omega) ((hlo.below hb).more hb.size);have hch:=fun W (hb:Below w.heap.size w W)=>zeH W Ah ch n hi (by omega) ((hhi.below hb).more hb.size);have HCL:=za hcl;have HCH:=za hch;have HTT:=za hT;have HNN:=za hN;have HWT:=za (And.intro hwt (And.intro hb0 (And.intro hd (And.intro hs hv))));have HN:=za hn;have HL:=za (And.intro hl0 hl1);have hx2:w.heap.size<w.heap.size+1:=Nat.lt_succ_self _;have a1:=(jx w N A c 24 _ rfl).alloc (.cells #[.slice Al (n+1) cl,.slice Ah (n+1) ch] 30);have a2:=zU (w.alloc (.cells #[.int .i64 N.n,.slice A N.l.length c] 24)) #[.slice Al (n+1) cl,.slice Ah (n+1) ch] 30 (w.heap.size+1) 2 (by simp) rfl;have a3:=((Below.refl w.heap.size w).alloc (zi _) (.cells #[.int .i64 N.n,.slice A N.l.length c] 24)).alloc (by simp) (.cells #[.slice Al (n+1) cl,.slice Ah (n+1) ch] 30);clear hck hcn hci hcl hch hT hN hwt hb0 hd hs hlo hhi hc1 hc2 hin hn hv hn0 hn1 hl0 hl1;go_enter Tryz.func15, Tryz.ntmps15;go_upto_region 4 with (go_at_call 40;(with_reducible refine (HCK.out _ a3).mono ?_);rintro e wc ⟨rfl,hb9⟩)
 have hbc:=zu a3 hb9 a3.size;have r2:=zh a1 hb9;have r3:=zh a2 hb9;have hx2:=r2.lt;have hx3:=r3.lt;clear a1 a2 a3 hb9;go_cut [7] from 18 to 25 (fun x7 wx=>∃ b gN c1,x7 = .pointer (some ⟨b,0,none⟩)∧NwAt w wx N A c Al Ah cl ch n b (zE (yZ N (some ⟨gN,0,none⟩) c1))∧KsAt w wx N gN c1 b 0)
 case first =>
  have s1:wc.cell? ⟨w.heap.size,0,none⟩=some (.int .i64 N.n):=r2.cell (i:=0) (by decide);have s2:wc.cell? ⟨w.heap.size,1,none⟩=some (.slice A N.l.length c):=r2.cell (i:=1) (by decide);have HS:Hid (∀ W,Below wc.heap.size wc W→W.cell? ⟨w.heap.size,0,none⟩=some (.int .i64 N.n)∧W.cell? ⟨w.heap.size,1,none⟩=some (.slice A N.l.length c)):=za fun W hb=>⟨zy hb s1 hx2,zy hb s2 hx2⟩;refine yc (n:=_) (PX:=[zc (.pointer (some ⟨w.heap.size,0,none⟩)),
     zc (.int .i64 N.n),
     zc (.pointer (some ⟨w.heap.size,1,none⟩)),
     zc (.slice A N.l.length c),
     fun xl xv xw=>∃ gN c1,xv = .slice (some ⟨gN,0,none⟩) N.l.length c1∧wc.heap.size≤gN∧N.l.length≤c1∧∃ G,World.rowIs xw gN 76 (c1*3) G∧∀ i,i<N.l.length*3→G i=jn w A i])
    (AL:=[]) (DP:=[[],[0],[],[2],[3]]) (L1:=[0,1,2,3,4]) (ex:=[]) (by kernel_rfl) rfl (by kernel_rfl) ?_ ?_ (yf ?_)
  ·repeat' first|exact zO|refine ze ?_ ?_|exact fun _ _ _ _ h _=>h|fail
   ·exact fun l v w w2 h hb=>by obtain ⟨gN,c1,h1,h2,h3,G,h4,h5⟩:=h;exact ⟨gN,c1,h1,h2,h3,G,zh h4 hb,h5⟩
  ·refine ze (zg rfl [] ?_) (ze (zg rfl [(0,some 18)] ?_) (ze (zg rfl [] ?_) (ze (zg rfl [(2,some 20)] ?_) (ze ?_ zO))));all_goals try (intro vs W hW hd K hK;(try simp only [zR,zc,and_true,List.getD_cons_succ,List.getD_cons_zero] at hd);(first | simp only [hd,zo,Act.put,zx,zw,zv,zm,zl,zk] at hK ⊢ | simp only [zo,Act.put,zx,zw,zv,zm,zl,zk] at hK ⊢ | skip);obtain ⟨m1,m2⟩:=HS.out W hW;go_simp;exact hK.out _ _ rfl (zA _ _) (qS rfl))
   ·refine qo rfl [(3,some 21)] ?_;intro vs W hW hd K hK;have d3:vs 3 = .slice A N.l.length c:=hd 3 (by decide);clear hd;try simp only [d3,zo,Act.put,zx,zw,zv,zm,zl,zk] at hK ⊢
    go_simp;go_at_call 41;(with_reducible first | refine (HCN.out _ (zu hbc hW hbc.size)).mono ?_);rintro e w9 ⟨⟨gN,c1,rfl,hg1,hg2,hg3⟩,hb9⟩;exact hK.out _ _ (⟨gN,c1,rfl,Nat.le_trans hW.size hg1,hg2,hg3⟩) hb9 (fun h=>absurd h (by decide))
  refine qT [(0,some 18),(1,some 19),(2,some 20),(3,some 21),(4,some 22)] #[true,true,true,true,true,false,false,false,false] 4 ?_;intro vs Wf hW hd hbk hdis kf;simp only [zR,zc,and_true,List.getD_cons_succ,List.getD_cons_zero] at hd;obtain ⟨d0,d1,d2,d3,⟨gN,c1,d4,hg1,hg2,G,hgr,hgc⟩⟩:=hd;clear hbk hdis;try simp only [d0,d1,d2,d3,d4,zo,Act.put,zx,zw,zv,zm,zl,zk]
  clear d0 d1 d2 d3 d4 vs;clear HS;refine qt 5 (by kernel_rfl) rfl (fun K hK=>?_);go_simp;refine hK.out _ _ ?_;clear hK K;try simp only [zo,Act.put,zx,zw,zv,zm,zl,zk]
  refine qt 6 (by kernel_rfl) rfl (fun K hK=>?_);go_simp;refine hK.out _ _ ?_;clear hK K;try simp only [zo,Act.put,zx,zw,zv,zm,zl,zk]
  refine qt 7 (by kernel_rfl) rfl (fun K hK=>?_);go_simp;refine hK.out _ _ ?_;clear hK K;try simp only [zo,Act.put,zx,zw,zv,zm,zl,zk]
  refine qt 8 (by kernel_rfl) rfl (fun K hK=>?_);go_simp;refine hK.out _ _ ?_;clear hK K;try simp only [zo,Act.put,zx,zw,zv,zm,zl,zk]
  refine qV (by kernel_rfl) ?_ _;all_goals
   try go_wp2
   go_meet;have hz:=hW.size;refine ⟨Wf.heap.size,gN,c1,rfl,⟨(zh r2 hW).alloc _,(zh r3 hW).alloc _,zU Wf _ _ _ _ rfl rfl,by omega,(zu hbc hW hbc.size).alloc (Nat.le_trans hbc.size hz) _⟩,⟨G,hgr.alloc _,fun i h=>NdS.start HNN.out G hgc i h⟩,by omega,hgr.lt,hg2⟩
 case rest =>
 obtain ⟨b,gN,c1,rfl,q,ks⟩:=hcut;clear r2 r3 hbc hx2 hx3;have s1:wc.cell? ⟨b,1,none⟩=some (.slice (some ⟨gN,0,none⟩) N.l.length c1):=q.row.cell (i:=1) (by decide);have hq:=za (And.intro q ks);clear q ks;go_wp2_with fail
 go_loopw [32] (fun t wr=>∃ k:Nat,k≤N.l.length∧t = .int .i64 (k:Int)∧NwAt w wr N A c Al Ah cl ch n b (zE (yZ N (some ⟨gN,0,none⟩) c1))∧KsAt w wr N gN c1 b k) (fun t _=>N.l.length-(intOf t).toNat)
 case atStart=>exact ⟨0,Nat.zero_le _,rfl,hq.out.1,hq.out.2⟩
 case round =>
 clear hq s1;obtain ⟨k,hk,rfl,q,ks⟩:=hrel;by_cases hlt:k<N.l.length
 ·obtain ⟨G,hgr,hnd⟩:=ks.row;obtain ⟨n1,n2,A1,cA,n3,_,n4⟩:=hnd k hlt;have n5:=n4 (zi _);have hle:=ks.le;have s2:=hgr.cell (i:=k*3+2) (by omega);rw [n3] at s2;have s1:wr.cell? ⟨b,1,none⟩=some (.slice (some ⟨gN,0,none⟩) N.l.length c1):=q.row.cell (i:=1) (by decide);have hbw:=q.lt;have hgw:=hgr.lt;have hci:=fun W (hb:Below wr.heap.size wr W)=>HCI0.out k hlt W A1 cA ((n5.below (q.bl.trans (hb.mono q.bl.size))).more (Nat.le_trans q.bl.size hb.size));have hnx:=fun (w5:World) A2 c2 hb hrd=>KsAt.next (w5:=w5) (A2:=A2) (c2:=c2) hlt ks q.lt hb hrd;obtain ⟨xs,hxs⟩:∃ xs,N.l[k].ins=xs:=⟨_,rfl⟩;rw [hxs] at s2;simp only [hxs] at hci hnx;have HCI:=za hci;have HNX:=za hnx;have HQ:=za q;have HKS:=za ks;have i1:(0:Int)≤(k:Int):=by omega
  have i2:(k:Int)<(N.l.length:Int):=by omega
  have hl1:=HL.out.2;clear hnd n1 n2 n3 n4 n5 hxs hci hnx ks q hgr;go_wp2_with fail
  have HS:Hid (∀ W,Below wr.heap.size wr W→W.cell? ⟨b,1,none⟩=some (.slice (some ⟨gN,0,none⟩) N.l.length c1)∧W.cell? ⟨gN,k*3+2,none⟩=some (.slice A1 xs.length cA)):=za fun W hb=>⟨zy hb s1 hbw,zy hb s2 hgw⟩;refine yc (n:=_) (PX:=[zc (.pointer (some ⟨b,0,none⟩)),
     zc (.pointer (some ⟨b,0,none⟩)),
     zc (.pointer (some ⟨b,0,none⟩)),
     zc (.pointer (some ⟨b,1,none⟩)),
     zc (.slice (some ⟨gN,0,none⟩) N.l.length c1),
     zc (.int .i64 (k:Int)),
     zc (.pointer (some ⟨b,0,none⟩)),
     zc (.pointer (some ⟨b,0,none⟩)),
     zc (.pointer (some ⟨b,0,none⟩)),
     zc (.pointer (some ⟨b,1,none⟩)),
     zc (.slice (some ⟨gN,0,none⟩) N.l.length c1),
     zc (.int .i64 (k:Int)),
     zc (.pointer (some ⟨gN,k*3,none⟩)),
     zc (.pointer (some ⟨gN,k*3+2,none⟩)),
     zc (.slice A1 xs.length cA),
     fun xl xv xw=>∃ A2 c2,xv = .slice A2 xs.length c2∧RdK xw wr.heap.size (World.heap xw).size A2 xs.length (zJ xs),
     zc (.pointer (some ⟨gN,k*3,none⟩)),
     zc (.pointer (some ⟨gN,k*3+2,none⟩))])
    (AL:=[]) (DP:=[[],[0],[1],[2],[3],[],[],[6],[7],[8],[9],[],[10,11],[12],[13],[14],[4,5],[16]]) (L1:=[0,1,2,3,4,5,6,7,8,9,10,11,12,13,14,15,16,17]) (ex:=[]) (by kernel_rfl) rfl (by kernel_rfl) ?_ ?_ (yf ?_)
  ·repeat' first|exact zO|refine ze ?_ ?_|exact fun _ _ _ _ h _=>h|fail
   ·exact fun l v w w2 h hb=>by obtain ⟨A2,c2,h1,h2⟩:=h;exact ⟨A2,c2,h1,(h2.below hb).more hb.size⟩
  ·refine ze (zg rfl [] ?_) (ze (zg rfl [(0,some 35)] ?_) (ze (zg rfl [(1,some 36)] ?_) (ze (zg rfl [(2,some 37)] ?_) (ze (zg rfl [(3,some 38)] ?_) (ze (zg rfl [] ?_) (ze (zg rfl [] ?_) (ze (zg rfl [(6,some 41)] ?_) (ze (zg rfl [(7,some 42)] ?_) (ze (zg rfl [(8,some 43)] ?_) (ze (zg rfl [(9,some 44)] ?_) (ze (zg rfl [] ?_) (ze (zg rfl [(10,some 45),(11,some 46)] ?_) (ze (zg rfl [(12,some 47)] ?_) (ze (zg rfl [(13,some 48)] ?_) (ze ?_ (ze (zg rfl [(4,some 39),(5,some 40)] ?_) (ze (zg rfl [(16,some 51)] ?_) zO)))))))))))))))));all_goals try (intro vs W hW hd K hK;(try simp only [zR,zc,and_true,List.getD_cons_succ,List.getD_cons_zero] at hd);(first | simp only [hd,zo,Act.put,zx,zw,zv,zm,zl,zk] at hK ⊢ | simp only [zo,Act.put,zx,zw,zv,zm,zl,zk] at hK ⊢ | skip);obtain ⟨m1,m2⟩:=HS.out W hW;go_simp;exact hK.out _ _ rfl (zA _ _) (qS rfl))
   ·refine qo rfl [(14,some 49)] ?_;intro vs W hW hd K hK;have d14:vs 14 = .slice A1 xs.length cA:=hd 14 (by decide);clear hd;try simp only [d14,zo,Act.put,zx,zw,zv,zm,zl,zk] at hK ⊢
    go_simp;go_at_call 42;(with_reducible first | refine (HCI.out _ hW).mono ?_);rintro e w9 ⟨A2,c2,rfl,hr9,hb9⟩;exact hK.out _ _ (⟨A2,c2,rfl,hr9.less hW.size⟩) hb9 (fun h=>absurd h (by decide))
  refine qT [(0,some 35),(1,some 36),(2,some 37),(3,some 38),(4,some 39),(5,some 40),(6,some 41),(7,some 42),(8,some 43),(9,some 44),(10,some 45),(11,some 46),(12,some 47),(13,some 48),(14,some 49),(15,some 50),(16,some 51),(17,some 52)] #[true,true,true,true,true,true,true,true,true,true,true,true,true,true,true,true,true,true,false] 1 ?_;intro vs Wf hW hd hbk hdis kf;simp only [zR,zc,and_true,List.getD_cons_succ,List.getD_cons_zero] at hd;obtain ⟨d0,d1,d2,d3,d4,d5,d6,d7,d8,d9,d10,d11,d12,d13,d14,⟨A2,c2,d15,hr9⟩,d16,d17⟩:=hd;clear hbk hdis;try simp only [d0,d1,d2,d3,d4,d5,d6,d7,d8,d9,d10,d11,d12,d13,d14,d15,d16,d17,zo,Act.put,zx,zw,zv,zm,zl,zk]
  clear d0 d1 d2 d3 d4 d5 d6 d7 d8 d9 d10 d11 d12 d13 d14 d15 d16 d17 vs;clear HS;obtain ⟨G9,hg9,_⟩:=(HKS.out.below hW).row;have k9:=hg9.cell (i:=k*3+2) (by have:=HKS.out.le;omega);have z9:=hg9.frozen (k*3+2);refine qt 18 (by kernel_rfl) rfl (fun K hK=>?_);go_simp;refine hK.out _ _ ?_;clear hK K;try simp only [zo,Act.put,zx,zw,zv,zm,zl,zk]
  refine qV (by kernel_rfl) ?_ _;all_goals
   try go_wp2
   go_roundw
   case rel =>
    exact ⟨k+1,by omega,by go_num,(HQ.out.below hW).other HKS.out.lo (Ne.symm (Nat.ne_of_lt HKS.out.hi)) _ _,HNX.out Wf A2 c2 hW hr9⟩
   case measure=>simp [intOf];omega
 ·obtain rfl:k=N.l.length:=by omega
  have hnt:=ks.net HNN.out;have hnv:=zdd wr N (some ⟨gN,0,none⟩) c1 hnt.now HWT.out.2.2.2.2;have HNV:=za hnv;have HQ:=za q;have HNT:=za hnt;have HL0:=za (And.intro ks.lo ks.hi);have s1:wr.cell? ⟨b,0,none⟩=some (.int .i64 N.n):=q.row.cell (i:=0) (by decide);have s2:wr.cell? ⟨b,1,none⟩=some (.slice (some ⟨gN,0,none⟩) N.l.length c1):=q.row.cell (i:=1) (by decide);have hbw:=q.lt;clear q ks hnt hnv;go_upto_region 10 with (fail)
  go_cut [] from 54 to 61 (fun wx=>∃ gO,NwAt w wx N A c Al Ah cl ch n b (qb (zE (yZ N (some ⟨gN,0,none⟩) c1)) 2 (.slice (some ⟨gO,0,none⟩) N.l.length N.l.length))∧Rof wx w.heap.size wx.heap.size b (fun W=>NtAt W W.heap.size (some ⟨gN,0,none⟩) N.l∧Rd W W.heap.size (some ⟨gO,0,none⟩) (N.l.length*2) (zK (own N.l))))
  case first =>
   go_wp2_with (go_at_call 43;(with_reducible refine HNV.out.mono ?_);rintro e w9 ⟨gO,rfl,g1,g2,hb9⟩;have q9:=HQ.out.below hb9;have c2:=q9.row.cell (i:=2) (by decide);have z2:=q9.row.frozen 2)
   all_goals
    go_meet;refine ⟨gO,q9.set 2 _,?_⟩;have hz:=hb9.size;rw [zf];refine Rof.go (w:=w9) (Rof.both ((HNT.out.go hz fun x _ hx _=>hb9.block x hx).wide (zi _) hz) (Rof.ofRd (fun _=>⟨gO,0,rfl,by omega,g2.lt,fun i hi=>by rw [Nat.zero_add];exact g2.cell hi⟩) (zi _) (by have:=q9.lb;omega))) (Nat.le_of_eq (zf _ _ _).symm) fun x _ _ hx=>Below.heap_setCell _ _ _ _ hx
  case rest =>
  obtain ⟨gO,q,ro⟩:=hcut;clear s1 s2 hbw;have s1:wc.cell? ⟨w.heap.size+1,0,none⟩=some (.slice Al (n+1) cl):=q.b3.cell (i:=0) (by decide);have s2:wc.cell? ⟨w.heap.size+1,1,none⟩=some (.slice Ah (n+1) ch):=q.b3.cell (i:=1) (by decide);have hx3:=q.b3.lt;go_upto_region 11 with (fail)
  go_cut [] from 62 to 71 (fun wx=>∃ gl el gh eh E,NqAt w wx N A c Al Ah cl ch n b (qb (qb (qb (zE (yZ N (some ⟨gN,0,none⟩) c1)) 2 (.slice (some ⟨gO,0,none⟩) N.l.length N.l.length)) 18 (.slice (some ⟨gl,0,none⟩) (n+1) el)) 19 (.slice (some ⟨gh,0,none⟩) (n+1) eh)) E (fun W=>NtAt W W.heap.size (some ⟨gN,0,none⟩) N.l∧Rd W W.heap.size (some ⟨gO,0,none⟩) (N.l.length*2) (zK (own N.l))∧Rd W W.heap.size (some ⟨gl,0,none⟩) ((n+1)*2) (zT lo)∧Rd W W.heap.size (some ⟨gh,0,none⟩) ((n+1)*2) (zT hi)))
  case first =>
   have HS:Hid (∀ W,Below wc.heap.size wc W→W.cell? ⟨w.heap.size+1,0,none⟩=some (.slice Al (n+1) cl)∧W.cell? ⟨w.heap.size+1,1,none⟩=some (.slice Ah (n+1) ch)):=za fun W hb=>⟨zy hb s1 hx3,zy hb s2 hx3⟩;refine zaU (n:=_) (PX:=[zc (.pointer (some ⟨b,0,none⟩)),
      zc (.pointer (some ⟨w.heap.size+1,0,none⟩)),
      zc (.slice Al (n+1) cl),
      fun xl xv xw=>∃ gl el,xv = .slice (some ⟨gl,0,none⟩) (n+1) el∧wc.heap.size≤gl∧n+1≤el∧PrR xw gl 60 (el*2) (n+1) lo,
      zc (.pointer (some ⟨w.heap.size+1,1,none⟩)),
      zc (.slice Ah (n+1) ch),
      fun xl xv xw=>∃ gh eh,xv = .slice (some ⟨gh,0,none⟩) (n+1) eh∧wc.heap.size≤gh∧n+1≤eh∧PrR xw gh 60 (eh*2) (n+1) hi])
     (AL:=[3,6]) (DP:=[[],[],[1],[2],[],[4],[5]]) (L1:=[1,2,3,4,5,6]) (ex:=[0]) (by kernel_rfl) rfl (by kernel_rfl) (by kernel_rfl) (fun _ _ _ _ _ h=>h) ?_ ?_ ?_ ?_
   ·repeat' first|exact zO|refine ze ?_ ?_|exact fun _ _ _ _ h _=>h|fail
    ·exact fun l v w w2 h hb=>by obtain ⟨gl,el,h1,h2,h3,h4⟩:=h;exact ⟨gl,el,h1,h2,h3,h4.below hb⟩
    ·exact fun l v w w2 h hb=>by obtain ⟨gh,eh,h1,h2,h3,h4⟩:=h;exact ⟨gh,eh,h1,h2,h3,h4.below hb⟩
   ·refine ze (zg rfl [] ?_) (ze (zg rfl [(1,some 63)] ?_) (ze ?_ (ze (zg rfl [] ?_) (ze (zg rfl [(4,some 66)] ?_) (ze ?_ zO)))));all_goals try (intro vs W hW hd K hK;(try simp only [zR,zc,and_true,List.getD_cons_succ,List.getD_cons_zero] at hd);(first | simp only [hd,zo,Act.put,zx,zw,zv,zm,zl,zk] at hK ⊢ | simp only [zo,Act.put,zx,zw,zv,zm,zl,zk] at hK ⊢ | skip);obtain ⟨m1,m2⟩:=HS.out W hW;go_simp;exact hK.out _ _ rfl (zA _ _) (qS rfl))
    ·refine qo rfl [(2,some 64)] ?_;intro vs W hW hd K hK;have d2:vs 2 = .slice Al (n+1) cl:=hd 2 (by decide);clear hd;try simp only [d2,zo,Act.put,zx,zw,zv,zm,zl,zk] at hK ⊢
     go_simp;go_at_call 44;(with_reducible first | refine (HCL.out _ (zu q.bl hW q.bl.size)).mono ?_);rintro e w9 ⟨⟨gl,el,rfl,hgl1,hgl2,hgl3⟩,hb9⟩;exact hK.out _ _ (⟨gl,el,rfl,Nat.le_trans hW.size hgl1,hgl2,hgl3⟩) hb9 (fun _ b hb=>by simp [zV] at hb;subst hb;exact ⟨hgl1,hgl3.lt⟩)
    ·refine qo rfl [(5,some 67)] ?_;intro vs W hW hd K hK;have d5:vs 5 = .slice Ah (n+1) ch:=hd 5 (by decide);clear hd;try simp only [d5,zo,Act.put,zx,zw,zv,zm,zl,zk] at hK ⊢
     go_simp;go_at_call 44;(with_reducible first | refine (HCH.out _ (zu q.bl hW q.bl.size)).mono ?_);rintro e w9 ⟨⟨gh,eh,rfl,hgh1,hgh2,hgh3⟩,hb9⟩;exact hK.out _ _ (⟨gh,eh,rfl,Nat.le_trans hW.size hgh1,hgh2,hgh3⟩) hb9 (fun _ b hb=>by simp [zV] at hb;subst hb;exact ⟨hgh1,hgh3.lt⟩)
   ·refine ze ?_ zO
    ·refine YieldOk.intro rfl [] (by kernel_rfl) (fun _=>.pointer (some ⟨b,0,none⟩)) rfl ?_;intro vs W hd;clear hd;refine ⟨rfl,fun w2=>?_⟩;try simp only [zo,Act.put,zx,zw,zv,zm,zl,zk]
     go_simp
   refine qT [(1,some 63),(2,some 64),(3,some 65),(4,some 66),(5,some 67),(6,some 68),(0,some 62)] #[true,true,true,true,true,true,true,false,false,false,false] 4 ?_;intro vs Wf hW hd hbk hdis kf;simp only [zR,zc,and_true,List.getD_cons_succ,List.getD_cons_zero] at hd;obtain ⟨d1,d2,⟨gl,el,d3,hgl1,hgl2,hgl3⟩,d4,d5,⟨gh,eh,d6,hgh1,hgh2,hgh3⟩,d0⟩:=hd;have n65_68:gl≠gh:=fun h=>hdis 3 (by decide) 6 (by decide) (by decide) rfl rfl gl (by rw [d3];rfl) (by rw [d6,h];rfl);have n68_65:=Ne.symm n65_68;clear hbk hdis;try simp only [d1,d2,d3,d4,d5,d6,d0,zo,Act.put,zx,zw,zv,zm,zl,zk]
   clear d1 d2 d3 d4 d5 d6 d0 vs;clear HS;have qf:=q.below hW;have c0:=qf.row.cell (i:=18) (by decide);have z0:=qf.row.frozen 18;have c1:=qf.row.cell (i:=19) (by decide);have z1:=qf.row.frozen 19;refine qt 7 (by kernel_rfl) rfl (fun K hK=>?_);go_simp;refine hK.out _ _ ?_;clear hK K;try simp only [zo,Act.put,zx,zw,zv,zm,zl,zk]
   refine qt 8 (by kernel_rfl) rfl (fun K hK=>?_);go_simp;refine hK.out _ _ ?_;clear hK K;try simp only [zo,Act.put,zx,zw,zv,zm,zl,zk]
   refine qt 9 (by kernel_rfl) rfl (fun K hK=>?_);go_simp;refine hK.out _ _ ?_;clear hK K;try simp only [zo,Act.put,zx,zw,zv,zm,zl,zk]
   refine qt 10 (by kernel_rfl) rfl (fun K hK=>?_);go_simp;refine hK.out _ _ ?_;clear hK K;try simp only [zo,Act.put,zx,zw,zv,zm,zl,zk]
   refine qV (by kernel_rfl) ?_ _;all_goals
    try go_wp2
    go_meet;refine ⟨gl,el,gh,eh,Wf.heap.size,(qf.set 18 _).set 19 _,?_,qf.lt,by rw [zf,zf];exact zi _⟩;have hz:=hW.size;have hlb:=q.lb;have hlt:=q.lt;have ro1:Rof Wf w.heap.size Wf.heap.size b (fun W=>NtAt W W.heap.size (some ⟨gN,0,none⟩) N.l∧Rd W W.heap.size (some ⟨gO,0,none⟩) (N.l.length*2) (zK (own N.l))∧Rd W W.heap.size (some ⟨gl,0,none⟩) ((n+1)*2) (zT lo)∧Rd W W.heap.size (some ⟨gh,0,none⟩) ((n+1)*2) (zT hi)) :=
     fun w' hs hb=>⟨((ro.go hz fun x _ hx _=>hW.block x hx).wide (zi _) hz w' hs hb).1,((ro.go hz fun x _ hx _=>hW.block x hx).wide (zi _) hz w' hs hb).2,
      (hgl3.of_block (hb gl (by omega) hgl3.lt (by omega))).rd (Nat.mul_le_mul_right 2 hgl2) |>.more (zi _),(hgh3.of_block (hb gh (by omega) hgh3.lt (by omega))).rd (Nat.mul_le_mul_right 2 hgh2) |>.more (zi _)⟩
    exact (ro1.go (Nat.le_of_eq (zf _ _ _).symm) fun x _ _ hx=>Below.heap_setCell _ _ _ _ hx).go (Nat.le_of_eq (zf _ _ _).symm) fun x _ _ hx=>Below.heap_setCell _ _ _ _ hx
  case rest =>
  clear q ro s1 s2 hx3;obtain ⟨gl,el,gh,eh,E,q⟩:=hcut;go_upto_region 12 with (fail)
  go_cut [9] from 72 to 75 (fun x9 wx=>∃ go9,x9 = .pointer (some ⟨go9,0,none⟩)∧wx.rowIs go9 60 2 (zE #[.string (zb 1),.string (zb 1)])∧NqAt w wx N A c Al Ah cl ch n b (qb (qb (qb (zE (yZ N (some ⟨gN,0,none⟩) c1)) 2 (.slice (some ⟨gO,0,none⟩) N.l.length N.l.length)) 18 (.slice (some ⟨gl,0,none⟩) (n+1) el)) 19 (.slice (some ⟨gh,0,none⟩) (n+1) eh)) E (fun W=>NtAt W W.heap.size (some ⟨gN,0,none⟩) N.l∧Rd W W.heap.size (some ⟨gO,0,none⟩) (N.l.length*2) (zK (own N.l))∧Rd W W.heap.size (some ⟨gl,0,none⟩) ((n+1)*2) (zT lo)∧Rd W W.heap.size (some ⟨gh,0,none⟩) ((n+1)*2) (zT hi)))
  case first =>
   go_wp2_with (go_at_call 45;(with_reducible refine (qof_one _).mono ?_);rintro e w9 ⟨rfl,hb9⟩)
   all_goals
    go_meet;exact ⟨w9.heap.size,rfl,zU w9 _ _ _ _ rfl rfl,(q.below hb9).below ((zA _ _).alloc (zi _) _)⟩
  case rest =>
  clear q;obtain ⟨go9,rfl,ho9,q⟩:=hcut;have hx2:=q.q.b2.lt;have s1:wc.cell? ⟨w.heap.size,0,none⟩=some (.int .i64 (n:Int)):=by rw [← HN.out];exact q.q.b2.cell (i:=0) (by decide)
  have hw1:IntKind.i64.wrap ((n:Int)+1)=(n:Int)+1:=by rw [IntKind.wrap_i64];omega
  go_upto_region 13 with (fail)
  go_cut [11] from 76 to 81 (fun x11 wx=>∃ bl,x11 = .slice (some ⟨bl,0,none⟩) (n+1) (n+1)∧E≤bl∧wx.rowIs bl 54 (n+1) (fun _=>.string (zb 1))∧wx.rowIs go9 60 2 (zE #[.string (zb 1),.string (zb 1)])∧NqAt w wx N A c Al Ah cl ch n b (qb (qb (qb (zE (yZ N (some ⟨gN,0,none⟩) c1)) 2 (.slice (some ⟨gO,0,none⟩) N.l.length N.l.length)) 18 (.slice (some ⟨gl,0,none⟩) (n+1) el)) 19 (.slice (some ⟨gh,0,none⟩) (n+1) eh)) E (fun W=>NtAt W W.heap.size (some ⟨gN,0,none⟩) N.l∧Rd W W.heap.size (some ⟨gO,0,none⟩) (N.l.length*2) (zK (own N.l))∧Rd W W.heap.size (some ⟨gl,0,none⟩) ((n+1)*2) (zT lo)∧Rd W W.heap.size (some ⟨gh,0,none⟩) ((n+1)*2) (zT hi)))
  case first =>
   have HS:Hid (∀ W,Below wc.heap.size wc W→W.cell? ⟨w.heap.size,0,none⟩=some (.int .i64 (n:Int))):=za fun W hb=>zy hb s1 hx2;refine yc (n:=_) (PX:=[zc (zD 1),
      fun xl xv xw=>∃ X,xv = .slice (some ⟨X,0,none⟩) 1 1∧wc.heap.size≤X∧World.rowIs xw X 54 1 (zE #[.string (zb 1)]),
      zc (.pointer (some ⟨w.heap.size,0,none⟩)),
      zc (.int .i64 (n:Int)),
      zc (.int .i64 ((n:Int)+1))])
     (AL:=[1]) (DP:=[[],[0],[],[2],[3]]) (L1:=[0,1,2,3,4]) (ex:=[]) (by kernel_rfl) rfl (by kernel_rfl) ?_ ?_ (yf ?_)
   ·repeat' first|exact zO|refine ze ?_ ?_|exact fun _ _ _ _ h _=>h|fail
    ·exact fun l v w w2 h hb=>by obtain ⟨X,h1,h2,h3⟩:=h;exact ⟨X,h1,h2,zh h3 hb⟩
   ·refine ze ?_ (ze ?_ (ze (zg rfl [] ?_) (ze (zg rfl [(2,some 78)] ?_) (ze (zg rfl [(3,some 79)] ?_) zO))));all_goals try (intro vs W hW hd K hK;(try simp only [zR,zc,and_true,List.getD_cons_succ,List.getD_cons_zero] at hd);(first | simp only [hd,zo,Act.put,zx,zw,zv,zm,zl,zk] at hK ⊢ | simp only [zo,Act.put,zx,zw,zv,zm,zl,zk] at hK ⊢ | skip);obtain m1:=HS.out W hW;go_simp;exact hK.out _ _ rfl (zA _ _) (qS rfl))
    ·refine qo rfl [] ?_;intro vs W hW hd K hK;clear hd;try simp only [zo,Act.put,zx,zw,zv,zm,zl,zk] at hK ⊢
     go_simp;go_at_call 47;(with_reducible first | refine (zfG _).mono ?_);rintro e w9 ⟨rfl,hb9⟩;exact hK.out _ _ (rfl) hb9 (fun h=>absurd h (by decide))
    ·refine qo rfl [(0,some 76)] ?_;intro vs W hW hd K hK;have d0:vs 0=zD 1:=hd 0 (by decide);clear hd;try simp only [d0,zo,Act.put,zx,zw,zv,zm,zl,zk] at hK ⊢
     go_simp;exact hK.out _ _ ⟨W.heap.size,rfl,hW.size,zU _ _ _ _ _ rfl rfl⟩ ((zA _ _).alloc (zi _) _) (fun _ b hb=>by simp [zV] at hb;subst hb;exact ⟨zi _,by simp⟩)
   refine qT [(0,some 76),(1,some 77),(2,some 78),(3,some 79),(4,some 80)] #[true,true,true,true,true,false,false] 2 ?_;intro vs Wf hW hd hbk hdis kf;simp only [zR,zc,and_true,List.getD_cons_succ,List.getD_cons_zero] at hd;obtain ⟨d0,⟨X77,d1,b77,r77⟩,d2,d3,d4⟩:=hd;clear hbk hdis;try simp only [d0,d1,d2,d3,d4,zo,Act.put,zx,zw,zv,zm,zl,zk]
   clear d0 d1 d2 d3 d4 vs;clear HS;have l77:=r77.lt;have y77_0:=r77.frozen 0;have k77_0:=r77.cell (i:=0) (by decide);refine qt 5 (by kernel_rfl) rfl (fun K hK=>?_);go_simp;go_at_call 46;(with_reducible first | refine (zjh _ _ n hn128 r77).mono ?_);rintro e w9 ⟨⟨r,rfl,hr1,hr2⟩,hb9⟩;refine hK.out _ _ ?_;clear hK K;try simp only [zo,Act.put,zx,zw,zv,zm,zl,zk]
   refine qt 6 (by kernel_rfl) rfl (fun K hK=>?_);go_simp;refine hK.out _ _ ?_;clear hK K;try simp only [zo,Act.put,zx,zw,zv,zm,zl,zk]
   refine qV (by kernel_rfl) ?_ _;all_goals
    try go_wp2
    go_meet;have hz:=hW.size;have hu:=q.eU;have hWb:=zu hW hb9 hW.size;exact ⟨r,rfl,by omega,hr2,zh ho9 hWb,q.below hWb⟩
  case rest =>
  clear q ho9 s1 hx2;obtain ⟨bl,rfl,hbE,hbl,ho9,q⟩:=hcut;have hx2:=q.q.b2.lt;have s1:wc.cell? ⟨w.heap.size,1,none⟩=some (.slice A N.l.length c):=q.q.b2.cell (i:=1) (by decide);have hmk:=fun u=>oo N.l.length (by have:=HL.out.2;omega) u;have HMK:=za hmk;clear hmk;go_upto_region 14 with (fail)
  go_cut [] from 82 to 93 (fun wx=>∃ bh ch2 bL,NqAt w wx N A c Al Ah cl ch n b (qb (qb (qb (qb (qb (qb (qb (qb (qb (zE (yZ N (some ⟨gN,0,none⟩) c1)) 2 (.slice (some ⟨gO,0,none⟩) N.l.length N.l.length)) 18 (.slice (some ⟨gl,0,none⟩) (n+1) el)) 19 (.slice (some ⟨gh,0,none⟩) (n+1) eh)) 5 (.string (zb 1))) 6 (.func (.func 36) #[] #[])) 7 (.func (.func 48) #[] #[])) 8 (.slice (some ⟨bl,0,none⟩) (n+1) (n+1))) 9 (.slice (some ⟨bh,0,none⟩) (n+1) ch2)) 10 (.slice (some ⟨bL,0,none⟩) N.l.length N.l.length)) E (fun W=>NtAt W W.heap.size (some ⟨gN,0,none⟩) N.l∧Rd W W.heap.size (some ⟨gO,0,none⟩) (N.l.length*2) (zK (own N.l))∧Rd W W.heap.size (some ⟨gl,0,none⟩) ((n+1)*2) (zT lo)∧Rd W W.heap.size (some ⟨gh,0,none⟩) ((n+1)*2) (zT hi))∧wx.rowIs go9 60 2 (zE #[.string (zb 1),.string (zb 1)])∧NaR wx bl 54 (n+1) (n+1) (List.replicate (n+1) 1)∧NaR wx bh 54 ch2 (n+1) (List.replicate (n+1) 1)∧NaR wx bL 54 N.l.length N.l.length (List.replicate N.l.length 0)∧n+1≤ch2∧bl<bh∧bl<bL∧bh≠bL)
  case first =>
   have HS:Hid (∀ W,Below wc.heap.size wc W→W.cell? ⟨w.heap.size,1,none⟩=some (.slice A N.l.length c)):=za fun W hb=>zy hb s1 hx2;refine zaU (n:=_) (PX:=[zc (.pointer (some ⟨b,0,none⟩)),
      zc (zD 1),
      zc (.slice (some ⟨bl,0,none⟩) (n+1) (n+1)),
      zc (.slice (some ⟨bl,0,none⟩) (n+1) (n+1)),
      fun xl xv xw=>∃ bh ch2,xv = .slice (some ⟨bh,0,none⟩) (n+1) ch2∧wc.heap.size≤bh∧n+1≤ch2∧NaR xw bh 54 ch2 (n+1) (List.replicate (n+1) 1),
      zc (.pointer (some ⟨w.heap.size,1,none⟩)),
      zc (.slice A N.l.length c),
      zc (.int .i64 (N.l.length:Int)),
      fun xl xv xw=>∃ bL,xv = .slice (some ⟨bL,0,none⟩) N.l.length N.l.length∧wc.heap.size≤bL∧NaR xw bL 54 N.l.length N.l.length (List.replicate N.l.length 0)])
     (AL:=[4,8]) (DP:=[[],[],[],[],[3],[],[5],[6],[7]]) (L1:=[1,2,3,4,5,6,7,8]) (ex:=[0]) (by kernel_rfl) rfl (by kernel_rfl) (by kernel_rfl) (fun _ _ _ _ _ h=>h) ?_ ?_ ?_ ?_
   ·repeat' first|exact zO|refine ze ?_ ?_|exact fun _ _ _ _ h _=>h|fail
    ·exact fun l v w w2 h hb=>by obtain ⟨bh,ch2,h1,h2,h3,h4⟩:=h;exact ⟨bh,ch2,h1,h2,h3,h4.below hb⟩
    ·exact fun l v w w2 h hb=>by obtain ⟨bL,h1,h2,h3⟩:=h;exact ⟨bL,h1,h2,h3.below hb⟩
   ·refine ze ?_ (ze (zg rfl [] ?_) (ze (zg rfl [] ?_) (ze ?_ (ze (zg rfl [] ?_) (ze (zg rfl [(5,some 87)] ?_) (ze (zg rfl [(6,some 88)] ?_) (ze ?_ zO)))))));all_goals try (intro vs W hW hd K hK;(try simp only [zR,zc,and_true,List.getD_cons_succ,List.getD_cons_zero] at hd);(first | simp only [hd,zo,Act.put,zx,zw,zv,zm,zl,zk] at hK ⊢ | simp only [zo,Act.put,zx,zw,zv,zm,zl,zk] at hK ⊢ | skip);obtain m1:=HS.out W hW;go_simp;exact hK.out _ _ rfl (zA _ _) (qS rfl))
    ·refine qo rfl [] ?_;intro vs W hW hd K hK;clear hd;try simp only [zo,Act.put,zx,zw,zv,zm,zl,zk] at hK ⊢
     go_simp;go_at_call 47;(with_reducible first | refine (zfG _).mono ?_);rintro e w9 ⟨rfl,hb9⟩;exact hK.out _ _ (rfl) hb9 (fun h=>absurd h (by decide))
    ·refine qo rfl [(3,some 85)] ?_;intro vs W hW hd K hK;have d3:vs 3 = .slice (some ⟨bl,0,none⟩) (n+1) (n+1):=hd 3 (by decide);clear hd;try simp only [d3,zo,Act.put,zx,zw,zv,zm,zl,zk] at hK ⊢
     go_simp;go_at_call 49;(with_reducible first | refine (ziG _ bl n (by omega) (zh hbl hW)).mono ?_);rintro e w9 ⟨⟨bh,ch2,rfl,h1,h2,h3⟩,hb9⟩;exact hK.out _ _ (⟨bh,ch2,rfl,Nat.le_trans hW.size h1,h2,h3⟩) hb9 (fun _ b hb=>by simp [zV] at hb;subst hb;exact ⟨h1,h3.lt⟩)
    ·refine qo rfl [(7,some 89)] ?_;intro vs W hW hd K hK;have d7:vs 7 = .int .i64 (N.l.length:Int):=hd 7 (by decide);clear hd;try simp only [d7,zo,Act.put,zx,zw,zv,zm,zl,zk] at hK ⊢
     have hmk:=HMK.out;go_simp;exact hK.out _ _ ⟨W.heap.size,rfl,hW.size,NaR.made W _ _⟩ ((zA _ _).alloc (zi _) _) (fun _ b hb=>by simp [zV] at hb;subst hb;exact ⟨zi _,by simp⟩)
   ·refine ze ?_ zO
    ·refine YieldOk.intro rfl [] (by kernel_rfl) (fun _=>.pointer (some ⟨b,0,none⟩)) rfl ?_;intro vs W hd;clear hd;refine ⟨rfl,fun w2=>?_⟩;try simp only [zo,Act.put,zx,zw,zv,zm,zl,zk]
     go_simp
   refine qT [(1,some 83),(2,some 84),(3,some 85),(4,some 86),(5,some 87),(6,some 88),(7,some 89),(8,some 90),(0,some 82)] #[true,true,true,true,true,true,true,true,true,false,false,false,false] 4 ?_;intro vs Wf hW hd hbk hdis kf;simp only [zR,zc,and_true,List.getD_cons_succ,List.getD_cons_zero] at hd;obtain ⟨d1,d2,d3,⟨bh,ch2,d4,hh1,hh2,hh3⟩,d5,d6,d7,⟨bL,d8,hL1,hL2⟩,d0⟩:=hd;have n86_90:bh≠bL:=fun h=>hdis 4 (by decide) 8 (by decide) (by decide) rfl rfl bh (by rw [d4];rfl) (by rw [d8,h];rfl);have n90_86:=Ne.symm n86_90;clear hbk hdis;try simp only [d1,d2,d3,d4,d5,d6,d7,d8,d0,zo,Act.put,zx,zw,zv,zm,zl,zk]
   clear d1 d2 d3 d4 d5 d6 d7 d8 d0 vs;clear HS;have qf:=(q.below hW).q;have c5:=qf.row.cell (i:=5) (by decide);have z5:=qf.row.frozen 5;have c6:=qf.row.cell (i:=6) (by decide);have z6:=qf.row.frozen 6;have c7:=qf.row.cell (i:=7) (by decide);have z7:=qf.row.frozen 7;have c8:=qf.row.cell (i:=8) (by decide);have z8:=qf.row.frozen 8;have c9:=qf.row.cell (i:=9) (by decide);have z9:=qf.row.frozen 9;have c10:=qf.row.cell (i:=10) (by decide);have z10:=qf.row.frozen 10;refine qt 9 (by kernel_rfl) rfl (fun K hK=>?_);go_simp;refine hK.out _ _ ?_;clear hK K;try simp only [zo,Act.put,zx,zw,zv,zm,zl,zk]
   refine qt 10 (by kernel_rfl) rfl (fun K hK=>?_);go_simp;refine hK.out _ _ ?_;clear hK K;try simp only [zo,Act.put,zx,zw,zv,zm,zl,zk]
   refine qt 11 (by kernel_rfl) rfl (fun K hK=>?_);go_simp;refine hK.out _ _ ?_;clear hK K;try simp only [zo,Act.put,zx,zw,zv,zm,zl,zk]
   refine qt 12 (by kernel_rfl) rfl (fun K hK=>?_);go_simp;refine hK.out _ _ ?_;clear hK K;try simp only [zo,Act.put,zx,zw,zv,zm,zl,zk]
   refine qV (by kernel_rfl) ?_ _;all_goals
    try go_wp2
    go_meet;have hu:=q.eU;have hbe:=q.bE;have hl:=hbl.lt;have hgE:go9≠b:=fun e=>rowNe ho9 q.q.row (by decide) e;have hb1:bl≠b:=by omega
    have hb2:bh≠b:=by omega
    have hb3:bL≠b:=by omega
    have g0:=zh ho9 hW;have g1:=(NaR.ones hbl).below hW;refine ⟨bh,ch2,bL,((((((q.below hW).set 5 _).set 6 _).set 7 _).set 8 _).set 9 _).set 10 _,?_,?_,?_,?_,hh2,by omega,by omega,n86_90⟩
    ·exact (((((g0.setOther (a:=⟨b,5,none⟩) hgE _).setOther (a:=⟨b,6,none⟩) hgE _).setOther (a:=⟨b,7,none⟩) hgE _).setOther (a:=⟨b,8,none⟩) hgE _).setOther (a:=⟨b,9,none⟩) hgE _).setOther (a:=⟨b,10,none⟩) hgE _
    ·exact (((((g1.setOther (a:=⟨b,5,none⟩) hb1 _).setOther (a:=⟨b,6,none⟩) hb1 _).setOther (a:=⟨b,7,none⟩) hb1 _).setOther (a:=⟨b,8,none⟩) hb1 _).setOther (a:=⟨b,9,none⟩) hb1 _).setOther (a:=⟨b,10,none⟩) hb1 _
    ·exact (((((hh3.setOther (a:=⟨b,5,none⟩) hb2 _).setOther (a:=⟨b,6,none⟩) hb2 _).setOther (a:=⟨b,7,none⟩) hb2 _).setOther (a:=⟨b,8,none⟩) hb2 _).setOther (a:=⟨b,9,none⟩) hb2 _).setOther (a:=⟨b,10,none⟩) hb2 _
    ·exact (((((hL2.setOther (a:=⟨b,5,none⟩) hb3 _).setOther (a:=⟨b,6,none⟩) hb3 _).setOther (a:=⟨b,7,none⟩) hb3 _).setOther (a:=⟨b,8,none⟩) hb3 _).setOther (a:=⟨b,9,none⟩) hb3 _).setOther (a:=⟨b,10,none⟩) hb3 _
  case rest =>
  clear q ho9 s1 hx2 hbl HMK;obtain ⟨bh,ch2,bL,q,ho9,k1,k2,k3,hch2,p1,p2,p3⟩:=hcut;have hx2:=q.q.b2.lt;have hx3:=q.q.b3.lt;have hgo:=ho9.lt;have s1:wc.cell? ⟨go9,0,none⟩=some (.string (zb 1)):=ho9.cell (i:=0) (by decide);have s2:wc.cell? ⟨go9,1,none⟩=some (.string (zb 1)):=ho9.cell (i:=1) (by decide);have s3:wc.cell? ⟨w.heap.size+1,0,none⟩=some (.slice Al (n+1) cl):=q.q.b3.cell (i:=0) (by decide);have s4:wc.cell? ⟨w.heap.size+1,1,none⟩=some (.slice Ah (n+1) ch):=q.q.b3.cell (i:=1) (by decide);have s5:wc.cell? ⟨w.heap.size,1,none⟩=some (.slice A N.l.length c):=q.q.b2.cell (i:=1) (by decide);have hmk:=fun u=>mk_rat N.l.length (by have:=HL.out.2;omega) u;have HMK:=za hmk;clear hmk;go_upto_region 15 with (fail)
  go_cut [] from 94 to 108 (fun wx=>∃ pl dl ph dh pL,NqAt w wx N A c Al Ah cl ch n b (qb (qb (qb (qb (qb (qb (qb (qb (qb (qb (qb (qb (qb (qb (qb (qb (zE (yZ N (some ⟨gN,0,none⟩) c1)) 2 (.slice (some ⟨gO,0,none⟩) N.l.length N.l.length)) 18 (.slice (some ⟨gl,0,none⟩) (n+1) el)) 19 (.slice (some ⟨gh,0,none⟩) (n+1) eh)) 5 (.string (zb 1))) 6 (.func (.func 36) #[] #[])) 7 (.func (.func 48) #[] #[])) 8 (.slice (some ⟨bl,0,none⟩) (n+1) (n+1))) 9 (.slice (some ⟨bh,0,none⟩) (n+1) ch2)) 10 (.slice (some ⟨bL,0,none⟩) N.l.length N.l.length)) 11 (.string (zb 1))) 12 (.string (zb 1))) 13 (.func (.func 50) #[] #[])) 14 (.func (.func 51) #[] #[])) 15 (.slice (some ⟨pl,0,none⟩) (n+1) dl)) 16 (.slice (some ⟨ph,0,none⟩) (n+1) dh)) 17 (.slice (some ⟨pL,0,none⟩) N.l.length N.l.length)) E (fun W=>NtAt W W.heap.size (some ⟨gN,0,none⟩) N.l∧Rd W W.heap.size (some ⟨gO,0,none⟩) (N.l.length*2) (zK (own N.l))∧Rd W W.heap.size (some ⟨gl,0,none⟩) ((n+1)*2) (zT lo)∧Rd W W.heap.size (some ⟨gh,0,none⟩) ((n+1)*2) (zT hi))∧NaR wx bl 54 (n+1) (n+1) (List.replicate (n+1) 1)∧NaR wx bh 54 ch2 (n+1) (List.replicate (n+1) 1)∧NaR wx bL 54 N.l.length N.l.length (List.replicate N.l.length 0)∧PrR wx pl 60 (dl*2) (n+1) lo∧PrR wx ph 60 (dh*2) (n+1) hi∧PrR wx pL 60 (N.l.length*2) N.l.length (List.replicate N.l.length (0,0))∧n+1≤dl∧n+1≤dh∧(bl<pl∧bh<pl∧bL<pl)∧(bl<ph∧bh<ph∧bL<ph)∧(bl<pL∧bh<pL∧bL<pL)∧pl≠ph∧pl≠pL∧ph≠pL)
  case first =>
   have HS:Hid (∀ W,Below wc.heap.size wc W→W.cell? ⟨go9,0,none⟩=some (.string (zb 1))∧W.cell? ⟨go9,1,none⟩=some (.string (zb 1))∧W.cell? ⟨w.heap.size+1,0,none⟩=some (.slice Al (n+1) cl)∧W.cell? ⟨w.heap.size+1,1,none⟩=some (.slice Ah (n+1) ch)∧W.cell? ⟨w.heap.size,1,none⟩=some (.slice A N.l.length c)):=za fun W hb=>⟨zy hb s1 hgo,zy hb s2 hgo,zy hb s3 hx3,zy hb s4 hx3,zy hb s5 hx2⟩;refine zaU (n:=_) (PX:=[zc (.pointer (some ⟨b,0,none⟩)),
      zc (zZ 1 1),
      zc (.pointer (some ⟨w.heap.size+1,0,none⟩)),
      zc (.slice Al (n+1) cl),
      fun xl xv xw=>∃ pl dl,xv = .slice (some ⟨pl,0,none⟩) (n+1) dl∧wc.heap.size≤pl∧n+1≤dl∧PrR xw pl 60 (dl*2) (n+1) lo,
      zc (.pointer (some ⟨w.heap.size+1,1,none⟩)),
      zc (.slice Ah (n+1) ch),
      fun xl xv xw=>∃ ph dh,xv = .slice (some ⟨ph,0,none⟩) (n+1) dh∧wc.heap.size≤ph∧n+1≤dh∧PrR xw ph 60 (dh*2) (n+1) hi,
      zc (.pointer (some ⟨w.heap.size,1,none⟩)),
      zc (.slice A N.l.length c),
      zc (.int .i64 (N.l.length:Int)),
      fun xl xv xw=>∃ pL,xv = .slice (some ⟨pL,0,none⟩) N.l.length N.l.length∧wc.heap.size≤pL∧PrR xw pL 60 (N.l.length*2) N.l.length (List.replicate N.l.length (0,0))])
     (AL:=[4,7,11]) (DP:=[[],[],[],[2],[3],[],[5],[6],[],[8],[9],[10]]) (L1:=[1,2,3,4,5,6,7,8,9,10,11]) (ex:=[0]) (by kernel_rfl) rfl (by kernel_rfl) (by kernel_rfl) (fun _ _ _ _ _ h=>h) ?_ ?_ ?_ ?_
   ·repeat' first|exact zO|refine ze ?_ ?_|exact fun _ _ _ _ h _=>h|fail
    ·exact fun l v w w2 h hb=>by obtain ⟨pl,dl,h1,h2,h3,h4⟩:=h;exact ⟨pl,dl,h1,h2,h3,h4.below hb⟩
    ·exact fun l v w w2 h hb=>by obtain ⟨ph,dh,h1,h2,h3,h4⟩:=h;exact ⟨ph,dh,h1,h2,h3,h4.below hb⟩
    ·exact fun l v w w2 h hb=>by obtain ⟨pL,h1,h2,h3⟩:=h;exact ⟨pL,h1,h2,h3.below hb⟩
   ·refine ze (zg rfl [] ?_) (ze (zg rfl [] ?_) (ze (zg rfl [(2,some 96)] ?_) (ze ?_ (ze (zg rfl [] ?_) (ze (zg rfl [(5,some 99)] ?_) (ze ?_ (ze (zg rfl [] ?_) (ze (zg rfl [(8,some 102)] ?_) (ze (zg rfl [(9,some 103)] ?_) (ze ?_ zO))))))))));all_goals try (intro vs W hW hd K hK;(try simp only [zR,zc,and_true,List.getD_cons_succ,List.getD_cons_zero] at hd);(first | simp only [hd,zo,Act.put,zx,zw,zv,zm,zl,zk] at hK ⊢ | simp only [zo,Act.put,zx,zw,zv,zm,zl,zk] at hK ⊢ | skip);obtain ⟨m1,m2,m3,m4,m5⟩:=HS.out W hW;go_simp;exact hK.out _ _ rfl (zA _ _) (qS rfl))
    ·refine qo rfl [(3,some 97)] ?_;intro vs W hW hd K hK;have d3:vs 3 = .slice Al (n+1) cl:=hd 3 (by decide);clear hd;try simp only [d3,zo,Act.put,zx,zw,zv,zm,zl,zk] at hK ⊢
     go_simp;go_at_call 44;(with_reducible first | refine (HCL.out _ (zu q.bl hW q.bl.size)).mono ?_);rintro e w9 ⟨⟨pl,dl,rfl,hpl1,hpl2,hpl3⟩,hb9⟩;exact hK.out _ _ (⟨pl,dl,rfl,Nat.le_trans hW.size hpl1,hpl2,hpl3⟩) hb9 (fun _ b hb=>by simp [zV] at hb;subst hb;exact ⟨hpl1,hpl3.lt⟩)
    ·refine qo rfl [(6,some 100)] ?_;intro vs W hW hd K hK;have d6:vs 6 = .slice Ah (n+1) ch:=hd 6 (by decide);clear hd;try simp only [d6,zo,Act.put,zx,zw,zv,zm,zl,zk] at hK ⊢
     go_simp;go_at_call 44;(with_reducible first | refine (HCH.out _ (zu q.bl hW q.bl.size)).mono ?_);rintro e w9 ⟨⟨ph,dh,rfl,hph1,hph2,hph3⟩,hb9⟩;exact hK.out _ _ (⟨ph,dh,rfl,Nat.le_trans hW.size hph1,hph2,hph3⟩) hb9 (fun _ b hb=>by simp [zV] at hb;subst hb;exact ⟨hph1,hph3.lt⟩)
    ·refine qo rfl [(10,some 104)] ?_;intro vs W hW hd K hK;have d10:vs 10 = .int .i64 (N.l.length:Int):=hd 10 (by decide);clear hd;try simp only [d10,zo,Act.put,zx,zw,zv,zm,zl,zk] at hK ⊢
     have hmk:=HMK.out;go_simp;exact hK.out _ _ ⟨W.heap.size,rfl,hW.size,PrR.made W _ _⟩ ((zA _ _).alloc (zi _) _) (fun _ b hb=>by simp [zV] at hb;subst hb;exact ⟨zi _,by simp⟩)
   ·refine ze ?_ zO
    ·refine YieldOk.intro rfl [] (by kernel_rfl) (fun _=>.pointer (some ⟨b,0,none⟩)) rfl ?_;intro vs W hd;clear hd;refine ⟨rfl,fun w2=>?_⟩;try simp only [zo,Act.put,zx,zw,zv,zm,zl,zk]
     go_simp
   refine qT [(1,some 95),(2,some 96),(3,some 97),(4,some 98),(5,some 99),(6,some 100),(7,some 101),(8,some 102),(9,some 103),(10,some 104),(11,some 105),(0,some 94)] #[true,true,true,true,true,true,true,true,true,true,true,true,false,false,false,false] 4 ?_;intro vs Wf hW hd hbk hdis kf;simp only [zR,zc,and_true,List.getD_cons_succ,List.getD_cons_zero] at hd;obtain ⟨d1,d2,d3,⟨pl,dl,d4,hpl1,hpl2,hpl3⟩,d5,d6,⟨ph,dh,d7,hph1,hph2,hph3⟩,d8,d9,d10,⟨pL,d11,hq1,hq2⟩,d0⟩:=hd;have n98_101:pl≠ph:=fun h=>hdis 4 (by decide) 7 (by decide) (by decide) rfl rfl pl (by rw [d4];rfl) (by rw [d7,h];rfl);have n101_98:=Ne.symm n98_101;have n98_105:pl≠pL:=fun h=>hdis 4 (by decide) 11 (by decide) (by decide) rfl rfl pl (by rw [d4];rfl) (by rw [d11,h];rfl);have n105_98:=Ne.symm n98_105;have n101_105:ph≠pL:=fun h=>hdis 7 (by decide) 11 (by decide) (by decide) rfl rfl ph (by rw [d7];rfl) (by rw [d11,h];rfl);have n105_101:=Ne.symm n101_105;clear hbk hdis;try simp only [d1,d2,d3,d4,d5,d6,d7,d8,d9,d10,d11,d0,zo,Act.put,zx,zw,zv,zm,zl,zk]
   clear d1 d2 d3 d4 d5 d6 d7 d8 d9 d10 d11 d0 vs;clear HS;have qf:=(q.below hW).q;have c11:=qf.row.cell (i:=11) (by decide);have z11:=qf.row.frozen 11;have c12:=qf.row.cell (i:=12) (by decide);have z12:=qf.row.frozen 12;have c13:=qf.row.cell (i:=13) (by decide);have z13:=qf.row.frozen 13;have c14:=qf.row.cell (i:=14) (by decide);have z14:=qf.row.frozen 14;have c15:=qf.row.cell (i:=15) (by decide);have z15:=qf.row.frozen 15;have c16:=qf.row.cell (i:=16) (by decide);have z16:=qf.row.frozen 16;have c17:=qf.row.cell (i:=17) (by decide);have z17:=qf.row.frozen 17;refine qt 12 (by kernel_rfl) rfl (fun K hK=>?_);go_simp;refine hK.out _ _ ?_;clear hK K;try simp only [zo,Act.put,zx,zw,zv,zm,zl,zk]
   refine qt 13 (by kernel_rfl) rfl (fun K hK=>?_);go_simp;refine hK.out _ _ ?_;clear hK K;try simp only [zo,Act.put,zx,zw,zv,zm,zl,zk]
   refine qt 14 (by kernel_rfl) rfl (fun K hK=>?_);go_simp;refine hK.out _ _ ?_;clear hK K;try simp only [zo,Act.put,zx,zw,zv,zm,zl,zk]
   refine qt 15 (by kernel_rfl) rfl (fun K hK=>?_);go_simp;refine hK.out _ _ ?_;clear hK K;try simp only [zo,Act.put,zx,zw,zv,zm,zl,zk]
   refine qV (by kernel_rfl) ?_ _;all_goals
    try go_wp2
    go_meet;have hu:=q.eU;have hbe:=q.bE;have l1:=k1.lt;have l2:=k2.lt;have l3:=k3.lt;have e1:bl≠b:=by omega
    have e2:bh≠b:=by omega
    have e3:bL≠b:=by omega
    have e4:pl≠b:=by omega
    have e5:ph≠b:=by omega
    have e6:pL≠b:=by omega
    refine ⟨pl,dl,ph,dh,pL,(((((((q.below hW).set 11 _).set 12 _).set 13 _).set 14 _).set 15 _).set 16 _).set 17 _,(k1.below hW).put7 e1,(k2.below hW).put7 e2,(k3.below hW).put7 e3,hpl3.put7 e4,hph3.put7 e5,hq2.put7 e6,hpl2,hph2,⟨by omega,by omega,by omega⟩,⟨by omega,by omega,by omega⟩,⟨by omega,by omega,by omega⟩,n98_101,n98_105,n101_105⟩
  case rest =>
  clear q ho9 s1 s2 s3 s4 s5 hx2 hx3 hgo HMK k1 k2 k3;obtain ⟨pl,dl,ph,dh,pL,q,k1,k2,k3,k4,k5,k6,hdl,hdh,⟨u1,u2,u3⟩,⟨v1,v2,v3⟩,⟨w1,w2,w3⟩,x1,x2,x3⟩:=hcut;obtain ⟨hwt,hb0,hd,hs,hv⟩:=HWT.out;obtain ⟨g,hg⟩:∃ g:Sg,g=⟨b,some ⟨gN,0,none⟩,c1,some ⟨gO,0,none⟩,N.l.length,bl,n+1,bh,ch2,bL,N.l.length,pl,dl,ph,dh,pL,N.l.length,some ⟨gl,0,none⟩,el,some ⟨gh,0,none⟩,eh⟩:=⟨_,rfl⟩;have hlb:=q.q.lb;have hbe:=q.bE;have hss:SsAt wc w.heap.size E g N n lo hi (.slice none 0 0) [] 0 (qC n []) (qE n []) (List.replicate N.l.length 0) (qk n lo []) (qm n hi []) (List.replicate N.l.length (0,0)):=by
   rw [o5,cHi_nil,gC hwt.ll,wHi_nil hwt.lh,hg];exact {
    row:=q.q.row.congr fun i hi=>twenty (P:=fun i=>(qb (qb (qb (qb (qb (qb (qb (qb (qb (qb (qb (qb (qb (qb (qb (qb (zE (yZ N (some ⟨gN,0,none⟩) c1)) 2 (.slice (some ⟨gO,0,none⟩) N.l.length N.l.length)) 18 (.slice (some ⟨gl,0,none⟩) (n+1) el)) 19 (.slice (some ⟨gh,0,none⟩) (n+1) eh)) 5 (.string (zb 1))) 6 (.func (.func 36) #[] #[])) 7 (.func (.func 48) #[] #[])) 8 (.slice (some ⟨bl,0,none⟩) (n+1) (n+1))) 9 (.slice (some ⟨bh,0,none⟩) (n+1) ch2)) 10 (.slice (some ⟨bL,0,none⟩) N.l.length N.l.length)) 11 (.string (zb 1))) 12 (.string (zb 1))) 13 (.func (.func 50) #[] #[])) 14 (.func (.func 51) #[] #[])) 15 (.slice (some ⟨pl,0,none⟩) (n+1) dl)) 16 (.slice (some ⟨ph,0,none⟩) (n+1) dh)) 17 (.slice (some ⟨pL,0,none⟩) N.l.length N.l.length)) i=sesF _ N n (.slice none 0 0) 0 i) rfl rfl rfl rfl rfl rfl rfl rfl rfl rfl rfl rfl rfl rfl rfl rfl rfl rfl rfl rfl i hi
    ro:=q.ro
    c1:=k1
    c2:=k2
    c3:=k3
    p1:=k4
    p2:=k5
    p3:=k6
    tr:=World.ownsRow_nil _ _ _ _
    ok:={
     bD:=by show w.heap.size≤b;omega
     bE:=hbe
     rE:=fun x hx=>by
      simp [Sg.rows] at hx;omega
     nd:=by
      simp [Sg.rows];omega
     hcl:=zi _
     hch:=hch2
     hcL:=zi _
     hdl:=hdl
     hdh:=hdh
     hdL:=zi _ }
    tn:=fun x hx=>by cases hx
    eU:=q.eU
    l1:=List.length_replicate
    l2:=List.length_replicate
    l3:=List.length_replicate
    q1:=hwt.ll
    q2:=hwt.lh
    q3:=List.length_replicate }
  have hTW:Tab wc:=HTT.out.below q.bl;have hz8:∀ j,n8 ((List.replicate N.l.length 0).getD j 0)≤100000:=fun j=>by
   rw [show (List.replicate N.l.length 0).getD j 0=0 by rw [List.getD_eq_getElem?_getD,List.getElem?_replicate];split <;> rfl,ja];omega
  have hzS:∀ j,Sp ((List.replicate N.l.length ((0,0):Pr)).getD j (0,0)):=fun j=>by
   rw [show (List.replicate N.l.length ((0,0):Pr)).getD j (0,0)=(0,0) by rw [List.getD_eq_getElem?_getD,List.getElem?_replicate];split <;> rfl];exact Sp.zero
  have hec:=zjy wc hss hTW HTT.out.lt hv hd hs HN.out zek zel (hwt.okT hb0 []) (zcU Sp.zero hwt.sl) (zcV Sp.zero hwt.sh) _ rfl _ _ rfl rfl hz8 hzS (fun j _ h=>by cases h) (fun j _ h=>by cases h);have hbl:=q.bl;have hgb:g.b=b:=by rw [hg]
  rw [hgb] at hec;have hkeep:∀ W,Keep [b,g.bL,g.pL] wc W→Below w.heap.size w W:=fun W hk=>hbl.trans (hk.toBelow (D:=w.heap.size) (fun x hx=>by
   rw [hg] at hx;simp at hx;omega) (Nat.le_trans (Nat.le_of_lt (Nat.lt_of_lt_of_le (Nat.lt_of_le_of_lt (Nat.le_succ _) hlb) (Nat.le_of_lt hbe))) q.eU))
  have HEC:=za hec;have HKE:=za hkeep;have HGB:=za hgb;clear hec hkeep hss hTW hz8 hzS q k1 k2 k3 k4 k5 k6 hwt hb0 hd hs hv hg hgb hbl;go_wp2_with (go_at_call 52;(with_reducible refine HEC.out.mono ?_);rintro e w9 ⟨rfl,q9,k9⟩;have c4:=q9.row.cell (i:=4) (by decide);have z4:=q9.row.frozen 4;rw [HGB.out] at c4 z4)
  all_goals
   go_ret2;have q10:=q9.setK 0;rw [HGB.out] at q10;refine ⟨g,E,by rw [HGB.out];rfl,q10,(HKE.out _ k9).setCell (p:=⟨b,4,none⟩) (show w.heap.size≤b by omega) _⟩
end Go.Proofs.YtoljkoifgnmbgaaGreatDoor
