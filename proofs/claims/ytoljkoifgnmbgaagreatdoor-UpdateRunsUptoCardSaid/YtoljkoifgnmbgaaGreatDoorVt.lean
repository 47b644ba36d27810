import Derived.Test.YtoljkoifgnmbgaaGreatDoorVq
import Derived.WalkMore
import Derived.Deep.CutBlock
import Derived.Deep.CutRange
set_option linter.unusedSimpArgs false
set_option linter.unusedVariables false
set_option maxRecDepth 100000
set_option maxHeartbeats 8000000
open Go Go.RowKit Cs
namespace Go.Proofs.YtoljkoifgnmbgaaGreatDoor
theorem zlq (w:World) (N:Nt) (A Al Ah AL Ao:Option Addr) (b c cl ch cL cO n:Nat) (lo hi L:List Nat) (hT:Tab w) (hbs:b<w.heap.size)
  (h6:w.cell? ⟨b,6,none⟩=some (.func (.func 36) #[] #[])) (h7:w.cell? ⟨b,7,none⟩=some (.func (.func 48) #[] #[])) (h8:w.cell? ⟨b,8,none⟩=some (.slice Al (n+1) cl)) (h9:w.cell? ⟨b,9,none⟩=some (.slice Ah (n+1) ch))
  (h10:w.cell? ⟨b,10,none⟩=some (.slice AL N.l.length cL))
  (hlo:Rd w w.heap.size Al ((n+1)) (qI lo)) (hhi:Rd w w.heap.size Ah ((n+1)) (qI hi)) (hL:Rd w w.heap.size AL (N.l.length) (qI L)) (hO:Rd w w.heap.size Ao (N.l.length*2) (zK (own N.l)))
  (hv:zC N=true) (hn:N.n=(n:Int))
  (hwd:∀ m,n8 ((RL n lo hi).wide (L.getD (N.l.length-1) 0) ((vl (zI (qs N.n) ((own N.l).getD (N.l.length-1) 0))).take m))≤100000)
  (hb1:∀ v,1≤v→n8 (lo.getD v 0)≤100000∧n8 (hi.getD v 0)≤100000) (hb2:∀ u,n8 ((RL n lo hi).both u)≤100000) (Y:Nat)
  (hY:Y=(RL n lo hi).wide (L.getD (N.l.length-1) 0) (vl (zI (qs N.n) ((own N.l).getD (N.l.length-1) 0)))) :
  Calls Tryz.prog 66 #[.pointer (some ⟨b,5,none⟩),ql N A c,.slice Ao N.l.length cO] w fun e w'=>e = .returned (zD (Y))∧Below w.heap.size w w':=by
 obtain ⟨hn0,hn1,hl0,hl1⟩:=qD hv;have hn128:=yF hv hn;obtain ⟨r,hr⟩:∃ r,N.l.length=r+1:=⟨N.l.length-1,by omega⟩;have hr1:N.l.length-1=r:=by omega
 rw [hr1,hn] at hwd hY;obtain ⟨bL,oL,rfl,hbL,hcLL⟩:=hL (by omega);obtain ⟨bO,oO,rfl,hbO,hcO⟩:=hO (by omega);have hsb:∀ u∈vl (zI (qs (n:Int)) ((own N.l).getD r 0)),u.natAbs≤n:=fun u hu=>by
  obtain ⟨k,hk,rfl⟩:=zdN hu;rw [jQ,Bool.and_eq_true] at hk;have h1:=hk.1;rw [zbm] at h1;simp at h1;omega
 have hwi:=fun W (hb:Below w.heap.size w W) x s hs hsm=>ziv W b cl ch n lo hi Al Ah x s (hT.below hb) (Nat.lt_of_lt_of_le hbs hb.size) (zy hb h6 hbs) (zy hb h7 hbs) (zy hb h8 hbs) (zy hb h9 hbs)
  ((hlo.below hb).more hb.size) ((hhi.below hb).more hb.size) hs hsm hb1 hb2
 have hwi:∀ W,Below w.heap.size w W→Calls Tryz.prog 110 #[.pointer (some ⟨b,5,none⟩),zD (L.getD r 0),zY (zI (qs (n:Int)) ((own N.l).getD r 0))] W fun e w'=>e = .returned (zD ((RL n lo hi).wide (L.getD r 0) (vl (zI (qs (n:Int)) ((own N.l).getD r 0)))))∧Below W.heap.size W w' :=
  fun W hb=>hwi W hb _ _ hsb hwd
 have HY0:=hY;have HTB:=hT;clear hY hwd hsb hb1 hb2 hT hlo hhi hr1 h6 h7 h8 h9;have hbx:=((jx w N A c 24 _ rfl).alloc (.cells #[.string ⟨#[]⟩] 54));have hrs:=(zU (w.alloc (.cells #[.int .i64 N.n,.slice A N.l.length c] 24)) #[.string ⟨#[]⟩] 54 (w.heap.size+1) 1 (by simp) rfl);have hbl:=(((Below.refl w.heap.size w).alloc (zi _) (.cells #[.int .i64 N.n,.slice A N.l.length c] 24)).alloc (by simp) (.cells #[.string ⟨#[]⟩] 54));have hrr:(N.l.length:Int)=(r:Int)+1:=by omega
 go_enter Tryz.func66, Tryz.ntmps66;go_upto_region 1 with (fail)
 go_cut [7] from 8 to 11 (fun x wx=>x = .int .i64 (r:Int)∧wx.rowIs w.heap.size 24 2 (ntF N A c)∧wx.rowIs (w.heap.size+1) 54 1 (zE #[.string ⟨#[]⟩])∧Below w.heap.size w wx)
 case first =>
  go_wp2_with fail
  go_meet;rw [hn,hr] at hbx hrs hbl;exact ⟨by go_num,hbx,hrs,hbl⟩
 case rest =>
 obtain ⟨rfl,hbx,rr,hbc⟩:=hcut;have h5:=zy hbc h10 hbs;have o1:wc.cell? ⟨bO,oO+r*2,none⟩=some (.int .u64 (Cs.lo ((own N.l).getD r 0):Int)):=(hbc.cell (p:=⟨bO,oO+r*2,none⟩) hbO).trans ((hcO (r*2) (by omega)).trans (by rw [zfv]));have o2:wc.cell? ⟨bO,oO+r*2+1,none⟩=some (.int .u64 (Cs.hi ((own N.l).getD r 0):Int)):=(hbc.cell (p:=⟨bO,oO+r*2+1,none⟩) hbO).trans ((hcO (r*2+1) (by omega)).trans (by rw [zfu]));have cn:wc.cell? ⟨w.heap.size,0,none⟩=some (.int .i64 (n:Int)):=by rw [← hn];exact hbx.cell (i:=0) (by decide)
 have hS0:=h5;have lx:wc.cell? ⟨bL,oL+r,none⟩=some (.string (zb (L.getD r 0))):=(hbc.cell (p:=⟨bL,oL+r,none⟩) hbL).trans (hcLL r (by omega));obtain ⟨x,hx⟩:∃ x,L.getD r 0=x:=⟨_,rfl⟩;rw [hx] at lx hwi HY0;obtain ⟨s,hs⟩:∃ s,(own N.l).getD r 0=s:=⟨_,rfl⟩;rw [hs] at o1 o2 hwi HY0;obtain ⟨y,hy⟩:∃ y,(RL n lo hi).wide x (vl (zI (qs (n:Int)) s))=y:=⟨_,rfl⟩;rw [hy] at hwi;have HY:=za (HY0.trans hy);have HWI:=za hwi;have hbw:b<wc.heap.size:=Nat.lt_of_lt_of_le hbs hbc.size;have hbLw:bL<wc.heap.size:=Nat.lt_of_lt_of_le hbL hbc.size;have hbOw:bO<wc.heap.size:=Nat.lt_of_lt_of_le hbO hbc.size;have hxw:=hbx.lt;have i1:(0:Int)≤(r:Int):=by omega
 have i2:(r:Int)<(N.l.length:Int):=by omega
 clear hwi hy HY0 hs hcLL hcO h5 h10 hrs hbl hr hx hrr hl0 hl1;have s1:=hS0;have s2:=lx;have s3:=cn;have s4:=o1;have s5:=o2;clear hS0 lx cn o1 o2;go_wp2_with fail
 have HS:Hid (∀ W,Below wc.heap.size wc W→W.cell? ⟨b,10,none⟩=some (.slice (some ⟨bL,oL,none⟩) N.l.length cL)∧W.cell? ⟨bL,oL+r,none⟩=some (.string (zb x))∧W.cell? ⟨w.heap.size,0,none⟩=some (.int .i64 (n:Int))∧W.cell? ⟨bO,oO+r*2,none⟩=some (.int .u64 (Cs.lo s:Int))∧W.cell? ⟨bO,oO+r*2+1,none⟩=some (.int .u64 (Cs.hi s:Int))):=za fun W hb=>⟨zy hb s1 hbw,zy hb s2 hbLw,zy hb s3 hxw,zy hb s4 hbOw,zy hb s5 hbOw⟩;refine yc (n:=_) (PX:=[zc (.pointer (some ⟨b,5,none⟩)),
    zc (.pointer (some ⟨b,5,none⟩)),
    zc (.pointer (some ⟨b,5,none⟩)),
    zc (.pointer (some ⟨b,10,none⟩)),
    zc (.slice (some ⟨bL,oL,none⟩) N.l.length cL),
    zc (.int .i64 (r:Int)),
    zc (.pointer (some ⟨bL,oL+r,none⟩)),
    zc (.agg #[.string (zb x)]),
    zc (.pointer (some ⟨w.heap.size,0,none⟩)),
    zc (.int .i64 (n:Int)),
    zc (zY (qs (n:Int))),
    zc (.slice (some ⟨bO,oO,none⟩) N.l.length cO),
    zc (.int .i64 (r:Int)),
    zc (.pointer (some ⟨bO,oO+r*2,none⟩)),
    zc (zY s),
    zc (zY (zI (qs (n:Int)) s)),
    zc (.agg #[.string (zb y)])])
   (AL:=[]) (DP:=[[],[],[1],[2],[3],[],[4,5],[6],[],[8],[9],[],[],[11,12],[13],[10,14],[0,7,15]]) (L1:=[0,1,2,3,4,5,6,7,8,9,10,11,12,13,14,15,16]) (ex:=[]) (by kernel_rfl) rfl (by kernel_rfl) ?_ ?_ (yf ?_)
 ·repeat' first|exact zO|refine ze ?_ ?_|exact fun _ _ _ _ h _=>h
 ·refine ze (zg rfl [] ?_) (ze (zg rfl [] ?_) (ze (zg rfl [(1,some 13)] ?_) (ze (zg rfl [(2,some 14)] ?_) (ze (zg rfl [(3,some 15)] ?_) (ze (zg rfl [] ?_) (ze (zg rfl [(4,some 16),(5,some 17)] ?_) (ze (zg rfl [(6,some 18)] ?_) (ze (zg rfl [] ?_) (ze (zg rfl [(8,some 20)] ?_) (ze ?_ (ze (zg rfl [] ?_) (ze (zg rfl [] ?_) (ze (zg rfl [(11,some 23),(12,some 24)] ?_) (ze (zg rfl [(13,some 25)] ?_) (ze ?_ (ze ?_ zO))))))))))))))));all_goals try (intro vs W hW hd K hK;(try simp only [zR,zc,and_true,List.getD_cons_succ,List.getD_cons_zero] at hd);(first | simp only [hd,zo,Act.put,zx,zw,zv,zm,zl,zk] at hK ⊢ | simp only [zo,Act.put,zx,zw,zv,zm,zl,zk] at hK ⊢ | skip);obtain ⟨m1,m2,m3,m4,m5⟩:=HS.out W hW;go_simp;exact hK.out _ _ rfl (zA _ _) (qS rfl))
  ·refine qo rfl [(9,some 21)] ?_;intro vs W hW hd K hK;have d9:vs 9 = .int .i64 (n:Int):=hd 9 (by decide);clear hd;try simp only [d9,zo,Act.put,zx,zw,zv,zm,zl,zk] at hK ⊢
   go_simp;go_at_call 112;(with_reducible first | refine (xc _ _).mono ?_);rintro e w9 ⟨rfl,hb9⟩;exact hK.out _ _ (rfl) hb9 (fun h=>absurd h (by decide))
  ·refine qo rfl [(10,some 22),(14,some 26)] ?_;intro vs W hW hd K hK;have d10:vs 10=zY (qs (n:Int)):=hd 10 (by decide);have d14:vs 14=zY s:=hd 14 (by decide);clear hd;try simp only [d10,d14,zo,Act.put,zx,zw,zv,zm,zl,zk] at hK ⊢
   go_simp;go_at_call 111;(with_reducible first | refine (zdg _ _ _).mono ?_);rintro e w9 ⟨rfl,hb9⟩;exact hK.out _ _ (rfl) hb9 (fun h=>absurd h (by decide))
  ·refine qo rfl [(0,some 12),(7,some 19),(15,some 27)] ?_;intro vs W hW hd K hK;have d0:vs 0 = .pointer (some ⟨b,5,none⟩):=hd 0 (by decide);have d7:vs 7 = .agg #[.string (zb x)]:=hd 7 (by decide);have d15:vs 15=zY (zI (qs (n:Int)) s):=hd 15 (by decide);clear hd;try simp only [d0,d7,d15,zo,Act.put,zx,zw,zv,zm,zl,zk] at hK ⊢
   go_simp;go_at_call 110;(with_reducible first | refine (HWI.out _ (zu hbc hW hbc.size)).mono ?_);rintro e w9 ⟨rfl,hb9⟩;exact hK.out _ _ (rfl) hb9 (fun h=>absurd h (by decide))
 refine qT [(0,some 12),(1,some 13),(2,some 14),(3,some 15),(4,some 16),(5,some 17),(6,some 18),(7,some 19),(8,some 20),(9,some 21),(10,some 22),(11,some 23),(12,some 24),(13,some 25),(14,some 26),(15,some 27),(16,some 28)] #[true,true,true,true,true,true,true,true,true,true,true,true,true,true,true,true,true,false] 1 ?_;intro vs Wf hW hd hbk hdis kf;simp only [zR,zc,and_true,List.getD_cons_succ,List.getD_cons_zero] at hd;obtain ⟨d0,d1,d2,d3,d4,d5,d6,d7,d8,d9,d10,d11,d12,d13,d14,d15,d16⟩:=hd;clear hbk hdis;try simp only [d0,d1,d2,d3,d4,d5,d6,d7,d8,d9,d10,d11,d12,d13,d14,d15,d16,zo,Act.put,zx,zw,zv,zm,zl,zk]
 clear d0 d1 d2 d3 d4 d5 d6 d7 d8 d9 d10 d11 d12 d13 d14 d15 d16 vs;clear HS;have rf:=zh rr hW;have c0:=rf.cell (i:=0) (by decide);have z0:=rf.frozen 0;refine qt 17 (by kernel_rfl) rfl (fun K hK=>?_);go_simp;refine hK.out _ _ ?_;clear hK K;try simp only [zo,Act.put,zx,zw,zv,zm,zl,zk]
 refine qV (by kernel_rfl) ?_ _;all_goals
  have hbf:=zu hbc hW hbc.size;try go_wp2
  exact yN rfl _ rfl ((rf.set 0 (.string (zb y))).congr fun i hi=>by
   have e:i=0:=by omega
   subst e;rfl) rfl ⟨by rw [HY.out],hbf.setCell (by simp <;> omega) _⟩
theorem zlm (w:World) (N:Nt) (A Al Ah AL Ao:Option Addr) (b c cl ch cL cO n:Nat) (lo hi L:List Pr) (hT:Tab w) (hbs:b<w.heap.size)
  (h6:w.cell? ⟨b,13,none⟩=some (.func (.func 50) #[] #[])) (h7:w.cell? ⟨b,14,none⟩=some (.func (.func 51) #[] #[])) (h8:w.cell? ⟨b,15,none⟩=some (.slice Al (n+1) cl)) (h9:w.cell? ⟨b,16,none⟩=some (.slice Ah (n+1) ch))
  (h10:w.cell? ⟨b,17,none⟩=some (.slice AL N.l.length cL))
  (hlo:Rd w w.heap.size Al ((n+1)*2) (zT lo)) (hhi:Rd w w.heap.size Ah ((n+1)*2) (zT hi)) (hL:Rd w w.heap.size AL (N.l.length*2) (zT L)) (hO:Rd w w.heap.size Ao (N.l.length*2) (zK (own N.l)))
  (hv:zC N=true) (hn:N.n=(n:Int))
  (hwd:∀ m,Sp ((RP n lo hi).wide (L.getD (N.l.length-1) (0,0)) ((vl (zI (qs N.n) ((own N.l).getD (N.l.length-1) 0))).take m)))
  (hb1:∀ v,1≤v→Sp (lo.getD v (0,0))∧Sp (hi.getD v (0,0))) (hb2:∀ u,Sp ((RP n lo hi).both u)) (Y:Pr)
  (hY:Y=(RP n lo hi).wide (L.getD (N.l.length-1) (0,0)) (vl (zI (qs N.n) ((own N.l).getD (N.l.length-1) 0)))) :
  Calls Tryz.prog 67 #[.pointer (some ⟨b,11,none⟩),ql N A c,.slice Ao N.l.length cO] w fun e w'=>e = .returned (zZ (Y).1 (Y).2)∧Below w.heap.size w w':=by
 obtain ⟨hn0,hn1,hl0,hl1⟩:=qD hv;have hn128:=yF hv hn;obtain ⟨r,hr⟩:∃ r,N.l.length=r+1:=⟨N.l.length-1,by omega⟩;have hr1:N.l.length-1=r:=by omega
 rw [hr1,hn] at hwd hY;obtain ⟨bL,oL,rfl,hbL,hcLL⟩:=hL (by omega);obtain ⟨bO,oO,rfl,hbO,hcO⟩:=hO (by omega);have hsb:∀ u∈vl (zI (qs (n:Int)) ((own N.l).getD r 0)),u.natAbs≤n:=fun u hu=>by
  obtain ⟨k,hk,rfl⟩:=zdN hu;rw [jQ,Bool.and_eq_true] at hk;have h1:=hk.1;rw [zbm] at h1;simp at h1;omega
 have hwi:=fun W (hb:Below w.heap.size w W) xn xd s hs hsm=>zil W b cl ch n lo hi Al Ah xn xd s (hT.below hb) (Nat.lt_of_lt_of_le hbs hb.size) (zy hb h6 hbs) (zy hb h7 hbs) (zy hb h8 hbs) (zy hb h9 hbs)
  ((hlo.below hb).more hb.size) ((hhi.below hb).more hb.size) hs hsm hb1 hb2
 have hwi:∀ W,Below w.heap.size w W→Calls Tryz.prog 113 #[.pointer (some ⟨b,11,none⟩),zZ (L.getD r (0,0)).1 (L.getD r (0,0)).2,zY (zI (qs (n:Int)) ((own N.l).getD r 0))] W fun e w'=>e = .returned (zZ ((RP n lo hi).wide (L.getD r (0,0)) (vl (zI (qs (n:Int)) ((own N.l).getD r 0)))).1 ((RP n lo hi).wide (L.getD r (0,0)) (vl (zI (qs (n:Int)) ((own N.l).getD r 0)))).2)∧Below W.heap.size W w' :=
  fun W hb=>hwi W hb _ _ _ hsb hwd
 have HY0:=hY;have HTB:=hT;clear hY hwd hsb hb1 hb2 hT hlo hhi hr1 h6 h7 h8 h9;have hbx:=((jx w N A c 24 _ rfl).alloc (.cells #[.string ⟨#[]⟩,.string ⟨#[]⟩] 60));have hrs:=(zU (w.alloc (.cells #[.int .i64 N.n,.slice A N.l.length c] 24)) #[.string ⟨#[]⟩,.string ⟨#[]⟩] 60 (w.heap.size+1) 2 (by simp) rfl);have hbl:=(((Below.refl w.heap.size w).alloc (zi _) (.cells #[.int .i64 N.n,.slice A N.l.length c] 24)).alloc (by simp) (.cells #[.string ⟨#[]⟩,.string ⟨#[]⟩] 60));have hrr:(N.l.length:Int)=(r:Int)+1:=by omega
 go_enter Tryz.func67, Tryz.ntmps67;go_upto_region 1 with (fail)
 go_cut [7] from 8 to 11 (fun x wx=>x = .int .i64 (r:Int)∧wx.rowIs w.heap.size 24 2 (ntF N A c)∧wx.rowIs (w.heap.size+1) 60 2 (zE #[.string ⟨#[]⟩,.string ⟨#[]⟩])∧Below w.heap.size w wx)
 case first =>
  go_wp2_with fail
  go_meet;rw [hn,hr] at hbx hrs hbl;exact ⟨by go_num,hbx,hrs,hbl⟩
 case rest =>
 obtain ⟨rfl,hbx,rr,hbc⟩:=hcut;have h5:=zy hbc h10 hbs;have o1:wc.cell? ⟨bO,oO+r*2,none⟩=some (.int .u64 (Cs.lo ((own N.l).getD r 0):Int)):=(hbc.cell (p:=⟨bO,oO+r*2,none⟩) hbO).trans ((hcO (r*2) (by omega)).trans (by rw [zfv]));have o2:wc.cell? ⟨bO,oO+r*2+1,none⟩=some (.int .u64 (Cs.hi ((own N.l).getD r 0):Int)):=(hbc.cell (p:=⟨bO,oO+r*2+1,none⟩) hbO).trans ((hcO (r*2+1) (by omega)).trans (by rw [zfu]));have cn:wc.cell? ⟨w.heap.size,0,none⟩=some (.int .i64 (n:Int)):=by rw [← hn];exact hbx.cell (i:=0) (by decide)
 have hS0:=h5;have lx:wc.cell? ⟨bL,oL+r*2,none⟩=some (.string (zb (L.getD r (0,0)).1)):=(hbc.cell (p:=⟨bL,oL+r*2,none⟩) hbL).trans ((hcLL (r*2) (by omega)).trans (by rw [jB]));have lx':wc.cell? ⟨bL,oL+r*2+1,none⟩=some (.string (zb (L.getD r (0,0)).2)):=(hbc.cell (p:=⟨bL,oL+r*2+1,none⟩) hbL).trans ((hcLL (r*2+1) (by omega)).trans (by rw [jC]));obtain ⟨x,hx⟩:∃ x,L.getD r (0,0)=x:=⟨_,rfl⟩;rw [hx] at lx lx' hwi HY0;obtain ⟨xn,xd⟩:=x;obtain ⟨s,hs⟩:∃ s,(own N.l).getD r 0=s:=⟨_,rfl⟩;rw [hs] at o1 o2 hwi HY0;obtain ⟨y,hy⟩:∃ y,(RP n lo hi).wide (xn,xd) (vl (zI (qs (n:Int)) s))=y:=⟨_,rfl⟩;rw [hy] at hwi;obtain ⟨yn,yd⟩:=y;have HY:=za (HY0.trans hy);have HWI:=za hwi;have hbw:b<wc.heap.size:=Nat.lt_of_lt_of_le hbs hbc.size;have hbLw:bL<wc.heap.size:=Nat.lt_of_lt_of_le hbL hbc.size;have hbOw:bO<wc.heap.size:=Nat.lt_of_lt_of_le hbO hbc.size;have hxw:=hbx.lt;have i1:(0:Int)≤(r:Int):=by omega
 have i2:(r:Int)<(N.l.length:Int):=by omega
 clear hwi hy HY0 hs hcLL hcO h5 h10 hrs hbl hr hx hrr hl0 hl1;have s1:=hS0;have s2:=lx;have s3:=lx';have s4:=cn;have s5:=o1;have s6:=o2;clear hS0 lx lx' cn o1 o2;go_wp2_with fail
 have HS:Hid (∀ W,Below wc.heap.size wc W→W.cell? ⟨b,17,none⟩=some (.slice (some ⟨bL,oL,none⟩) N.l.length cL)∧W.cell? ⟨bL,oL+r*2,none⟩=some (.string (zb xn))∧W.cell? ⟨bL,oL+r*2+1,none⟩=some (.string (zb xd))∧W.cell? ⟨w.heap.size,0,none⟩=some (.int .i64 (n:Int))∧W.cell? ⟨bO,oO+r*2,none⟩=some (.int .u64 (Cs.lo s:Int))∧W.cell? ⟨bO,oO+r*2+1,none⟩=some (.int .u64 (Cs.hi s:Int))):=za fun W hb=>⟨zy hb s1 hbw,zy hb s2 hbLw,zy hb s3 hbLw,zy hb s4 hxw,zy hb s5 hbOw,zy hb s6 hbOw⟩;refine yc (n:=_) (PX:=[zc (.pointer (some ⟨b,11,none⟩)),
    zc (.pointer (some ⟨b,11,none⟩)),
    zc (.pointer (some ⟨b,11,none⟩)),
    zc (.pointer (some ⟨b,17,none⟩)),
    zc (.slice (some ⟨bL,oL,none⟩) N.l.length cL),
    zc (.int .i64 (r:Int)),
    zc (.pointer (some ⟨bL,oL+r*2,none⟩)),
    zc (.agg #[.string (zb xn),.string (zb xd)]),
    zc (.pointer (some ⟨w.heap.size,0,none⟩)),
    zc (.int .i64 (n:Int)),
    zc (zY (qs (n:Int))),
    zc (.slice (some ⟨bO,oO,none⟩) N.l.length cO),
    zc (.int .i64 (r:Int)),
    zc (.pointer (some ⟨bO,oO+r*2,none⟩)),
    zc (zY s),
    zc (zY (zI (qs (n:Int)) s)),
    zc (.agg #[.string (zb yn),.string (zb yd)])])
   (AL:=[]) (DP:=[[],[],[1],[2],[3],[],[4,5],[6],[],[8],[9],[],[],[11,12],[13],[10,14],[0,7,15]]) (L1:=[0,1,2,3,4,5,6,7,8,9,10,11,12,13,14,15,16]) (ex:=[]) (by kernel_rfl) rfl (by kernel_rfl) ?_ ?_ (yf ?_)
 ·repeat' first|exact zO|refine ze ?_ ?_|exact fun _ _ _ _ h _=>h
 ·refine ze (zg rfl [] ?_) (ze (zg rfl [] ?_) (ze (zg rfl [(1,some 13)] ?_) (ze (zg rfl [(2,some 14)] ?_) (ze (zg rfl [(3,some 15)] ?_) (ze (zg rfl [] ?_) (ze (zg rfl [(4,some 16),(5,some 17)] ?_) (ze (zg rfl [(6,some 18)] ?_) (ze (zg rfl [] ?_) (ze (zg rfl [(8,some 20)] ?_) (ze ?_ (ze (zg rfl [] ?_) (ze (zg rfl [] ?_) (ze (zg rfl [(11,some 23),(12,some 24)] ?_) (ze (zg rfl [(13,some 25)] ?_) (ze ?_ (ze ?_ zO))))))))))))))));all_goals try (intro vs W hW hd K hK;(try simp only [zR,zc,and_true,List.getD_cons_succ,List.getD_cons_zero] at hd);(first | simp only [hd,zo,Act.put,zx,zw,zv,zm,zl,zk] at hK ⊢ | simp only [zo,Act.put,zx,zw,zv,zm,zl,zk] at hK ⊢ | skip);obtain ⟨m1,m2,m3,m4,m5,m6⟩:=HS.out W hW;go_simp;exact hK.out _ _ rfl (zA _ _) (qS rfl))
  ·refine qo rfl [(9,some 21)] ?_;intro vs W hW hd K hK;have d9:vs 9 = .int .i64 (n:Int):=hd 9 (by decide);clear hd;try simp only [d9,zo,Act.put,zx,zw,zv,zm,zl,zk] at hK ⊢
   go_simp;go_at_call 112;(with_reducible first | refine (xc _ _).mono ?_);rintro e w9 ⟨rfl,hb9⟩;exact hK.out _ _ (rfl) hb9 (fun h=>absurd h (by decide))
  ·refine qo rfl [(10,some 22),(14,some 26)] ?_;intro vs W hW hd K hK;have d10:vs 10=zY (qs (n:Int)):=hd 10 (by decide);have d14:vs 14=zY s:=hd 14 (by decide);clear hd;try simp only [d10,d14,zo,Act.put,zx,zw,zv,zm,zl,zk] at hK ⊢
   go_simp;go_at_call 111;(with_reducible first | refine (zdg _ _ _).mono ?_);rintro e w9 ⟨rfl,hb9⟩;exact hK.out _ _ (rfl) hb9 (fun h=>absurd h (by decide))
  ·refine qo rfl [(0,some 12),(7,some 19),(15,some 27)] ?_;intro vs W hW hd K hK;have d0:vs 0 = .pointer (some ⟨b,11,none⟩):=hd 0 (by decide);have d7:vs 7 = .agg #[.string (zb xn),.string (zb xd)]:=hd 7 (by decide);have d15:vs 15=zY (zI (qs (n:Int)) s):=hd 15 (by decide);clear hd;try simp only [d0,d7,d15,zo,Act.put,zx,zw,zv,zm,zl,zk] at hK ⊢
   go_simp;go_at_call 113;(with_reducible first | refine (HWI.out _ (zu hbc hW hbc.size)).mono ?_);rintro e w9 ⟨rfl,hb9⟩;exact hK.out _ _ (rfl) hb9 (fun h=>absurd h (by decide))
 refine qT [(0,some 12),(1,some 13),(2,some 14),(3,some 15),(4,some 16),(5,some 17),(6,some 18),(7,some 19),(8,some 20),(9,some 21),(10,some 22),(11,some 23),(12,some 24),(13,some 25),(14,some 26),(15,some 27),(16,some 28)] #[true,true,true,true,true,true,true,true,true,true,true,true,true,true,true,true,true,false] 1 ?_;intro vs Wf hW hd hbk hdis kf;simp only [zR,zc,and_true,List.getD_cons_succ,List.getD_cons_zero] at hd;obtain ⟨d0,d1,d2,d3,d4,d5,d6,d7,d8,d9,d10,d11,d12,d13,d14,d15,d16⟩:=hd;clear hbk hdis;try simp only [d0,d1,d2,d3,d4,d5,d6,d7,d8,d9,d10,d11,d12,d13,d14,d15,d16,zo,Act.put,zx,zw,zv,zm,zl,zk]
 clear d0 d1 d2 d3 d4 d5 d6 d7 d8 d9 d10 d11 d12 d13 d14 d15 d16 vs;clear HS;have rf:=zh rr hW;have c0:=rf.cell (i:=0) (by decide);have z0:=rf.frozen 0;have c1:=rf.cell (i:=1) (by decide);have z1:=rf.frozen 1;refine qt 17 (by kernel_rfl) rfl (fun K hK=>?_);go_simp;refine hK.out _ _ ?_;clear hK K;try simp only [zo,Act.put,zx,zw,zv,zm,zl,zk]
 refine qV (by kernel_rfl) ?_ _;all_goals
  have hbf:=zu hbc hW hbc.size;try go_wp2
  exact zck rfl yn yd rfl (zdU (yH rf _ _)) rfl ⟨by rw [HY.out],(hbf.setCell (by simp <;> omega) _).setCell (by simp <;> omega) _⟩
end Go.Proofs.YtoljkoifgnmbgaaGreatDoor
